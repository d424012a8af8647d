/- Contracts of the functions of the program and of the reference, each proved by a walk through its code. -/
import Derived.WalkKit
import Derived.WalkSpells
import Derived.WalkLawsBesides
import Derived.Deep.Draws
import Derived.Lib.Hide
import Derived.Maps.AppendAt
import Derived.OwnWalk
import Derived.Deep.MidRow
import Derived.Laws.ResultCell
import Derived.Deep.Upon
import Derived.Great.FillDense
import Derived.Laws.Tables
import Derived.Laws.BytesArg
import Derived.Laws.MakeOwn
import Derived.Great.BuildSlice
import Derived.ArgAppend
import Derived.Deep.AppendSrc
import Derived.Test.YtbmlfcjoeieibaaProg
import Derived.KernelRfl
import Derived.Orders
import Derived.Laws.IdiomStrings
import Derived.Lib.AppendZerosOnto
import Derived.ProofKit
import Derived.OpenShut
import Derived.Laws.StructEq
import Derived.ChangeKeysEq
import Derived.Test.YtbmlfcjoeieibaaChecked
import Derived.Test.YtbmlfcjoeieibaaGOb5
set_option linter.all false
set_option maxRecDepth 20000
namespace Go.Proofs.Ytbmlfcjoeieibaa
open Go.RowKit

abbrev strL (l : List (List UInt8)) : List (List DV) := l.map (fun s => [dS (bstr s)])
abbrev vStr (l : List (List UInt8)) : DV := .view 9 1 (strL l)
theorem strL_len (l : List (List UInt8)) : (strL l).length = l.length := List.length_map _
theorem strL_get {l : List (List UInt8)} {k : Nat} (h : k < l.length) : (strL l)[k]? = some [dS (bstr l[k])] := by rw [List.getElem?_map, List.getElem?_eq_getElem h]; rfl
theorem strL_at {l : List (List UInt8)} {i : Int} (h : i.toNat < l.length) : (strL l)[i.toNat]? = some [dS (bstr (cAtL l i))] := by
  rw [strL_get h]; unfold cAtL; rw [List.getD_eq_getElem?_getD, List.getElem?_eq_getElem h]; rfl
theorem strL_rep (n : Nat) (c : List UInt8) : strL (List.replicate n c) = List.replicate n [dS (bstr c)] := List.map_replicate
theorem strL_set (l : List (List UInt8)) (i : Nat) (c : List UInt8) : (strL l).set i [dS (bstr c)] = strL (l.set i c) := by simp [strL, List.map_set]
theorem any_nil (cs : List (List UInt8)) : cs.any (fun x => decide ([] = x)) = cs.any (fun c => decide (c = [])) := by
  congr 1; funext x; cases x <;> rfl
def cdD (m : Mach) : DV := match codesB m with | none => .val (.slice none 0 0) | some cs => vStr cs
def okRun (m : Mach) : Bool := match codesB m with | none => false | some _ => true
theorem pass_step {l : List Bur} {k : Nat} (hk : k < l.length) (cs : List (List UInt8)) : passB (l.drop k) cs = match stepB cs l[k] with | none => none | some cs' => passB (l.drop (k + 1)) cs' := by
  rw [List.drop_eq_getElem_cons hk, passB]; rfl
theorem labs_in {s : List Sig} {n : Int} {b : Bur} (h : (0 ≤ b.from_ ∧ b.from_ < n) ∧ (0 ≤ b.to_ ∧ b.to_ < n) ∧ b.inn.length ≠ 0 ∧ labsB s b.inn 1 = true ∧ labsB s b.out 2 = true) : ∀ x, x ∈ allL b → 0 ≤ x.sig ∧ x.sig < s.length := by
  intro x hx
  rcases List.mem_append.1 hx with h1 | h1
  · exact labsB_in h.2.2.2.1 x h1
  · exact labsB_in h.2.2.2.2 x h1
theorem stepB_skip {cs : List (List UInt8)} {b : Bur} (h : cAtL cs b.from_ = []) : stepB cs b = some cs := by rw [stepB, if_pos h]
theorem turnR_t {c : List UInt8} {l : List Lab} (h : (turnR c l).2 = true) : turnL c l = some (turnR c l).1 := by
  unfold turnR at h ⊢
  cases e : turnL c l with
  | none => rw [e] at h; cases h
  | some c' => rfl
theorem turnR_f {c : List UInt8} {l : List Lab} (h : (turnR c l).2 = false) : turnL c l = none := by
  unfold turnR at h
  cases e : turnL c l with
  | none => rfl
  | some c' => rw [e] at h; cases h
theorem stepB_bad1 {cs : List (List UInt8)} {b : Bur} (h : cAtL cs b.from_ ≠ []) (h2 : (!(turnR (cAtL cs b.from_) (allL b)).2) = true) : stepB cs b = none := by
  rw [stepB, if_neg h, turnR_f ((Bool.not_eq_true' _).mp h2)]
theorem stepB_bad2 {cs : List (List UInt8)} {b : Bur} (h : cAtL cs b.from_ ≠ []) (h2 : (!(turnR (cAtL cs b.from_) (allL b)).2) = false) (h3 : cAtL cs b.to_ ≠ []) (h4 : cAtL cs b.to_ ≠ (turnR (cAtL cs b.from_) (allL b)).1) : stepB cs b = none := by
  rw [stepB, if_neg h, turnR_t ((Bool.not_eq_false' _).mp h2)]
  simp only
  rw [if_pos ⟨h3, h4⟩]
theorem stepB_go {cs : List (List UInt8)} {b : Bur} (h : cAtL cs b.from_ ≠ []) (h2 : (!(turnR (cAtL cs b.from_) (allL b)).2) = false) (h3 : cAtL cs b.to_ = [] ∨ cAtL cs b.to_ = (turnR (cAtL cs b.from_) (allL b)).1) : stepB cs b = some (cs.set b.to_.toNat (turnR (cAtL cs b.from_) (allL b)).1) := by
  rw [stepB, if_neg h, turnR_t ((Bool.not_eq_false' _).mp h2)]
  simp only
  rw [if_neg (fun ⟨a, b⟩ => h3.elim a b)]
set_option maxHeartbeats 1000000 in
theorem indexStr_spec (l : List (List UInt8)) (hl : l.length ≤ 2000000) (v : List UInt8) : ASpec Try.prog 71 [.d (vStr l), aS (bstr v)] [] (Pure1 (aI (findI (fun x => decide (v = x)) l))) := by
  refine ASpec.of Try.func71 rfl rfl fun C hC => ?_
  refine AC.seq ?_
  refine AC.region ?_
  refine AL.p (by exact as1 rfl) rfl ?_
  refine AL.nil ?_
  refine th_n ?_
  refine AC.seq ?_
  refine AC.seq ?_
  refine AC.region ?_
  refine AL.p (by exact mv1 rfl) rfl ?_
  refine AL.p (by exact g_len_view rfl rfl (by exact List.length_map _)) rfl ?_
  refine AL.p (by exact mv1 rfl) rfl ?_
  refine AL.nil ?_
  refine th_n ?_
  refine AC.block ?_
  refine AC.loop (ι := Nat) (fun k => ⟨19, 0, [(0, .d (vStr l)), (1, aS (bstr v)), (6, .d (vStr l)), (7, aI l.length), (8, aI k)], []⟩) (fun k => k ≤ l.length ∧ ∀ j (hj : j < l.length), j < k → (fun x => decide (v = x)) l[j] = false) (fun k => l.length - k) (0) ?_ (⟨Nat.zero_le _, fun j _ hj => by omega⟩) ?_
  · refine Weak.ren _ [] hC rfl ?_ ?_ rfl rfl rfl <;> repeat (first | exact True.intro | refine And.intro ?_ ?_ | exact DLead.same)
  · intro k ⟨hk, hall⟩
    refine AC.seq ?_
    refine AC.region ?_
    refine AL.p (by exact g_cmp rfl rfl rfl) rfl ?_
    refine AL.nil ?_
    refine th_n ?_
    refine AC.seq ?_
    refine AC.condD rfl (fun h0 => ?_) (fun h0 => ?_)
    · refine AC.skip ?_
      refine th_n ?_
      refine AC.seq ?_
      refine AC.block ?_
      refine AC.seq ?_
      have hk1 : k < l.length := by omega
      have hget := strL_get hk1
      refine AC.region ?_
      refine AL.p (by exact mv1 rfl) rfl ?_
      refine AL.p (by exact as1 rfl) rfl ?_
      refine AL.nil ?_
      refine th_n ?_
      refine AC.seq ?_
      refine AC.region ?_
      refine AL.p (by exact mv1 rfl) rfl ?_
      refine AL.p (by exact mv1 rfl) rfl ?_
      refine AL.p (by exact mv1 rfl) rfl ?_
      refine AL.p (by exact g_ia_view rfl rfl rfl rfl rfl (by rfl) (by assumption)) rfl ?_
      refine AL.p (by exact g_load_ref rfl rfl rfl) rfl ?_
      refine AL.p (by exact g_scmp rfl rfl rfl) rfl ?_
      refine AL.nil ?_
      refine th_n ?_
      refine AC.condD rfl (fun h1 => ?_) (fun h1 => ?_)
      · refine AC.seq ?_
        refine AC.region ?_
        refine AL.p (by exact mv1 rfl) rfl ?_
        refine AL.p (by exact as1 rfl) rfl ?_
        refine AL.nil ?_
        refine th_n ?_
        refine AC.ret ?_
        refine ib_r ?_
        refine th_r ?_
        refine th_r ?_
        refine ib_r ?_
        refine th_r ?_
        refine bq_r ?_
        exact ret1 rfl (by rw [findI_at hk1 (p := fun x => decide (v = x)) (decide_eq_true (bstr_inj h1)) (fun j hj => hall j (by omega) hj)])
      · refine AC.skip ?_
        refine ib_n ?_
        refine th_n ?_
        refine AC.region ?_
        refine AL.p (by exact g_arith rfl rfl rfl (by exact wrap_i64 (by omega))) rfl ?_
        refine AL.p (by exact mv1 rfl) rfl ?_
        refine AL.nil ?_
        refine th_n ?_
        exact ⟨k + 1, ⟨by omega, fun j hj hj2 => by rcases Nat.lt_succ_iff_lt_or_eq.1 hj2 with h | rfl; exact hall j hj h; exact decide_eq_false (fun e => h1 (by rw [e]))⟩, by omega, Weak.ren _ [] hC rfl (by repeat (first | exact True.intro | refine And.intro ?_ ?_ | exact DLead.same)) (by repeat (exact True.intro)) rfl rfl rfl⟩
    · refine AC.exit ?_
      refine th_e ?_
      refine th_e ?_
      refine ib_y ?_
      refine th_n ?_
      refine AC.seq ?_
      refine AC.region ?_
      refine AL.p (by exact as1 rfl) rfl ?_
      refine AL.nil ?_
      refine th_n ?_
      refine AC.ret ?_
      refine bq_r ?_
      exact ret1 rfl (by rw [findI_none (fun j hj => hall j hj (by omega))])
theorem en_indexStr : Enters Try.prog 71 := enters_of Try.func71 rfl rfl
theorem containsStr_spec (l : List (List UInt8)) (hl : l.length ≤ 2000000) (v : List UInt8) : ASpec Try.prog 63 [.d (vStr l), aS (bstr v)] [] (Pure1 (aT (l.any (fun x => decide (v = x))))) := by
  have hI := indexStr_spec l hl v
  refine ASpec.of Try.func63 rfl rfl fun C hC => ?_
  refine AC.seq ?_
  refine AC.region ?_
  refine AL.p (by exact as1 rfl) rfl ?_
  refine AL.nil ?_
  refine th_n ?_
  refine AC.seq ?_
  refine AC.region ?_
  refine AL.p (by exact mv1 rfl) rfl ?_
  refine AL.p (by exact mv1 rfl) rfl ?_
  refine AL.q (by exact h_pure en_indexStr rfl rfl (by repeat (first | exact rfl | exact DLead.same | refine ⟨_, _, rfl, ?_, ?_⟩)) hI rfl) rfl ?_
  refine AL.p (by exact g_cmp rfl rfl rfl) rfl ?_
  refine AL.p (by exact as1 rfl) rfl ?_
  refine AL.nil ?_
  refine th_n ?_
  refine AC.ret ?_
  refine bq_r ?_
  exact ret1 rfl (by rw [findI_any])
theorem en_containsStr : Enters Try.prog 63 := enters_of Try.func63 rfl rfl
set_option maxHeartbeats 1000000 in
theorem l1HasS_spec (l : List (List UInt8)) (hl : l.length ≤ 2000000) (v : List UInt8) : ASpec Try.prog 30 [.d (vStr l), aS (bstr v)] [] (Pure1 (aT (l.any (fun x => decide (x = v))))) := by
  refine ASpec.of Try.func30 rfl rfl fun C hC => ?_
  refine AC.seq ?_
  refine AC.region ?_
  refine AL.p (by exact as1 rfl) rfl ?_
  refine AL.nil ?_
  refine th_n ?_
  refine AC.seq ?_
  refine AC.seq ?_
  refine AC.region ?_
  refine AL.p (by exact mv1 rfl) rfl ?_
  refine AL.p (by exact g_len_view rfl rfl (by exact List.length_map _)) rfl ?_
  refine AL.p (by exact mv1 rfl) rfl ?_
  refine AL.nil ?_
  refine th_n ?_
  refine AC.block ?_
  refine AC.loop (ι := Nat) (fun k => ⟨17, 0, [(1, aS (bstr v)), (7, .d (vStr l)), (8, aI l.length), (9, aI k)], []⟩) (fun k => k ≤ l.length ∧ ∀ j (hj : j < l.length), j < k → (fun x => decide (x = v)) l[j] = false) (fun k => l.length - k) (0) ?_ (⟨Nat.zero_le _, fun j _ hj => by omega⟩) ?_
  · refine Weak.ren _ [] hC rfl ?_ ?_ rfl rfl rfl <;> repeat (first | exact True.intro | refine And.intro ?_ ?_ | exact DLead.same)
  · intro k ⟨hk, hall⟩
    refine AC.seq ?_
    refine AC.region ?_
    refine AL.p (by exact g_cmp rfl rfl rfl) rfl ?_
    refine AL.nil ?_
    refine th_n ?_
    refine AC.seq ?_
    refine AC.condD rfl (fun h0 => ?_) (fun h0 => ?_)
    · refine AC.skip ?_
      refine th_n ?_
      refine AC.seq ?_
      refine AC.block ?_
      refine AC.seq ?_
      have hk1 : k < l.length := by omega
      have hget := strL_get hk1
      refine AC.region ?_
      refine AL.p (by exact g_ia_view rfl rfl rfl rfl rfl (by rfl) (by assumption)) rfl ?_
      refine AL.p (by exact g_load_ref rfl rfl rfl) rfl ?_
      refine AL.p (by exact as1 rfl) rfl ?_
      refine AL.nil ?_
      refine th_n ?_
      refine AC.seq ?_
      refine AC.region ?_
      refine AL.p (by exact mv1 rfl) rfl ?_
      refine AL.p (by exact mv1 rfl) rfl ?_
      refine AL.p (by exact g_scmp rfl rfl rfl) rfl ?_
      refine AL.nil ?_
      refine th_n ?_
      refine AC.condD rfl (fun h1 => ?_) (fun h1 => ?_)
      · refine AC.seq ?_
        refine AC.region ?_
        refine AL.p (by exact as1 rfl) rfl ?_
        refine AL.nil ?_
        refine th_n ?_
        refine AC.ret ?_
        refine ib_r ?_
        refine th_r ?_
        refine th_r ?_
        refine ib_r ?_
        refine th_r ?_
        refine bq_r ?_
        exact ret1 rfl (by rw [List.any_eq_true.2 ⟨_, List.getElem_mem hk1, decide_eq_true (bstr_inj h1)⟩])
      · refine AC.skip ?_
        refine ib_n ?_
        refine th_n ?_
        refine AC.region ?_
        refine AL.p (by exact g_arith rfl rfl rfl (by exact wrap_i64 (by omega))) rfl ?_
        refine AL.p (by exact mv1 rfl) rfl ?_
        refine AL.nil ?_
        refine th_n ?_
        exact ⟨k + 1, ⟨by omega, fun j hj hj2 => by rcases Nat.lt_succ_iff_lt_or_eq.1 hj2 with h | rfl; exact hall j hj h; exact decide_eq_false (fun e => h1 (by rw [e]))⟩, by omega, Weak.ren _ [] hC rfl (by repeat (first | exact True.intro | refine And.intro ?_ ?_ | exact DLead.same)) (by repeat (exact True.intro)) rfl rfl rfl⟩
    · refine AC.exit ?_
      refine th_e ?_
      refine th_e ?_
      refine ib_y ?_
      refine th_n ?_
      refine AC.seq ?_
      refine AC.region ?_
      refine AL.p (by exact as1 rfl) rfl ?_
      refine AL.nil ?_
      refine th_n ?_
      refine AC.ret ?_
      refine bq_r ?_
      exact ret1 rfl (by rw [List.any_eq_false.2 (fun x hx => by obtain ⟨j, hj, rfl⟩ := List.getElem_of_mem hx; have := hall j hj (by omega); simpa using this)])
theorem en_l1HasS : Enters Try.prog 30 := enters_of Try.func30 rfl rfl
set_option maxHeartbeats 4000000 in
theorem codesOf_spec (m : Mach) (hS : SmM m) (hF : FormM m) : ASpec Try.prog 50 [machA m] [] (Pure1 (.tup [.d (cdD m), aT (okCodes m)])) := by
  obtain ⟨n, hn⟩ : ∃ n : Nat, m.states = n := ⟨m.states.toNat, by have := hF.st; omega⟩
  have hst := hF.st
  have hsl := hF.sl
  have hbl := hF.bl
  have hbeg := CodesOk.beg hF
  rw [show m.states.toNat = n by omega] at hbeg
  have hrun : codesB m = runB m.burs n (begB m) := by rw [codesB, show m.states.toNat = n by omega]
  have hbg : begB m = (List.replicate n ([] : List UInt8)).set 0 m.first := by rw [begB, show m.states.toNat = n by omega]
  have hfi := hS.f
  refine ASpec.of Try.func50 rfl rfl fun C hC => ?_
  refine AC.seq ?_
  refine AC.region ?_
  refine AL.q (by exact h_boxF rfl rfl) rfl ?_
  refine AL.p (by exact as1 rfl) rfl ?_
  refine AL.p (by exact as1 rfl) rfl ?_
  refine AL.nil ?_
  refine th_n ?_
  refine AC.seq ?_
  refine AC.region ?_
  refine AL.p (by exact g_fa_ref rfl rfl rfl rfl rfl rfl) rfl ?_
  refine AL.p (by exact g_load_ref rfl rfl rfl) rfl ?_
  refine AL.q (by exact h_make (k := n) rfl rfl rfl rfl rfl rfl rfl hn (by show 16 * n ≤ _; omega) (by omega)) rfl ?_
  refine AL.p (by exact as2 rfl) rfl ?_
  refine AL.nil ?_
  refine th_n ?_
  refine AC.seq ?_
  refine AC.weak (t := ⟨74, 108, [(1, .d (.ref (machD m))), (4, .own 100 n)], [(100, some (.arr 9 1 (strL (List.replicate n []))))]⟩) (Weak.ren _ [(100, 8)] hC rfl (by repeat (first | exact True.intro | refine And.intro ?_ ?_ | exact DLead.same | exact rfl | refine ⟨_, rfl, ?_⟩)) (by rw [strL_rep]; repeat (first | exact True.intro | refine And.intro ?_ ?_ | exact rfl | refine ⟨_, _, rfl, rfl, ?_⟩)) rfl rfl rfl) ?_
  have hget0 : (strL (List.replicate n []))[0]? = some [dS (bstr [])] := by rw [strL_rep, List.getElem?_replicate, if_pos (by omega)]
  refine AC.region ?_
  refine AL.p (by exact mv2 rfl) rfl ?_
  refine AL.p (by exact g_fa_ref rfl rfl rfl rfl rfl rfl) rfl ?_
  refine AL.p (by exact g_load_ref rfl rfl rfl) rfl ?_
  refine AL.p (by exact g_ia_own (i := 0) rfl rfl rfl rfl rfl rfl (by omega) rfl) rfl ?_
  refine AL.q (by exact h_store_arr1 rfl rfl rfl rfl .same hget0) rfl ?_
  refine AL.nil ?_
  refine th_n ?_
  refine AC.seq ?_
  refine AC.seq ?_
  refine AC.region ?_
  refine AL.p (by exact g_fa_ref rfl rfl rfl rfl rfl rfl) rfl ?_
  refine AL.p (by exact g_load_ref rfl rfl rfl) rfl ?_
  refine AL.p (by exact mv1 rfl) rfl ?_
  refine AL.nil ?_
  refine th_n ?_
  refine AC.block ?_
  refine AC.loop (ι := Nat × List (List UInt8)) (fun x => ⟨74, 108, [(1, .d (.ref (machD m))), (4, .own 100 n), (17, aI n), (18, aI x.1)], [(100, some (.arr 9 1 (strL x.2)))]⟩) (fun x => x.1 ≤ n ∧ CodesOk m.sigs.length n x.2 ∧ runB m.burs (n - x.1) x.2 = codesB m) (fun x => n - x.1) ((0, begB m)) ?_ (⟨Nat.zero_le _, hbeg, hrun.symm⟩) ?_
  · exact Weak.ren _ [(100, 100)] hC rfl (by rw [hn]; repeat (first | exact True.intro | refine And.intro ?_ ?_ | exact DLead.same | exact rfl | refine ⟨_, rfl, ?_⟩)) (by rw [hbg, ← strL_set]; repeat (first | exact True.intro | refine And.intro ?_ ?_ | exact rfl | refine ⟨_, _, rfl, rfl, ?_⟩)) rfl rfl rfl
  · rintro ⟨r, cs⟩ ⟨hr, hok, hcd⟩
    dsimp only at hr hok hcd ⊢
    refine AC.seq ?_
    refine AC.region ?_
    refine AL.p (by exact g_cmp rfl rfl rfl) rfl ?_
    refine AL.nil ?_
    refine th_n ?_
    refine AC.seq ?_
    refine AC.condD rfl (fun h0 => ?_) (fun h0 => ?_)
    · refine AC.skip ?_
      refine th_n ?_
      refine AC.seq ?_
      refine AC.block ?_
      refine AC.seq ?_
      refine AC.region ?_
      refine AL.p (by exact g_fa_ref rfl rfl rfl rfl rfl rfl) rfl ?_
      refine AL.p (by exact g_load_ref rfl rfl rfl) rfl ?_
      refine AL.p (by exact g_len_view rfl rfl (by exact List.length_map _)) rfl ?_
      refine AL.p (by exact mv1 rfl) rfl ?_
      refine AL.nil ?_
      refine th_n ?_
      refine AC.block ?_
      refine AC.loop (ι := Nat × List (List UInt8)) (fun x => ⟨74, 108, [(1, .d (.ref (machD m))), (4, .own 100 n), (17, aI n), (18, aI r), (21, .d (vBurs m.burs)), (22, aI m.burs.length), (23, aI x.1)], [(100, some (.arr 9 1 (strL x.2)))]⟩) (fun x => x.1 ≤ m.burs.length ∧ CodesOk m.sigs.length n x.2 ∧ passB (m.burs.drop x.1) x.2 = passB m.burs cs) (fun x => m.burs.length - x.1) ((0, cs)) ?_ (⟨Nat.zero_le _, hok, rfl⟩) ?_
      · exact Weak.ren _ [(100, 100)] hC rfl (by repeat (first | exact True.intro | refine And.intro ?_ ?_ | exact DLead.same | exact rfl | refine ⟨_, rfl, ?_⟩)) (by repeat (first | exact True.intro | refine And.intro ?_ ?_ | exact rfl | refine ⟨_, _, rfl, rfl, ?_⟩)) rfl rfl rfl
      · rintro ⟨k, cc⟩ ⟨hk, hok2, hps⟩
        dsimp only at hk hok2 hps ⊢
        refine AC.seq ?_
        refine AC.region ?_
        refine AL.p (by exact g_cmp rfl rfl rfl) rfl ?_
        refine AL.nil ?_
        refine th_n ?_
        refine AC.seq ?_
        refine AC.condD rfl (fun h1 => ?_) (fun h1 => ?_)
        · refine AC.skip ?_
          refine th_n ?_
          refine AC.seq ?_
          refine AC.block ?_
          refine AC.seq ?_
          have hr1 : r < n := by omega
          have hk1 : k < m.burs.length := by omega
          have hget := bursL_get hk1
          have hmem := List.getElem_mem hk1
          have hbi := burB_iff (hF.b _ hmem)
          have hbl2 := hS.bl _ hmem
          have hps2 := pass_step hk1 cc
          refine AC.region ?_
          refine AL.p (by exact g_ia_view rfl rfl rfl rfl rfl (by rfl) (by assumption)) rfl ?_
          refine AL.p (by exact g_load_refN rfl rfl rfl rfl) rfl ?_
          refine AL.q (by exact h_alloc rfl) rfl ?_
          refine AL.q (by exact h_store rfl rfl rfl rfl rfl rfl) rfl ?_
          refine AL.nil ?_
          refine th_n ?_
          refine AC.seq ?_
          refine AC.seq ?_
          refine AC.weak (Weak.freezeRef (ds := burD m.burs[k]) 6 rfl rfl) ?_
          have hI1 : m.burs[k].from_ = ((m.burs[k].from_.toNat : Nat) : Int) := by omega
          have hI2 : m.burs[k].to_ = ((m.burs[k].to_.toNat : Nat) : Int) := by omega
          have hcl := hok2.l
          have hg1 : (strL cc)[m.burs[k].from_.toNat]? = some [dS (bstr (cAtL cc m.burs[k].from_))] := strL_at (by omega)
          have hg2 : (strL cc)[m.burs[k].to_.toNat]? = some [dS (bstr (cAtL cc m.burs[k].to_))] := strL_at (by omega)
          refine AC.region ?_
          refine AL.p (by exact mv2 rfl) rfl ?_
          refine AL.p (by exact g_fa_ref rfl rfl rfl rfl rfl rfl) rfl ?_
          refine AL.p (by exact g_load_ref rfl rfl rfl) rfl ?_
          refine AL.p (by exact g_ia_own rfl rfl rfl rfl rfl (by assumption) (by omega) (by exact Nat.mul_one _)) rfl ?_
          refine AL.p (by exact g_load_arr1 rfl rfl rfl rfl (by assumption)) rfl ?_
          refine AL.p (by exact g_scmp rfl rfl rfl) rfl ?_
          refine AL.nil ?_
          refine th_n ?_
          refine AC.condD rfl (fun h2 => ?_) (fun h2 => ?_)
          · refine AC.exit ?_
            refine th_e ?_
            refine ib_y ?_
            refine th_n ?_
            refine AC.region ?_
            refine AL.p (by exact g_arith rfl rfl rfl (by exact wrap_i64 (by omega))) rfl ?_
            refine AL.p (by exact mv1 rfl) rfl ?_
            refine AL.nil ?_
            refine th_n ?_
            (have e := stepB_skip (b := m.burs[k]) (bstr_inj (b := []) h2); rw [e] at hps2; exact ⟨(k + 1, cc), ⟨hk1, hok2, hps2.symm.trans hps⟩, by show m.burs.length - (k + 1) < m.burs.length - k; omega, Weak.ren _ [(100, 100)] hC rfl (by repeat (first | exact True.intro | refine And.intro ?_ ?_ | exact DLead.same | exact rfl | refine ⟨_, rfl, ?_⟩)) (by repeat (first | exact True.intro | refine And.intro ?_ ?_ | exact rfl | refine ⟨_, _, rfl, rfl, ?_⟩)) rfl rfl rfl⟩)
          · refine AC.skip ?_
            refine th_n ?_
            refine AC.seq ?_
            have hne : cAtL cc m.burs[k].from_ ≠ [] := fun e => h2 (by rw [e]; rfl)
            have hbc := (hok2.at m.burs[k].from_).resolve_left hne
            have hinn := labs_in hbi
            have hgo := stepB_go hne (b := m.burs[k])
            have hb1 := stepB_bad1 hne (b := m.burs[k])
            have hb2 := stepB_bad2 hne (b := m.burs[k])
            have hLs := burLabels_spec m.burs[k] hbl2.1 hbl2.2 hbi.2.2.1
            have hTn := switchedCode_spec (cAtL cc m.burs[k].from_) (allL m.burs[k]) (by rw [hbc.1]; omega) (by rw [List.length_append]; omega) (fun x hx => by rw [hbc.1]; exact hinn x hx)
            obtain ⟨tr, htr⟩ : ∃ t, t = turnR (cAtL cc m.burs[k].from_) (allL m.burs[k]) := ⟨_, rfl⟩
            rw [← htr] at hTn hgo hb1 hb2
            obtain ⟨nx, ok⟩ := tr
            dsimp only at hTn hgo hb1 hb2
            refine AC.drawn' mixed_ok [[], [], [1], [0,1,2], [0,1,2,3], [], [5], [0,1,2,3,4,5,6], [0,1,2,3,4,5,6,7], [0,1,2,3,4,5,6,7,8], [0,1,2,3,4,5,6,7,8], [0,1,2,3,4,5,6,7,8,9], [0,1,2,3,4,5,6,7,8,9,10,11]] (by decide) ?_
            refine DF.op 0 [] 13 rfl rfl rfl (.free rfl (NOp.of (by exact mv2 rfl))) rfl ?_
            refine DF.op 1 [] 13 rfl rfl rfl (.free rfl (NOp.of (by exact g_fa_ref rfl rfl rfl rfl rfl rfl))) rfl ?_
            refine DF.op 2 [1] 13 rfl rfl rfl (.free rfl (NOp.of (by exact g_load_ref rfl rfl rfl))) rfl ?_
            refine DF.op 3 [0,1,2] 13 rfl rfl rfl (.free rfl (NOp.of (by exact g_ia_own rfl rfl rfl rfl rfl (by assumption) (by omega) (by exact Nat.mul_one _)))) rfl ?_
            refine DF.op 4 [0,1,2,3] 13 rfl rfl rfl (.free rfl (NOp.of (by exact g_load_arr1 rfl rfl rfl rfl (by assumption)))) rfl ?_
            refine DF.op 5 [] 13 rfl rfl rfl (.free rfl (NOp.of (by exact g_load_refN rfl rfl rfl rfl))) rfl ?_
            refine DF.op 6 [5] 13 rfl rfl rfl (.free rfl (by exact h_pure en_burLabels rfl rfl (by repeat (first | exact rfl | exact DLead.same | refine ⟨_, _, rfl, ?_, ?_⟩ | refine ⟨_, rfl, ?_⟩)) hLs rfl)) rfl ?_
            refine DF.op 7 [0,1,2,3,4,5,6] 13 rfl rfl rfl (.free rfl (by exact h_pure en_switchedCode rfl rfl (by repeat (first | exact rfl | exact DLead.same | refine ⟨_, _, rfl, ?_, ?_⟩)) hTn rfl)) rfl ?_
            refine DF.op 8 [0,1,2,3,4,5,6,7] 13 rfl rfl rfl (.free rfl (NOp.of (by exact mv5 rfl))) rfl ?_
            refine DF.op 9 [0,1,2,3,4,5,6,7,8] 13 rfl rfl rfl (.free rfl (NOp.of (by exact g_extract (r := .d _) rfl rfl))) rfl ?_
            refine DF.op 10 [0,1,2,3,4,5,6,7,8] 13 rfl rfl rfl (.free rfl (NOp.of (by exact g_extract (r := .d _) rfl rfl))) rfl ?_
            refine DF.op 11 [0,1,2,3,4,5,6,7,8,9] 13 rfl rfl rfl (.free rfl (NOp.of (by exact as1 rfl))) rfl ?_
            refine DF.op 12 [0,1,2,3,4,5,6,7,8,9,10,11] 13 rfl rfl rfl (.free rfl (NOp.of (by exact as1 rfl))) rfl ?_
            refine DF.fin (ps := [(0, 1), (0, 2), (0, 5), (0, 6), (1, 0), (1, 5), (1, 6), (2, 0), (2, 5), (2, 6), (3, 5), (3, 6), (4, 5), (4, 6), (5, 0), (5, 1), (5, 2), (5, 3), (5, 4), (6, 0), (6, 1), (6, 2), (6, 3), (6, 4), (9, 10), (10, 9), (10, 11), (11, 10)]) 13 rfl (by decide +kernel) (by decide +kernel) (by rfl) ?_
            refine th_n ?_
            refine AC.seq ?_
            refine AC.seq ?_
            refine AC.region ?_
            refine AL.p (by exact mv1 rfl) rfl ?_
            refine AL.p (by exact g_not rfl) rfl ?_
            refine AL.p (by exact mv1 rfl) rfl ?_
            refine AL.caseGB rfl rfl (fun h3 => ?_) (fun h3 => ?_)
            · refine AL.not rfl rfl rfl rfl rfl ?_
              refine AL.not rfl rfl rfl rfl rfl ?_
              refine AL.not rfl rfl rfl rfl rfl ?_
              refine AL.not rfl rfl rfl rfl rfl ?_
              refine AL.not rfl rfl rfl rfl rfl ?_
              refine AL.not rfl rfl rfl rfl rfl ?_
              refine AL.not rfl rfl rfl rfl rfl ?_
              refine AL.notU rfl rfl rfl ?_
              refine AL.notU rfl rfl rfl ?_
              refine AL.notU rfl rfl rfl ?_
              refine AL.notU rfl rfl rfl ?_
              refine AL.notU rfl rfl rfl ?_
              refine AL.notU rfl rfl rfl ?_
              refine AL.notU rfl rfl rfl ?_
              refine AL.not rfl rfl rfl rfl rfl ?_
              refine AL.p (by exact g_pickT (r := .d _) rfl rfl) rfl ?_
              refine AL.nil ?_
              refine th_n ?_
              refine AC.condT rfl ?_
              refine AC.seq ?_
              refine AC.region ?_
              refine AL.p (by exact as1 rfl) rfl ?_
              refine AL.p (by exact as1 rfl) rfl ?_
              refine AL.nil ?_
              refine th_n ?_
              refine AC.ret ?_
              refine th_r ?_
              refine ib_r ?_
              refine th_r ?_
              refine th_r ?_
              refine ib_r ?_
              refine ib_r ?_
              refine th_r ?_
              refine th_r ?_
              refine ib_r ?_
              refine th_r ?_
              refine bq_r ?_
              have e := hb1 h3
              rw [e] at hps2
              have hno : codesB m = none := by rw [← hcd, show n - r = (n - r - 1) + 1 by omega, runB, ← hps, hps2]
              exact ret2 rfl (by rw [cdD, hno]) (by rw [okCodes, hno])
            · refine AL.yes rfl rfl rfl ?_
              refine AL.p (by exact mv2 rfl) rfl ?_
              refine AL.yes rfl rfl rfl ?_
              refine AL.p (by exact g_fa_ref rfl rfl rfl rfl rfl rfl) rfl ?_
              refine AL.yes rfl rfl rfl ?_
              refine AL.p (by exact g_load_ref rfl rfl rfl) rfl ?_
              refine AL.yes rfl rfl rfl ?_
              refine AL.p (by exact g_ia_own rfl rfl rfl rfl rfl (by assumption) (by omega) (by exact Nat.mul_one _)) rfl ?_
              refine AL.yes rfl rfl rfl ?_
              refine AL.p (by exact g_load_arr1 rfl rfl rfl rfl (by assumption)) rfl ?_
              refine AL.yes rfl rfl rfl ?_
              refine AL.p (by exact g_scmp rfl rfl rfl) rfl ?_
              refine AL.yes rfl rfl rfl ?_
              refine AL.p (by exact mv1 rfl) rfl ?_
              refine AL.caseGN rfl rfl (fun h4 => ?_) (fun h4 => ?_)
              · refine AL.yes rfl rfl rfl ?_
                refine AL.p (by exact mv2 rfl) rfl ?_
                refine AL.yes rfl rfl rfl ?_
                refine AL.p (by exact g_fa_ref rfl rfl rfl rfl rfl rfl) rfl ?_
                refine AL.yes rfl rfl rfl ?_
                refine AL.p (by exact g_load_ref rfl rfl rfl) rfl ?_
                refine AL.yes rfl rfl rfl ?_
                refine AL.p (by exact g_ia_own rfl rfl rfl rfl rfl (by assumption) (by omega) (by exact Nat.mul_one _)) rfl ?_
                refine AL.yes rfl rfl rfl ?_
                refine AL.p (by exact g_load_arr1 rfl rfl rfl rfl (by assumption)) rfl ?_
                refine AL.yes rfl rfl rfl ?_
                refine AL.p (by exact mv1 rfl) rfl ?_
                refine AL.yes rfl rfl rfl ?_
                refine AL.p (by exact g_scmp rfl rfl rfl) rfl ?_
                refine AL.yes rfl rfl rfl ?_
                refine AL.p (by exact g_pickT (r := .d _) rfl rfl) rfl ?_
                refine AL.p (by exact g_pickF (r := .d _) rfl rfl) rfl ?_
                refine AL.nil ?_
                refine th_n ?_
                refine AC.condND rfl (fun h5 => ?_) (fun h5 => ?_)
                · refine AC.seq ?_
                  refine AC.region ?_
                  refine AL.p (by exact as1 rfl) rfl ?_
                  refine AL.p (by exact as1 rfl) rfl ?_
                  refine AL.nil ?_
                  refine th_n ?_
                  refine AC.ret ?_
                  refine th_r ?_
                  refine ib_r ?_
                  refine th_r ?_
                  refine th_r ?_
                  refine ib_r ?_
                  refine ib_r ?_
                  refine th_r ?_
                  refine th_r ?_
                  refine ib_r ?_
                  refine th_r ?_
                  refine bq_r ?_
                  have e := hb2 h3 (fun e => h4 (by rw [e]; rfl)) (fun e => h5 (by rw [e]))
                  rw [e] at hps2
                  have hno : codesB m = none := by rw [← hcd, show n - r = (n - r - 1) + 1 by omega, runB, ← hps, hps2]
                  exact ret2 rfl (by rw [cdD, hno]) (by rw [okCodes, hno])
                · refine AC.skip ?_
                  refine th_n ?_
                  refine AC.region ?_
                  refine AL.p (by exact mv2 rfl) rfl ?_
                  refine AL.p (by exact g_fa_ref rfl rfl rfl rfl rfl rfl) rfl ?_
                  refine AL.p (by exact g_load_ref rfl rfl rfl) rfl ?_
                  refine AL.p (by exact mv1 rfl) rfl ?_
                  refine AL.p (by exact g_ia_own rfl rfl rfl rfl rfl (by assumption) (by omega) (by exact Nat.mul_one _)) rfl ?_
                  refine AL.q (by exact h_store_arr1 rfl rfl rfl rfl (by exact .same) (by assumption)) rfl ?_
                  refine AL.nil ?_
                  refine ib_n ?_
                  refine th_n ?_
                  refine AC.region ?_
                  refine AL.p (by exact g_arith rfl rfl rfl (by exact wrap_i64 (by omega))) rfl ?_
                  refine AL.p (by exact mv1 rfl) rfl ?_
                  refine AL.nil ?_
                  refine th_n ?_
                  (have e := hgo h3 (.inr (bstr_inj (h5))); have e2 := hok2.step e; rw [e] at hps2; exact ⟨(k + 1, cc.set m.burs[k].to_.toNat nx), ⟨hk1, e2, hps2.symm.trans hps⟩, by show m.burs.length - (k + 1) < m.burs.length - k; omega, Weak.ren _ [(100, 100)] hC rfl (by repeat (first | exact True.intro | refine And.intro ?_ ?_ | exact DLead.same | exact rfl | refine ⟨_, rfl, ?_⟩)) (by rw [← strL_set]; repeat (first | exact True.intro | refine And.intro ?_ ?_ | exact rfl | refine ⟨_, _, rfl, rfl, ?_⟩)) rfl rfl rfl⟩)
              · refine AL.not rfl rfl rfl rfl rfl ?_
                refine AL.not rfl rfl rfl rfl rfl ?_
                refine AL.not rfl rfl rfl rfl rfl ?_
                refine AL.not rfl rfl rfl rfl rfl ?_
                refine AL.not rfl rfl rfl rfl rfl ?_
                refine AL.not rfl rfl rfl rfl rfl ?_
                refine AL.not rfl rfl rfl rfl rfl ?_
                refine AL.yes rfl rfl rfl ?_
                refine AL.p (by exact g_pickF (r := .d _) rfl rfl) rfl ?_
                refine AL.p (by exact g_pickF (r := .d _) rfl rfl) rfl ?_
                refine AL.nil ?_
                refine th_n ?_
                refine AC.condF rfl ?_
                refine AC.skip ?_
                refine th_n ?_
                refine AC.region ?_
                refine AL.p (by exact mv2 rfl) rfl ?_
                refine AL.p (by exact g_fa_ref rfl rfl rfl rfl rfl rfl) rfl ?_
                refine AL.p (by exact g_load_ref rfl rfl rfl) rfl ?_
                refine AL.p (by exact mv1 rfl) rfl ?_
                refine AL.p (by exact g_ia_own rfl rfl rfl rfl rfl (by assumption) (by omega) (by exact Nat.mul_one _)) rfl ?_
                refine AL.q (by exact h_store_arr1 rfl rfl rfl rfl (by exact .same) (by assumption)) rfl ?_
                refine AL.nil ?_
                refine ib_n ?_
                refine th_n ?_
                refine AC.region ?_
                refine AL.p (by exact g_arith rfl rfl rfl (by exact wrap_i64 (by omega))) rfl ?_
                refine AL.p (by exact mv1 rfl) rfl ?_
                refine AL.nil ?_
                refine th_n ?_
                (have e := hgo h3 (.inl (bstr_inj (b := []) h4)); have e2 := hok2.step e; rw [e] at hps2; exact ⟨(k + 1, cc.set m.burs[k].to_.toNat nx), ⟨hk1, e2, hps2.symm.trans hps⟩, by show m.burs.length - (k + 1) < m.burs.length - k; omega, Weak.ren _ [(100, 100)] hC rfl (by repeat (first | exact True.intro | refine And.intro ?_ ?_ | exact DLead.same | exact rfl | refine ⟨_, rfl, ?_⟩)) (by rw [← strL_set]; repeat (first | exact True.intro | refine And.intro ?_ ?_ | exact rfl | refine ⟨_, _, rfl, rfl, ?_⟩)) rfl rfl rfl⟩)
        · refine AC.exit ?_
          refine th_e ?_
          refine th_e ?_
          refine ib_y ?_
          refine ib_n ?_
          refine th_n ?_
          refine AC.region ?_
          refine AL.p (by exact g_arith rfl rfl rfl (by exact wrap_i64 (by omega))) rfl ?_
          refine AL.p (by exact mv1 rfl) rfl ?_
          refine AL.nil ?_
          refine th_n ?_
          have hkk : k = m.burs.length := by omega
          subst hkk
          rw [List.drop_length, passB] at hps
          exact ⟨(r + 1, cc), ⟨by show r + 1 ≤ n; omega, hok2, by rw [← hcd, show n - r = (n - (r + 1)) + 1 by omega, runB, ← hps]⟩, by show n - (r + 1) < n - r; omega, Weak.ren _ [(100, 100)] hC rfl (by repeat (first | exact True.intro | refine And.intro ?_ ?_ | exact DLead.same | exact rfl | refine ⟨_, rfl, ?_⟩)) (by repeat (first | exact True.intro | refine And.intro ?_ ?_ | exact rfl | refine ⟨_, _, rfl, rfl, ?_⟩)) rfl rfl rfl⟩
    · refine AC.exit ?_
      refine th_e ?_
      refine th_e ?_
      refine ib_y ?_
      refine th_n ?_
      refine AC.seq ?_
      have hrr : n - r = 0 := by omega
      rw [hrr, runB] at hcd
      have hcl := hok.l
      refine AC.weak (Weak.freeze (i := 4) rfl rfl (by rw [strL_len]; omega) (List.take_of_length_le (by rw [strL_len]; omega))) ?_
      have hCt := containsStr_spec cs (by omega) []
      refine AC.region ?_
      refine AL.p (by exact mv1 rfl) rfl ?_
      refine AL.p (by exact mv1 rfl) rfl ?_
      refine AL.q (by exact h_pure en_containsStr rfl rfl (by repeat (first | exact rfl | exact DLead.same | refine ⟨_, _, rfl, ?_, ?_⟩)) hCt rfl) rfl ?_
      refine AL.p (by exact g_not rfl) rfl ?_
      refine AL.p (by exact as1 rfl) rfl ?_
      refine AL.p (by exact as1 rfl) rfl ?_
      refine AL.nil ?_
      refine th_n ?_
      refine AC.ret ?_
      refine bq_r ?_
      exact ret2 rfl (by rw [cdD, ← hcd]) (by rw [okCodes, ← hcd, any_nil])
theorem en_codesOf : Enters Try.prog 50 := enters_of Try.func50 rfl rfl
set_option maxHeartbeats 4000000 in
theorem l24Codes_spec (m : Mach) (hS : SmM m) (hF : FormM m) : ASpec Try.prog 29 [machA m] [] (Pure1 (.tup [.d (cdD m), aT (okRun m)])) := by
  obtain ⟨n, hn⟩ : ∃ n : Nat, m.states = n := ⟨m.states.toNat, by have := hF.st; omega⟩
  have hst := hF.st
  have hsl := hF.sl
  have hbl := hF.bl
  have hbeg := CodesOk.beg hF
  rw [show m.states.toNat = n by omega] at hbeg
  have hrun : codesB m = runB m.burs n (begB m) := by rw [codesB, show m.states.toNat = n by omega]
  have hbg : begB m = (List.replicate n ([] : List UInt8)).set 0 m.first := by rw [begB, show m.states.toNat = n by omega]
  have hfi := hS.f
  refine ASpec.of Try.func29 rfl rfl fun C hC => ?_
  refine AC.seq ?_
  refine AC.region ?_
  refine AL.q (by exact h_boxF rfl rfl) rfl ?_
  refine AL.p (by exact as1 rfl) rfl ?_
  refine AL.p (by exact as1 rfl) rfl ?_
  refine AL.nil ?_
  refine th_n ?_
  refine AC.seq ?_
  refine AC.region ?_
  refine AL.p (by exact g_fa_ref rfl rfl rfl rfl rfl rfl) rfl ?_
  refine AL.p (by exact g_load_ref rfl rfl rfl) rfl ?_
  refine AL.q (by exact h_make (k := n) rfl rfl rfl rfl rfl rfl rfl hn (by show 16 * n ≤ _; omega) (by omega)) rfl ?_
  refine AL.p (by exact as2 rfl) rfl ?_
  refine AL.nil ?_
  refine th_n ?_
  refine AC.seq ?_
  refine AC.weak (t := ⟨70, 108, [(1, .d (.ref (machD m))), (4, .own 100 n)], [(100, some (.arr 9 1 (strL (List.replicate n []))))]⟩) (Weak.ren _ [(100, 8)] hC rfl (by repeat (first | exact True.intro | refine And.intro ?_ ?_ | exact DLead.same | exact rfl | refine ⟨_, rfl, ?_⟩)) (by rw [strL_rep]; repeat (first | exact True.intro | refine And.intro ?_ ?_ | exact rfl | refine ⟨_, _, rfl, rfl, ?_⟩)) rfl rfl rfl) ?_
  have hget0 : (strL (List.replicate n []))[0]? = some [dS (bstr [])] := by rw [strL_rep, List.getElem?_replicate, if_pos (by omega)]
  refine AC.region ?_
  refine AL.p (by exact mv2 rfl) rfl ?_
  refine AL.p (by exact g_fa_ref rfl rfl rfl rfl rfl rfl) rfl ?_
  refine AL.p (by exact g_load_ref rfl rfl rfl) rfl ?_
  refine AL.p (by exact g_ia_own (i := 0) rfl rfl rfl rfl rfl rfl (by omega) rfl) rfl ?_
  refine AL.q (by exact h_store_arr1 rfl rfl rfl rfl .same hget0) rfl ?_
  refine AL.nil ?_
  refine th_n ?_
  refine AC.seq ?_
  refine AC.seq ?_
  refine AC.region ?_
  refine AL.p (by exact mv2 rfl) rfl ?_
  refine AL.p (by exact g_len_own (sz := 1) (els := []) (e' := 0) rfl rfl (by simp only [maxLen]; omega)) rfl ?_
  refine AL.p (by exact mv1 rfl) rfl ?_
  refine AL.nil ?_
  refine th_n ?_
  refine AC.block ?_
  refine AC.loop (ι := Nat × List (List UInt8)) (fun x => ⟨70, 108, [(1, .d (.ref (machD m))), (4, .own 100 n), (17, aI n), (18, aI x.1)], [(100, some (.arr 9 1 (strL x.2)))]⟩) (fun x => x.1 ≤ n ∧ CodesOk m.sigs.length n x.2 ∧ runB m.burs (n - x.1) x.2 = codesB m) (fun x => n - x.1) ((0, begB m)) ?_ (⟨Nat.zero_le _, hbeg, hrun.symm⟩) ?_
  · exact Weak.ren _ [(100, 100)] hC rfl (by repeat (first | exact True.intro | refine And.intro ?_ ?_ | exact DLead.same | exact rfl | refine ⟨_, rfl, ?_⟩)) (by rw [hbg, ← strL_set]; repeat (first | exact True.intro | refine And.intro ?_ ?_ | exact rfl | refine ⟨_, _, rfl, rfl, ?_⟩)) rfl rfl rfl
  · rintro ⟨r, cs⟩ ⟨hr, hok, hcd⟩
    dsimp only at hr hok hcd ⊢
    refine AC.seq ?_
    refine AC.region ?_
    refine AL.p (by exact g_cmp rfl rfl rfl) rfl ?_
    refine AL.nil ?_
    refine th_n ?_
    refine AC.seq ?_
    refine AC.condD rfl (fun h0 => ?_) (fun h0 => ?_)
    · refine AC.skip ?_
      refine th_n ?_
      refine AC.seq ?_
      refine AC.block ?_
      refine AC.seq ?_
      refine AC.region ?_
      refine AL.p (by exact g_fa_ref rfl rfl rfl rfl rfl rfl) rfl ?_
      refine AL.p (by exact g_load_ref rfl rfl rfl) rfl ?_
      refine AL.p (by exact g_len_view rfl rfl (by exact List.length_map _)) rfl ?_
      refine AL.p (by exact mv1 rfl) rfl ?_
      refine AL.nil ?_
      refine th_n ?_
      refine AC.block ?_
      refine AC.loop (ι := Nat × List (List UInt8)) (fun x => ⟨70, 108, [(1, .d (.ref (machD m))), (4, .own 100 n), (17, aI n), (18, aI r), (21, .d (vBurs m.burs)), (22, aI m.burs.length), (23, aI x.1)], [(100, some (.arr 9 1 (strL x.2)))]⟩) (fun x => x.1 ≤ m.burs.length ∧ CodesOk m.sigs.length n x.2 ∧ passB (m.burs.drop x.1) x.2 = passB m.burs cs) (fun x => m.burs.length - x.1) ((0, cs)) ?_ (⟨Nat.zero_le _, hok, rfl⟩) ?_
      · exact Weak.ren _ [(100, 100)] hC rfl (by repeat (first | exact True.intro | refine And.intro ?_ ?_ | exact DLead.same | exact rfl | refine ⟨_, rfl, ?_⟩)) (by repeat (first | exact True.intro | refine And.intro ?_ ?_ | exact rfl | refine ⟨_, _, rfl, rfl, ?_⟩)) rfl rfl rfl
      · rintro ⟨k, cc⟩ ⟨hk, hok2, hps⟩
        dsimp only at hk hok2 hps ⊢
        refine AC.seq ?_
        refine AC.region ?_
        refine AL.p (by exact g_cmp rfl rfl rfl) rfl ?_
        refine AL.nil ?_
        refine th_n ?_
        refine AC.seq ?_
        refine AC.condD rfl (fun h1 => ?_) (fun h1 => ?_)
        · refine AC.skip ?_
          refine th_n ?_
          refine AC.seq ?_
          refine AC.block ?_
          refine AC.seq ?_
          have hr1 : r < n := by omega
          have hk1 : k < m.burs.length := by omega
          have hget := bursL_get hk1
          have hmem := List.getElem_mem hk1
          have hbi := burB_iff (hF.b _ hmem)
          have hbl2 := hS.bl _ hmem
          have hps2 := pass_step hk1 cc
          refine AC.region ?_
          refine AL.p (by exact g_ia_view rfl rfl rfl rfl rfl (by rfl) (by assumption)) rfl ?_
          refine AL.p (by exact g_load_refN rfl rfl rfl rfl) rfl ?_
          refine AL.q (by exact h_alloc rfl) rfl ?_
          refine AL.q (by exact h_store rfl rfl rfl rfl rfl rfl) rfl ?_
          refine AL.nil ?_
          refine th_n ?_
          refine AC.seq ?_
          refine AC.seq ?_
          refine AC.weak (Weak.freezeRef (ds := burD m.burs[k]) 6 rfl rfl) ?_
          have hI1 : m.burs[k].from_ = ((m.burs[k].from_.toNat : Nat) : Int) := by omega
          have hI2 : m.burs[k].to_ = ((m.burs[k].to_.toNat : Nat) : Int) := by omega
          have hcl := hok2.l
          have hg1 : (strL cc)[m.burs[k].from_.toNat]? = some [dS (bstr (cAtL cc m.burs[k].from_))] := strL_at (by omega)
          have hg2 : (strL cc)[m.burs[k].to_.toNat]? = some [dS (bstr (cAtL cc m.burs[k].to_))] := strL_at (by omega)
          refine AC.region ?_
          refine AL.p (by exact mv2 rfl) rfl ?_
          refine AL.p (by exact g_fa_ref rfl rfl rfl rfl rfl rfl) rfl ?_
          refine AL.p (by exact g_load_ref rfl rfl rfl) rfl ?_
          refine AL.p (by exact g_ia_own rfl rfl rfl rfl rfl (by assumption) (by omega) (by exact Nat.mul_one _)) rfl ?_
          refine AL.p (by exact g_load_arr1 rfl rfl rfl rfl (by assumption)) rfl ?_
          refine AL.p (by exact g_scmp rfl rfl rfl) rfl ?_
          refine AL.nil ?_
          refine th_n ?_
          refine AC.condD rfl (fun h2 => ?_) (fun h2 => ?_)
          · refine AC.exit ?_
            refine th_e ?_
            refine ib_y ?_
            refine th_n ?_
            refine AC.region ?_
            refine AL.p (by exact g_arith rfl rfl rfl (by exact wrap_i64 (by omega))) rfl ?_
            refine AL.p (by exact mv1 rfl) rfl ?_
            refine AL.nil ?_
            refine th_n ?_
            (have e := stepB_skip (b := m.burs[k]) (bstr_inj (b := []) h2); rw [e] at hps2; exact ⟨(k + 1, cc), ⟨hk1, hok2, hps2.symm.trans hps⟩, by show m.burs.length - (k + 1) < m.burs.length - k; omega, Weak.ren _ [(100, 100)] hC rfl (by repeat (first | exact True.intro | refine And.intro ?_ ?_ | exact DLead.same | exact rfl | refine ⟨_, rfl, ?_⟩)) (by repeat (first | exact True.intro | refine And.intro ?_ ?_ | exact rfl | refine ⟨_, _, rfl, rfl, ?_⟩)) rfl rfl rfl⟩)
          · refine AC.skip ?_
            refine th_n ?_
            refine AC.seq ?_
            have hne : cAtL cc m.burs[k].from_ ≠ [] := fun e => h2 (by rw [e]; rfl)
            have hbc := (hok2.at m.burs[k].from_).resolve_left hne
            have hinn := labs_in hbi
            have hgo := stepB_go hne (b := m.burs[k])
            have hb1 := stepB_bad1 hne (b := m.burs[k])
            have hb2 := stepB_bad2 hne (b := m.burs[k])
            have hTn := l24Turned_spec (cAtL cc m.burs[k].from_) m.burs[k] m.sigs.length (by omega) hbc hbl2.1 hbl2.2 hinn
            obtain ⟨tr, htr⟩ : ∃ t, t = turnR (cAtL cc m.burs[k].from_) (allL m.burs[k]) := ⟨_, rfl⟩
            rw [← htr] at hTn hgo hb1 hb2
            obtain ⟨nx, ok⟩ := tr
            dsimp only at hTn hgo hb1 hb2
            refine AC.drawn' mixed_ok [[], [], [1], [0,1,2], [0,1,2,3], [], [0,1,2,3,4,5], [0,1,2,3,4,5,6], [0,1,2,3,4,5,6,7], [0,1,2,3,4,5,6,7], [0,1,2,3,4,5,6,7,8], [0,1,2,3,4,5,6,7,8,9,10]] (by decide) ?_
            refine DF.op 0 [] 12 rfl rfl rfl (.free rfl (NOp.of (by exact mv2 rfl))) rfl ?_
            refine DF.op 1 [] 12 rfl rfl rfl (.free rfl (NOp.of (by exact g_fa_ref rfl rfl rfl rfl rfl rfl))) rfl ?_
            refine DF.op 2 [1] 12 rfl rfl rfl (.free rfl (NOp.of (by exact g_load_ref rfl rfl rfl))) rfl ?_
            refine DF.op 3 [0,1,2] 12 rfl rfl rfl (.free rfl (NOp.of (by exact g_ia_own rfl rfl rfl rfl rfl (by assumption) (by omega) (by exact Nat.mul_one _)))) rfl ?_
            refine DF.op 4 [0,1,2,3] 12 rfl rfl rfl (.free rfl (NOp.of (by exact g_load_arr1 rfl rfl rfl rfl (by assumption)))) rfl ?_
            refine DF.op 5 [] 12 rfl rfl rfl (.free rfl (NOp.of (by exact g_load_refN rfl rfl rfl rfl))) rfl ?_
            refine DF.op 6 [0,1,2,3,4,5] 12 rfl rfl rfl (.free rfl (by exact h_pure en_l24Turned rfl rfl (by repeat (first | exact rfl | exact DLead.same | refine ⟨_, _, rfl, ?_, ?_⟩ | refine ⟨_, rfl, ?_⟩)) hTn rfl)) rfl ?_
            refine DF.op 7 [0,1,2,3,4,5,6] 12 rfl rfl rfl (.free rfl (NOp.of (by exact mv5 rfl))) rfl ?_
            refine DF.op 8 [0,1,2,3,4,5,6,7] 12 rfl rfl rfl (.free rfl (NOp.of (by exact g_extract (r := .d _) rfl rfl))) rfl ?_
            refine DF.op 9 [0,1,2,3,4,5,6,7] 12 rfl rfl rfl (.free rfl (NOp.of (by exact g_extract (r := .d _) rfl rfl))) rfl ?_
            refine DF.op 10 [0,1,2,3,4,5,6,7,8] 12 rfl rfl rfl (.free rfl (NOp.of (by exact as1 rfl))) rfl ?_
            refine DF.op 11 [0,1,2,3,4,5,6,7,8,9,10] 12 rfl rfl rfl (.free rfl (NOp.of (by exact as1 rfl))) rfl ?_
            refine DF.fin (ps := [(0, 1), (0, 2), (0, 5), (1, 0), (1, 5), (2, 0), (2, 5), (3, 5), (4, 5), (5, 0), (5, 1), (5, 2), (5, 3), (5, 4), (8, 9), (9, 8), (9, 10), (10, 9)]) 12 rfl (by decide +kernel) (by decide +kernel) (by rfl) ?_
            refine th_n ?_
            refine AC.seq ?_
            refine AC.seq ?_
            refine AC.region ?_
            refine AL.p (by exact mv1 rfl) rfl ?_
            refine AL.p (by exact g_not rfl) rfl ?_
            refine AL.p (by exact mv1 rfl) rfl ?_
            refine AL.caseGB rfl rfl (fun h3 => ?_) (fun h3 => ?_)
            · refine AL.not rfl rfl rfl rfl rfl ?_
              refine AL.not rfl rfl rfl rfl rfl ?_
              refine AL.not rfl rfl rfl rfl rfl ?_
              refine AL.not rfl rfl rfl rfl rfl ?_
              refine AL.not rfl rfl rfl rfl rfl ?_
              refine AL.not rfl rfl rfl rfl rfl ?_
              refine AL.not rfl rfl rfl rfl rfl ?_
              refine AL.notU rfl rfl rfl ?_
              refine AL.notU rfl rfl rfl ?_
              refine AL.notU rfl rfl rfl ?_
              refine AL.notU rfl rfl rfl ?_
              refine AL.notU rfl rfl rfl ?_
              refine AL.notU rfl rfl rfl ?_
              refine AL.notU rfl rfl rfl ?_
              refine AL.not rfl rfl rfl rfl rfl ?_
              refine AL.p (by exact g_pickT (r := .d _) rfl rfl) rfl ?_
              refine AL.nil ?_
              refine th_n ?_
              refine AC.condT rfl ?_
              refine AC.seq ?_
              refine AC.region ?_
              refine AL.p (by exact as1 rfl) rfl ?_
              refine AL.p (by exact as1 rfl) rfl ?_
              refine AL.nil ?_
              refine th_n ?_
              refine AC.ret ?_
              refine th_r ?_
              refine ib_r ?_
              refine th_r ?_
              refine th_r ?_
              refine ib_r ?_
              refine ib_r ?_
              refine th_r ?_
              refine th_r ?_
              refine ib_r ?_
              refine th_r ?_
              refine bq_r ?_
              have e := hb1 h3
              rw [e] at hps2
              have hno : codesB m = none := by rw [← hcd, show n - r = (n - r - 1) + 1 by omega, runB, ← hps, hps2]
              exact ret2 rfl (by rw [cdD, hno]) (by rw [okRun, hno])
            · refine AL.yes rfl rfl rfl ?_
              refine AL.p (by exact mv2 rfl) rfl ?_
              refine AL.yes rfl rfl rfl ?_
              refine AL.p (by exact g_fa_ref rfl rfl rfl rfl rfl rfl) rfl ?_
              refine AL.yes rfl rfl rfl ?_
              refine AL.p (by exact g_load_ref rfl rfl rfl) rfl ?_
              refine AL.yes rfl rfl rfl ?_
              refine AL.p (by exact g_ia_own rfl rfl rfl rfl rfl (by assumption) (by omega) (by exact Nat.mul_one _)) rfl ?_
              refine AL.yes rfl rfl rfl ?_
              refine AL.p (by exact g_load_arr1 rfl rfl rfl rfl (by assumption)) rfl ?_
              refine AL.yes rfl rfl rfl ?_
              refine AL.p (by exact g_scmp rfl rfl rfl) rfl ?_
              refine AL.yes rfl rfl rfl ?_
              refine AL.p (by exact mv1 rfl) rfl ?_
              refine AL.caseGN rfl rfl (fun h4 => ?_) (fun h4 => ?_)
              · refine AL.yes rfl rfl rfl ?_
                refine AL.p (by exact mv2 rfl) rfl ?_
                refine AL.yes rfl rfl rfl ?_
                refine AL.p (by exact g_fa_ref rfl rfl rfl rfl rfl rfl) rfl ?_
                refine AL.yes rfl rfl rfl ?_
                refine AL.p (by exact g_load_ref rfl rfl rfl) rfl ?_
                refine AL.yes rfl rfl rfl ?_
                refine AL.p (by exact g_ia_own rfl rfl rfl rfl rfl (by assumption) (by omega) (by exact Nat.mul_one _)) rfl ?_
                refine AL.yes rfl rfl rfl ?_
                refine AL.p (by exact g_load_arr1 rfl rfl rfl rfl (by assumption)) rfl ?_
                refine AL.yes rfl rfl rfl ?_
                refine AL.p (by exact mv1 rfl) rfl ?_
                refine AL.yes rfl rfl rfl ?_
                refine AL.p (by exact g_scmp rfl rfl rfl) rfl ?_
                refine AL.yes rfl rfl rfl ?_
                refine AL.p (by exact g_pickT (r := .d _) rfl rfl) rfl ?_
                refine AL.p (by exact g_pickF (r := .d _) rfl rfl) rfl ?_
                refine AL.nil ?_
                refine th_n ?_
                refine AC.condND rfl (fun h5 => ?_) (fun h5 => ?_)
                · refine AC.seq ?_
                  refine AC.region ?_
                  refine AL.p (by exact as1 rfl) rfl ?_
                  refine AL.p (by exact as1 rfl) rfl ?_
                  refine AL.nil ?_
                  refine th_n ?_
                  refine AC.ret ?_
                  refine th_r ?_
                  refine ib_r ?_
                  refine th_r ?_
                  refine th_r ?_
                  refine ib_r ?_
                  refine ib_r ?_
                  refine th_r ?_
                  refine th_r ?_
                  refine ib_r ?_
                  refine th_r ?_
                  refine bq_r ?_
                  have e := hb2 h3 (fun e => h4 (by rw [e]; rfl)) (fun e => h5 (by rw [e]))
                  rw [e] at hps2
                  have hno : codesB m = none := by rw [← hcd, show n - r = (n - r - 1) + 1 by omega, runB, ← hps, hps2]
                  exact ret2 rfl (by rw [cdD, hno]) (by rw [okRun, hno])
                · refine AC.skip ?_
                  refine th_n ?_
                  refine AC.region ?_
                  refine AL.p (by exact mv2 rfl) rfl ?_
                  refine AL.p (by exact g_fa_ref rfl rfl rfl rfl rfl rfl) rfl ?_
                  refine AL.p (by exact g_load_ref rfl rfl rfl) rfl ?_
                  refine AL.p (by exact mv1 rfl) rfl ?_
                  refine AL.p (by exact g_ia_own rfl rfl rfl rfl rfl (by assumption) (by omega) (by exact Nat.mul_one _)) rfl ?_
                  refine AL.q (by exact h_store_arr1 rfl rfl rfl rfl (by exact .same) (by assumption)) rfl ?_
                  refine AL.nil ?_
                  refine ib_n ?_
                  refine th_n ?_
                  refine AC.region ?_
                  refine AL.p (by exact g_arith rfl rfl rfl (by exact wrap_i64 (by omega))) rfl ?_
                  refine AL.p (by exact mv1 rfl) rfl ?_
                  refine AL.nil ?_
                  refine th_n ?_
                  (have e := hgo h3 (.inr (bstr_inj (h5))); have e2 := hok2.step e; rw [e] at hps2; exact ⟨(k + 1, cc.set m.burs[k].to_.toNat nx), ⟨hk1, e2, hps2.symm.trans hps⟩, by show m.burs.length - (k + 1) < m.burs.length - k; omega, Weak.ren _ [(100, 100)] hC rfl (by repeat (first | exact True.intro | refine And.intro ?_ ?_ | exact DLead.same | exact rfl | refine ⟨_, rfl, ?_⟩)) (by rw [← strL_set]; repeat (first | exact True.intro | refine And.intro ?_ ?_ | exact rfl | refine ⟨_, _, rfl, rfl, ?_⟩)) rfl rfl rfl⟩)
              · refine AL.not rfl rfl rfl rfl rfl ?_
                refine AL.not rfl rfl rfl rfl rfl ?_
                refine AL.not rfl rfl rfl rfl rfl ?_
                refine AL.not rfl rfl rfl rfl rfl ?_
                refine AL.not rfl rfl rfl rfl rfl ?_
                refine AL.not rfl rfl rfl rfl rfl ?_
                refine AL.not rfl rfl rfl rfl rfl ?_
                refine AL.yes rfl rfl rfl ?_
                refine AL.p (by exact g_pickF (r := .d _) rfl rfl) rfl ?_
                refine AL.p (by exact g_pickF (r := .d _) rfl rfl) rfl ?_
                refine AL.nil ?_
                refine th_n ?_
                refine AC.condF rfl ?_
                refine AC.skip ?_
                refine th_n ?_
                refine AC.region ?_
                refine AL.p (by exact mv2 rfl) rfl ?_
                refine AL.p (by exact g_fa_ref rfl rfl rfl rfl rfl rfl) rfl ?_
                refine AL.p (by exact g_load_ref rfl rfl rfl) rfl ?_
                refine AL.p (by exact mv1 rfl) rfl ?_
                refine AL.p (by exact g_ia_own rfl rfl rfl rfl rfl (by assumption) (by omega) (by exact Nat.mul_one _)) rfl ?_
                refine AL.q (by exact h_store_arr1 rfl rfl rfl rfl (by exact .same) (by assumption)) rfl ?_
                refine AL.nil ?_
                refine ib_n ?_
                refine th_n ?_
                refine AC.region ?_
                refine AL.p (by exact g_arith rfl rfl rfl (by exact wrap_i64 (by omega))) rfl ?_
                refine AL.p (by exact mv1 rfl) rfl ?_
                refine AL.nil ?_
                refine th_n ?_
                (have e := hgo h3 (.inl (bstr_inj (b := []) h4)); have e2 := hok2.step e; rw [e] at hps2; exact ⟨(k + 1, cc.set m.burs[k].to_.toNat nx), ⟨hk1, e2, hps2.symm.trans hps⟩, by show m.burs.length - (k + 1) < m.burs.length - k; omega, Weak.ren _ [(100, 100)] hC rfl (by repeat (first | exact True.intro | refine And.intro ?_ ?_ | exact DLead.same | exact rfl | refine ⟨_, rfl, ?_⟩)) (by rw [← strL_set]; repeat (first | exact True.intro | refine And.intro ?_ ?_ | exact rfl | refine ⟨_, _, rfl, rfl, ?_⟩)) rfl rfl rfl⟩)
        · refine AC.exit ?_
          refine th_e ?_
          refine th_e ?_
          refine ib_y ?_
          refine ib_n ?_
          refine th_n ?_
          refine AC.region ?_
          refine AL.p (by exact g_arith rfl rfl rfl (by exact wrap_i64 (by omega))) rfl ?_
          refine AL.p (by exact mv1 rfl) rfl ?_
          refine AL.nil ?_
          refine th_n ?_
          have hkk : k = m.burs.length := by omega
          subst hkk
          rw [List.drop_length, passB] at hps
          exact ⟨(r + 1, cc), ⟨by show r + 1 ≤ n; omega, hok2, by rw [← hcd, show n - r = (n - (r + 1)) + 1 by omega, runB, ← hps]⟩, by show n - (r + 1) < n - r; omega, Weak.ren _ [(100, 100)] hC rfl (by repeat (first | exact True.intro | refine And.intro ?_ ?_ | exact DLead.same | exact rfl | refine ⟨_, rfl, ?_⟩)) (by repeat (first | exact True.intro | refine And.intro ?_ ?_ | exact rfl | refine ⟨_, _, rfl, rfl, ?_⟩)) rfl rfl rfl⟩
    · refine AC.exit ?_
      refine th_e ?_
      refine th_e ?_
      refine ib_y ?_
      refine th_n ?_
      refine AC.seq ?_
      have hrr : n - r = 0 := by omega
      rw [hrr, runB] at hcd
      have hcl := hok.l
      refine AC.weak (Weak.freeze (i := 4) rfl rfl (by rw [strL_len]; omega) (List.take_of_length_le (by rw [strL_len]; omega))) ?_
      refine AC.region ?_
      refine AL.p (by exact mv1 rfl) rfl ?_
      refine AL.p (by exact as1 rfl) rfl ?_
      refine AL.p (by exact as1 rfl) rfl ?_
      refine AL.nil ?_
      refine th_n ?_
      refine AC.ret ?_
      refine bq_r ?_
      exact ret2 rfl (by rw [cdD, ← hcd]) (by rw [okRun, ← hcd])
theorem en_l24Codes : Enters Try.prog 29 := enters_of Try.func29 rfl rfl
end Go.Proofs.Ytbmlfcjoeieibaa

set_option linter.all false
set_option maxRecDepth 20000
namespace Go.Proofs.Ytbmlfcjoeieibaa
open Go.RowKit

section
variable {P : Program} [PT P] {C : Ctx} {Q : Exit → ASt → Prop} {s : ASt} {ops : Array Oper}
/-- What a chunk's fact says of no world. -/
theorem WeakR.fact (id : Nat) {S : Nat → Prop} {K : World → Prop} {p : Prop} (hc : s.chunk id = some (.pred S K)) (hp : ∀ w, K w → p) : WeakR C s fun t => p ∧ t = s := by
  refine ⟨fun a w hR => ?_⟩
  obtain ⟨m, hm⟩ := hR
  obtain ⟨q0, q1, c1, l1⟩ := hm.ch id _ hc
  obtain ⟨rfl, k1, _, _⟩ := c1.predAt
  exact ⟨s, ⟨hp w k1, rfl⟩, m, hm⟩
theorem TRep.okView {w : World} {S : Nat → Prop} {e sz : Nat} {els : List (List DV)} {v : Value} (h : TRep w S (.view e sz els) v) : okV v := by
  cases h <;> trivial
theorem TL.okAt {w : World} {S : Nat → Prop} {L : List DV} {V : List Value} (h : TL w S L V) {i e sz : Nat} {els : List (List DV)} {v : Value} (hd : L[i]? = some (.view e sz els)) (hv : V[i]? = some v) : okV v := by
  obtain ⟨Ts, h1, h2, h3, h4⟩ := h
  exact (h2 i _ v hd hv).okView
theorem TX.gone {w : World} {S : Nat → Prop} {c : Nat} {L : List DV} {V : List Value} {v : Value} (h : TX w S c L V) (hc : c < L.length) (hv : V[c]? = some v) (hok : okV v) : TL w S (L.set c (.val v)) V := by
  have := h.join (S1 := fun _ => False) (.val (fun _ h => h) hok) hc hv (fun _ h => h.elim)
  exact this.congr fun k => by simp
/-- A part that was taken out is gone: its place holds a value of which nothing is asked. -/
theorem Weak.goneT (id c : Nat) {S : Nat → Prop} {L : List DV} {V : List Value} {v : Value} (h : s.chunk id = some (.pred S fun w => TX w S c L V)) (hc : c < L.length) (hv : V[c]? = some v) (hok : okV v) :
    Weak C s { n := s.n, nx := s.nx, sl := s.sl, ch := (id, some (.pred S fun w => TL w S (L.set c (.val v)) V)) :: s.ch } :=
  Weak.cons id (fun w => TL w S (L.set c (.val v)) V) h (fun w h => h.gone hc hv hok) (fun w w' hk h => h.turn hk)
end
end Go.Proofs.Ytbmlfcjoeieibaa

set_option linter.all false
set_option maxRecDepth 20000
namespace Go.Proofs.Ytbmlfcjoeieibaa
open Go.RowKit

theorem sigsL_flat (l : List Sig) : ∀ cs, cs ∈ sigsL l → ∀ d, d ∈ cs → d.flat := by
  intro cs hc d hd
  unfold sigsL at hc
  obtain ⟨x, _, rfl⟩ := List.mem_map.1 hc
  simp only [sigD, List.mem_cons, List.not_mem_nil, or_false] at hd
  rcases hd with rfl | rfl <;> trivial
set_option maxHeartbeats 2000000 in
theorem toSigS_T (l : List Sig) (hl : l.length ≤ 1048576) : ASpec Try.prog 17 [.d (vLSigs l)] [] (OneT (vSigs l)) := by
  have hrl : (sigsL l).length = l.length := List.length_map _
  refine ASpec.of Try.func17 rfl rfl fun C hC => ?_
  refine AC.seq ?_
  refine AC.region ?_
  refine AL.p (by exact as1 rfl) rfl ?_
  refine AL.nil ?_
  refine th_n ?_
  refine AC.seq ?_
  refine AC.region ?_
  refine AL.p (by exact mv1 rfl) rfl ?_
  refine AL.p (by exact g_len_view rfl rfl (by exact List.length_map _)) rfl ?_
  refine AL.q (by exact h_make (k := l.length) rfl rfl rfl rfl rfl rfl rfl rfl (by show 24 * l.length ≤ _; omega) (by omega)) rfl ?_
  refine AL.p (by exact as2 rfl) rfl ?_
  refine AL.nil ?_
  refine th_n ?_
  refine AC.seq ?_
  refine AC.seq ?_
  refine AC.region ?_
  refine AL.p (by exact as1 rfl) rfl ?_
  refine AL.nil ?_
  refine th_n ?_
  refine AC.block ?_
  refine AC.loop (ι := Nat) (fun k => ⟨23, 108, [(0, .d (vLSigs l)), (3, .own 100 l.length), (4, aI k)], [(100, some (.arr 66 2 (fillR (sigsL l) [dS (bstr []), dI 0] k)))]⟩) (fun k => k ≤ l.length) (fun k => l.length - k) (0) ?_ (Nat.zero_le _) ?_
  · exact Weak.ren _ [(100, _)] hC rfl (by repeat (first | exact True.intro | refine And.intro ?_ ?_ | exact DLead.same | exact rfl | refine ⟨_, rfl, ?_⟩)) (by rw [fill_zero, hrl]; repeat (first | exact True.intro | refine And.intro ?_ ?_ | exact rfl | refine ⟨_, _, rfl, rfl, ?_⟩)) rfl rfl rfl
  · intro k hk
    refine AC.seq ?_
    refine AC.seq ?_
    refine AC.region ?_
    refine AL.p (by exact mv1 rfl) rfl ?_
    refine AL.p (by exact mv1 rfl) rfl ?_
    refine AL.p (by exact g_len_view rfl rfl (by exact List.length_map _)) rfl ?_
    refine AL.p (by exact g_cmp rfl rfl rfl) rfl ?_
    refine AL.nil ?_
    refine th_n ?_
    refine AC.condD rfl (fun h0 => ?_) (fun h0 => ?_)
    · refine AC.skip ?_
      refine th_n ?_
      refine AC.seq ?_
      refine AC.block ?_
      have hk1 : k < l.length := by omega
      have hget := sigsL_get hk1
      have hfl := fill_len (sigsL l) [dS (bstr []), dI 0] (k := k) (by omega)
      have hst := fill_set (R := sigsL l) (z := [dS (bstr []), dI 0]) (k := k) (by omega) hget
      refine AC.region ?_
      refine AL.p (by exact mv2 rfl) rfl ?_
      refine AL.p (by exact mv1 rfl) rfl ?_
      refine AL.p (by exact mv1 rfl) rfl ?_
      refine AL.p (by exact mv1 rfl) rfl ?_
      refine AL.p (by exact g_ia_view rfl rfl rfl rfl rfl (by rfl) (by assumption)) rfl ?_
      refine AL.p (by exact g_load_refN rfl rfl rfl rfl) rfl ?_
      refine AL.q (by exact h_pure en_toSig rfl rfl (by repeat (first | exact rfl | exact DLead.same | refine ⟨_, _, rfl, ?_, ?_⟩ | refine ⟨_, rfl, ?_⟩)) (toSig_spec _) rfl) rfl ?_
      refine AL.p (by exact g_ia_own rfl rfl rfl rfl rfl (by rfl) (by omega) (by rfl)) rfl ?_
      refine AL.q (by exact h_store_row (i := k) (ds := sigD l[k]) rfl rfl rfl rfl rfl rfl rfl (by omega)) rfl ?_
      refine AL.nil ?_
      refine ib_n ?_
      refine th_n ?_
      refine AC.region ?_
      refine AL.p (by exact mv1 rfl) rfl ?_
      refine AL.p (by exact g_arith rfl rfl rfl (by exact wrap_i64 (by omega))) rfl ?_
      refine AL.p (by exact as1 rfl) rfl ?_
      refine AL.nil ?_
      refine th_n ?_
      exact ⟨k + 1, by omega, by omega, Weak.ren _ [(100, _)] hC rfl (by repeat (first | exact True.intro | refine And.intro ?_ ?_ | exact DLead.same | exact rfl | refine ⟨_, rfl, ?_⟩)) (by rw [← hst]; repeat (first | exact True.intro | refine And.intro ?_ ?_ | exact rfl | refine ⟨_, _, rfl, rfl, ?_⟩)) rfl rfl rfl⟩
    · refine AC.exit ?_
      refine th_e ?_
      refine th_e ?_
      refine ib_y ?_
      refine th_n ?_
      refine AC.seq ?_
      have hkk : k = l.length := by omega
      have hfa := fill_all (sigsL l) [dS (bstr []), dI 0]
      rw [hrl] at hfa
      rw [hkk, hfa]
      refine AC.weakR (WeakR.raw (id := 100) (els' := sigsL l) 3 rfl rfl (by omega) (List.take_of_length_le (by omega)) (sigsL_flat _)) ?_
      rintro _ ⟨v, S, rfl⟩
      refine AC.region ?_
      refine AL.p (by exact mv1 rfl) rfl ?_
      refine AL.p (by exact as1 rfl) rfl ?_
      refine AL.nil ?_
      refine th_n ?_
      refine AC.ret ?_
      refine bq_r ?_
      exact retX [(0, 108)] rfl ⟨v, S, rfl, rfl⟩ (by repeat (exact DLead.same)) (by repeat (first | exact True.intro | refine And.intro ?_ ?_ | exact rfl | refine ⟨_, _, rfl, rfl, ?_⟩)) rfl rfl
theorem labsL_flat (l : List Lab) : ∀ cs, cs ∈ labsL l → ∀ d, d ∈ cs → d.flat := by
  intro cs hc d hd
  unfold labsL at hc
  obtain ⟨x, _, rfl⟩ := List.mem_map.1 hc
  simp only [labD, List.mem_cons, List.not_mem_nil, or_false] at hd
  rcases hd with rfl | rfl <;> trivial
set_option maxHeartbeats 2000000 in
theorem toLabS_T (l : List Lab) (hl : l.length ≤ 1048576) : ASpec Try.prog 44 [.d (vLLabs l)] [] (OneT (vLabs l)) := by
  have hrl : (labsL l).length = l.length := List.length_map _
  refine ASpec.of Try.func44 rfl rfl fun C hC => ?_
  refine AC.seq ?_
  refine AC.region ?_
  refine AL.p (by exact as1 rfl) rfl ?_
  refine AL.nil ?_
  refine th_n ?_
  refine AC.seq ?_
  refine AC.region ?_
  refine AL.p (by exact mv1 rfl) rfl ?_
  refine AL.p (by exact g_len_view rfl rfl (by exact List.length_map _)) rfl ?_
  refine AL.q (by exact h_make (k := l.length) rfl rfl rfl rfl rfl rfl rfl rfl (by show 16 * l.length ≤ _; omega) (by omega)) rfl ?_
  refine AL.p (by exact as2 rfl) rfl ?_
  refine AL.nil ?_
  refine th_n ?_
  refine AC.seq ?_
  refine AC.seq ?_
  refine AC.region ?_
  refine AL.p (by exact as1 rfl) rfl ?_
  refine AL.nil ?_
  refine th_n ?_
  refine AC.block ?_
  refine AC.loop (ι := Nat) (fun k => ⟨23, 108, [(0, .d (vLLabs l)), (3, .own 100 l.length), (4, aI k)], [(100, some (.arr 80 2 (fillR (labsL l) [dI 0, dT false] k)))]⟩) (fun k => k ≤ l.length) (fun k => l.length - k) (0) ?_ (Nat.zero_le _) ?_
  · exact Weak.ren _ [(100, _)] hC rfl (by repeat (first | exact True.intro | refine And.intro ?_ ?_ | exact DLead.same | exact rfl | refine ⟨_, rfl, ?_⟩)) (by rw [fill_zero, hrl]; repeat (first | exact True.intro | refine And.intro ?_ ?_ | exact rfl | refine ⟨_, _, rfl, rfl, ?_⟩)) rfl rfl rfl
  · intro k hk
    refine AC.seq ?_
    refine AC.seq ?_
    refine AC.region ?_
    refine AL.p (by exact mv1 rfl) rfl ?_
    refine AL.p (by exact mv1 rfl) rfl ?_
    refine AL.p (by exact g_len_view rfl rfl (by exact List.length_map _)) rfl ?_
    refine AL.p (by exact g_cmp rfl rfl rfl) rfl ?_
    refine AL.nil ?_
    refine th_n ?_
    refine AC.condD rfl (fun h0 => ?_) (fun h0 => ?_)
    · refine AC.skip ?_
      refine th_n ?_
      refine AC.seq ?_
      refine AC.block ?_
      have hk1 : k < l.length := by omega
      have hget := labsL_get hk1
      have hfl := fill_len (labsL l) [dI 0, dT false] (k := k) (by omega)
      have hst := fill_set (R := labsL l) (z := [dI 0, dT false]) (k := k) (by omega) hget
      refine AC.region ?_
      refine AL.p (by exact mv2 rfl) rfl ?_
      refine AL.p (by exact mv1 rfl) rfl ?_
      refine AL.p (by exact mv1 rfl) rfl ?_
      refine AL.p (by exact mv1 rfl) rfl ?_
      refine AL.p (by exact g_ia_view rfl rfl rfl rfl rfl (by rfl) (by assumption)) rfl ?_
      refine AL.p (by exact g_load_refN rfl rfl rfl rfl) rfl ?_
      refine AL.q (by exact h_pure en_toLab rfl rfl (by repeat (first | exact rfl | exact DLead.same | refine ⟨_, _, rfl, ?_, ?_⟩ | refine ⟨_, rfl, ?_⟩)) (toLab_spec _) rfl) rfl ?_
      refine AL.p (by exact g_ia_own rfl rfl rfl rfl rfl (by rfl) (by omega) (by rfl)) rfl ?_
      refine AL.q (by exact h_store_row (i := k) (ds := labD l[k]) rfl rfl rfl rfl rfl rfl rfl (by omega)) rfl ?_
      refine AL.nil ?_
      refine ib_n ?_
      refine th_n ?_
      refine AC.region ?_
      refine AL.p (by exact mv1 rfl) rfl ?_
      refine AL.p (by exact g_arith rfl rfl rfl (by exact wrap_i64 (by omega))) rfl ?_
      refine AL.p (by exact as1 rfl) rfl ?_
      refine AL.nil ?_
      refine th_n ?_
      exact ⟨k + 1, by omega, by omega, Weak.ren _ [(100, _)] hC rfl (by repeat (first | exact True.intro | refine And.intro ?_ ?_ | exact DLead.same | exact rfl | refine ⟨_, rfl, ?_⟩)) (by rw [← hst]; repeat (first | exact True.intro | refine And.intro ?_ ?_ | exact rfl | refine ⟨_, _, rfl, rfl, ?_⟩)) rfl rfl rfl⟩
    · refine AC.exit ?_
      refine th_e ?_
      refine th_e ?_
      refine ib_y ?_
      refine th_n ?_
      refine AC.seq ?_
      have hkk : k = l.length := by omega
      have hfa := fill_all (labsL l) [dI 0, dT false]
      rw [hrl] at hfa
      rw [hkk, hfa]
      refine AC.weakR (WeakR.raw (id := 100) (els' := labsL l) 3 rfl rfl (by omega) (List.take_of_length_le (by omega)) (labsL_flat _)) ?_
      rintro _ ⟨v, S, rfl⟩
      refine AC.region ?_
      refine AL.p (by exact mv1 rfl) rfl ?_
      refine AL.p (by exact as1 rfl) rfl ?_
      refine AL.nil ?_
      refine th_n ?_
      refine AC.ret ?_
      refine bq_r ?_
      exact retX [(0, 108)] rfl ⟨v, S, rfl, rfl⟩ (by repeat (exact DLead.same)) (by repeat (first | exact True.intro | refine And.intro ?_ ?_ | exact rfl | refine ⟨_, _, rfl, rfl, ?_⟩)) rfl rfl
theorem bursL_row (l : List Bur) : ∀ cs, cs ∈ bursL l → cs.length = 4 := by
  intro cs hc
  obtain ⟨x, _, rfl⟩ := List.mem_map.1 hc
  rfl
set_option maxHeartbeats 2000000 in
theorem toBur_T (b : Bur) (h1 : b.inn.length ≤ 1048576) (h2 : b.out.length ≤ 1048576) : ASpec Try.prog 33 [burLA b] [] (FourT (dI b.from_) (vLabs b.inn) (vLabs b.out) (dI b.to_)) := by
  refine ASpec.of Try.func33 rfl rfl fun C hC => ?_
  refine AC.seq ?_
  refine AC.region ?_
  refine AL.q (by exact h_boxF rfl rfl) rfl ?_
  refine AL.q (by exact h_alloc rfl) rfl ?_
  refine AL.nil ?_
  refine th_n ?_
  refine AC.seq ?_
  refine AC.region ?_
  refine AL.q (by exact h_alloc rfl) rfl ?_
  refine AL.nil ?_
  refine th_n ?_
  refine AC.seq ?_
  refine AC.region ?_
  refine AL.p (by exact g_fa_ref rfl rfl rfl rfl rfl rfl) rfl ?_
  refine AL.p (by exact g_load_ref rfl rfl rfl) rfl ?_
  refine AL.p (by exact g_fa_ptr rfl rfl rfl rfl rfl) rfl ?_
  refine AL.q (by exact h_store rfl rfl rfl rfl rfl rfl) rfl ?_
  refine AL.nil ?_
  refine th_n ?_
  refine AC.seq ?_
  refine AC.region ?_
  refine AL.p (by exact g_fa_ref rfl rfl rfl rfl rfl rfl) rfl ?_
  refine AL.p (by exact g_load_ref rfl rfl rfl) rfl ?_
  refine AL.r (by exact h_funR (cs := []) en_toLabS rfl rfl (by repeat (first | exact rfl | exact DLead.same | refine ⟨_, _, rfl, ?_, ?_⟩)) (by repeat (exact True.intro)) (toLabS_T _ h1) rfl rfl rfl) rfl ?_
  rintro _ ⟨_, _, ⟨v1, S1, rfl, rfl⟩, rfl⟩
  refine AL.p (by exact g_fa_ptr rfl rfl rfl rfl rfl) rfl ?_
  refine AL.q (by exact h_store rfl rfl rfl rfl rfl rfl) rfl ?_
  refine AL.nil ?_
  refine th_n ?_
  refine AC.seq ?_
  refine AC.region ?_
  refine AL.p (by exact g_fa_ref rfl rfl rfl rfl rfl rfl) rfl ?_
  refine AL.p (by exact g_load_ref rfl rfl rfl) rfl ?_
  refine AL.r (by exact h_funR (cs := []) en_toLabS rfl rfl (by repeat (first | exact rfl | exact DLead.same | refine ⟨_, _, rfl, ?_, ?_⟩)) (by repeat (exact True.intro)) (toLabS_T _ h2) rfl rfl rfl) rfl ?_
  rintro _ ⟨_, _, ⟨v2, S2, rfl, rfl⟩, rfl⟩
  refine AL.p (by exact g_fa_ptr rfl rfl rfl rfl rfl) rfl ?_
  refine AL.q (by exact h_store rfl rfl rfl rfl rfl rfl) rfl ?_
  refine AL.nil ?_
  refine th_n ?_
  refine AC.seq ?_
  refine AC.region ?_
  refine AL.p (by exact g_fa_ref rfl rfl rfl rfl rfl rfl) rfl ?_
  refine AL.p (by exact g_load_ref rfl rfl rfl) rfl ?_
  refine AL.p (by exact g_fa_ptr rfl rfl rfl rfl rfl) rfl ?_
  refine AL.q (by exact h_store rfl rfl rfl rfl rfl rfl) rfl ?_
  refine AL.nil ?_
  refine th_n ?_
  refine AC.seq ?_
  refine AC.weakR (WeakR.okI (k := .i64) (x := b.from_) 5 rfl) ?_
  rintro _ ⟨hok1, rfl⟩
  refine AC.weakR (WeakR.okI (k := .i64) (x := b.to_) 16 rfl) ?_
  rintro _ ⟨hok2, rfl⟩
  refine AC.weak (Weak.appT 32 48 rfl (fun w h => TL.one h) rfl (fun w h => TL.one h) rfl) ?_
  refine AC.weak (Weak.cons 32 (fun w => TL w (fun k => S1 k ∨ S2 k) [dI b.from_, vLabs b.inn, vLabs b.out, dI b.to_] [.int .i64 b.from_, v1, v2, .int .i64 b.to_]) rfl (fun w h => TL.consFlat hok1 (TL.snocFlat hok2 h)) (fun w w' hk h => h.turn hk)) ?_
  refine AC.region ?_
  refine AL.p (by exact g_load_ptrN rfl rfl rfl rfl rfl) rfl ?_
  refine AL.q (by exact h_store rfl rfl rfl rfl rfl rfl) rfl ?_
  refine AL.nil ?_
  refine th_n ?_
  refine AC.ret ?_
  refine bq_r ?_
  exact retX [(0, 32)] rfl ⟨_, v1, v2, _, _, rfl, rfl⟩ (by repeat (first | exact DLead.same | exact rfl | refine ⟨_, rfl, ?_⟩ | refine ⟨_, _, rfl, ?_, ?_⟩)) (by repeat (first | exact True.intro | refine And.intro ?_ ?_ | exact rfl | refine ⟨_, _, rfl, rfl, ?_⟩)) rfl rfl
set_option maxHeartbeats 2000000 in
theorem toBurS_T (l : List Bur) (hl : l.length ≤ 1048576) (hb : ∀ t, t ∈ l → t.inn.length ≤ 1048576 ∧ t.out.length ≤ 1048576) : ASpec Try.prog 18 [.d (vLBurs l)] [] (OneT (vBurs l)) := by
  have hrl : (bursL l).length = l.length := List.length_map _
  refine ASpec.of Try.func18 rfl rfl fun C hC => ?_
  refine AC.seq ?_
  refine AC.region ?_
  refine AL.p (by exact as1 rfl) rfl ?_
  refine AL.nil ?_
  refine th_n ?_
  refine AC.seq ?_
  refine AC.region ?_
  refine AL.p (by exact mv1 rfl) rfl ?_
  refine AL.p (by exact g_len_view rfl rfl (by exact List.length_map _)) rfl ?_
  refine AL.q (by exact h_make (k := l.length) rfl rfl rfl rfl rfl rfl rfl rfl (by show 64 * l.length ≤ _; omega) (by omega)) rfl ?_
  refine AL.p (by exact as2 rfl) rfl ?_
  refine AL.nil ?_
  refine th_n ?_
  refine AC.seq ?_
  refine AC.seq ?_
  refine AC.region ?_
  refine AL.p (by exact as1 rfl) rfl ?_
  refine AL.nil ?_
  refine th_n ?_
  refine AC.block ?_
  refine AC.loop (ι := Nat × List Value × (Nat → Prop)) (fun x => ⟨23, 108, [(0, .d (vLBurs l)), (3, .own 100 l.length), (4, aI x.1)], [(100, some (.arr 46 4 (fillV 4 l.length x.1 [dI 0, DV.val (.slice none 0 0), DV.val (.slice none 0 0), dI 0] x.2.1))), (101, some (.pred x.2.2 fun w => TL w x.2.2 ((bursL l).take x.1).flatten x.2.1))]⟩) (fun x => x.1 ≤ l.length ∧ x.2.1.length = x.1 * 4) (fun x => l.length - x.1) ((0, [], fun _ => False)) ?_ (⟨Nat.zero_le _, rfl⟩) ?_
  · exact Weak.trans Weak.emptyT (Weak.ren _ [(100, 0), (101, 8)] hC rfl (by repeat (first | exact True.intro | refine And.intro ?_ ?_ | exact DLead.same | exact rfl | refine ⟨_, rfl, ?_⟩)) (by dsimp only; rw [fillV_zero]; repeat (first | exact True.intro | refine And.intro ?_ ?_ | exact rfl | refine ⟨_, _, rfl, rfl, ?_⟩)) rfl rfl rfl)
  · rintro ⟨k, V, S⟩ ⟨hk, hV⟩
    refine AC.seq ?_
    refine AC.seq ?_
    refine AC.region ?_
    refine AL.p (by exact mv1 rfl) rfl ?_
    refine AL.p (by exact mv1 rfl) rfl ?_
    refine AL.p (by exact g_len_view rfl rfl (by exact List.length_map _)) rfl ?_
    refine AL.p (by exact g_cmp rfl rfl rfl) rfl ?_
    refine AL.nil ?_
    refine th_n ?_
    refine AC.condD rfl (fun h0 => ?_) (fun h0 => ?_)
    · refine AC.skip ?_
      refine th_n ?_
      refine AC.seq ?_
      refine AC.block ?_
      dsimp only at hk hV
      have hk1 : k < l.length := by omega
      have hget := bursLL_get hk1
      have hgetf := bursL_get hk1
      have hb1 := (hb _ (List.getElem_mem hk1)).1
      have hb2 := (hb _ (List.getElem_mem hk1)).2
      have hfl := fillV_len (sz := 4) (z := [dI 0, DV.val (.slice none 0 0), DV.val (.slice none 0 0), dI 0]) (V := V) hk
      refine AC.region ?_
      refine AL.p (by exact mv2 rfl) rfl ?_
      refine AL.p (by exact mv1 rfl) rfl ?_
      refine AL.p (by exact mv1 rfl) rfl ?_
      refine AL.p (by exact mv1 rfl) rfl ?_
      refine AL.p (by exact g_ia_view rfl rfl rfl rfl rfl (by rfl) (by assumption)) rfl ?_
      refine AL.p (by exact g_load_refN rfl rfl rfl rfl) rfl ?_
      refine AL.r (by exact h_funR (cs := []) en_toBur rfl rfl (by repeat (first | exact rfl | exact DLead.same | refine ⟨_, _, rfl, ?_, ?_⟩ | refine ⟨_, rfl, ?_⟩)) (by repeat (exact True.intro)) (toBur_T _ hb1 hb2) rfl rfl rfl) rfl ?_
      rintro _ ⟨_, _, ⟨v1, v2, v3, v4, S1, rfl, rfl⟩, rfl⟩
      have hst := fillV_set (z := [dI 0, DV.val (.slice none 0 0), DV.val (.slice none 0 0), dI 0]) (vs := [v1, v2, v3, v4]) hk1 hV rfl
      refine AL.p (by exact g_ia_own rfl rfl rfl rfl rfl (by rfl) (by omega) (by rfl)) rfl ?_
      refine AL.q (by exact h_store_row (i := k) (ds := [.val v1, .val v2, .val v3, .val v4]) rfl rfl rfl rfl rfl rfl rfl (by dsimp only; omega)) rfl ?_
      refine AL.nil ?_
      refine ib_n ?_
      refine th_n ?_
      refine AC.region ?_
      refine AL.p (by exact mv1 rfl) rfl ?_
      refine AL.p (by exact g_arith rfl rfl rfl (by exact wrap_i64 (by omega))) rfl ?_
      refine AL.p (by exact as1 rfl) rfl ?_
      refine AL.nil ?_
      refine th_n ?_
      refine ⟨(k + 1, V ++ [v1, v2, v3, v4], fun q => S q ∨ S1 q), ⟨hk1, by simp; omega⟩, by dsimp only; omega, Weak.trans (Weak.appT 101 108 rfl (fun w h => h) rfl (fun w h => h) rfl) (Weak.ren _ [(100, 100), (101, 101)] hC rfl (by repeat (first | exact True.intro | refine And.intro ?_ ?_ | exact DLead.same | exact rfl | refine ⟨_, rfl, ?_⟩)) ?_ rfl rfl rfl)⟩
      dsimp only
      rw [takeR_flat hgetf]
      rw [← hst]
      repeat (first | exact True.intro | refine And.intro ?_ ?_ | exact rfl | refine ⟨_, _, rfl, rfl, ?_⟩)
    · refine AC.exit ?_
      refine th_e ?_
      refine th_e ?_
      refine ib_y ?_
      refine th_n ?_
      refine AC.seq ?_
      dsimp only at hk hV
      obtain rfl : k = l.length := by omega
      refine AC.weakR (WeakR.closeN (els := bursL l) (V := V) 3 101 100 rfl hrl.symm rfl (fun w h => by rw [List.take_of_length_le (by omega)] at h; exact h) rfl (by rw [hrl]; exact fillV_all _ _ _ _) (bursL_row l) rfl) ?_
      rintro _ ⟨v, S', rfl⟩
      refine AC.region ?_
      refine AL.p (by exact mv1 rfl) rfl ?_
      refine AL.p (by exact as1 rfl) rfl ?_
      refine AL.nil ?_
      refine th_n ?_
      refine AC.ret ?_
      refine bq_r ?_
      exact retX [(0, 101)] rfl ⟨v, S', rfl, rfl⟩ (by repeat (exact DLead.same)) (by repeat (first | exact True.intro | refine And.intro ?_ ?_ | exact rfl | refine ⟨_, _, rfl, rfl, ?_⟩)) rfl rfl
set_option maxHeartbeats 2000000 in
theorem toMach_T (m : Mach) (h : SmM m) : ASpec Try.prog 6 [machLA m] [] (FourT (vSigs m.sigs) (dI m.states) (vBurs m.burs) (dS (bstr m.first))) := by
  have hsz := bstr_size m.first
  have hf := h.f
  have hokf : okV (.string (bstr m.first)) := by show (bstr m.first).size ≤ maxLen; rw [hsz]; simp only [maxLen]; omega
  refine ASpec.of Try.func6 rfl rfl fun C hC => ?_
  refine AC.seq ?_
  refine AC.region ?_
  refine AL.q (by exact h_boxF rfl rfl) rfl ?_
  refine AL.q (by exact h_alloc rfl) rfl ?_
  refine AL.nil ?_
  refine th_n ?_
  refine AC.seq ?_
  refine AC.region ?_
  refine AL.q (by exact h_alloc rfl) rfl ?_
  refine AL.nil ?_
  refine th_n ?_
  refine AC.seq ?_
  refine AC.region ?_
  refine AL.p (by exact g_fa_ref rfl rfl rfl rfl rfl rfl) rfl ?_
  refine AL.p (by exact g_load_ref rfl rfl rfl) rfl ?_
  refine AL.r (by exact h_funR (cs := []) en_toSigS rfl rfl (by repeat (first | exact rfl | exact DLead.same | refine ⟨_, _, rfl, ?_, ?_⟩)) (by repeat (exact True.intro)) (toSigS_T _ h.s) rfl rfl rfl) rfl ?_
  rintro _ ⟨_, _, ⟨v1, S1, rfl, rfl⟩, rfl⟩
  refine AL.p (by exact g_fa_ptr rfl rfl rfl rfl rfl) rfl ?_
  refine AL.q (by exact h_store rfl rfl rfl rfl rfl rfl) rfl ?_
  refine AL.nil ?_
  refine th_n ?_
  refine AC.seq ?_
  refine AC.region ?_
  refine AL.p (by exact g_fa_ref rfl rfl rfl rfl rfl rfl) rfl ?_
  refine AL.p (by exact g_load_ref rfl rfl rfl) rfl ?_
  refine AL.p (by exact g_fa_ptr rfl rfl rfl rfl rfl) rfl ?_
  refine AL.q (by exact h_store rfl rfl rfl rfl rfl rfl) rfl ?_
  refine AL.nil ?_
  refine th_n ?_
  refine AC.seq ?_
  refine AC.region ?_
  refine AL.p (by exact g_fa_ref rfl rfl rfl rfl rfl rfl) rfl ?_
  refine AL.p (by exact g_load_ref rfl rfl rfl) rfl ?_
  refine AL.r (by exact h_funR (cs := []) en_toBurS rfl rfl (by repeat (first | exact rfl | exact DLead.same | refine ⟨_, _, rfl, ?_, ?_⟩)) (by repeat (exact True.intro)) (toBurS_T _ h.b h.bl) rfl rfl rfl) rfl ?_
  rintro _ ⟨_, _, ⟨v2, S2, rfl, rfl⟩, rfl⟩
  refine AL.p (by exact g_fa_ptr rfl rfl rfl rfl rfl) rfl ?_
  refine AL.q (by exact h_store rfl rfl rfl rfl rfl rfl) rfl ?_
  refine AL.nil ?_
  refine th_n ?_
  refine AC.seq ?_
  refine AC.region ?_
  refine AL.p (by exact g_fa_ref rfl rfl rfl rfl rfl rfl) rfl ?_
  refine AL.p (by exact g_load_ref rfl rfl rfl) rfl ?_
  refine AL.p (by exact g_fa_ptr rfl rfl rfl rfl rfl) rfl ?_
  refine AL.q (by exact h_store rfl rfl rfl rfl rfl rfl) rfl ?_
  refine AL.nil ?_
  refine th_n ?_
  refine AC.seq ?_
  refine AC.weakR (WeakR.okI (k := .i64) (x := m.states) 9 rfl) ?_
  rintro _ ⟨hok1, rfl⟩
  refine AC.weak (Weak.cons 24 (fun w => TL w S1 [vSigs m.sigs, dI m.states] [v1, .int .i64 m.states]) rfl (fun w h => TL.snocFlat hok1 (TL.one h)) (fun w w' hk h => h.turn hk)) ?_
  refine AC.weak (Weak.cons 48 (fun w => TL w S2 [vBurs m.burs, dS (bstr m.first)] [v2, .string (bstr m.first)]) rfl (fun w h => TL.snocFlat hokf (TL.one h)) (fun w w' hk h => h.turn hk)) ?_
  refine AC.weak (Weak.appT 24 48 rfl (fun w h => h) rfl (fun w h => h) rfl) ?_
  refine AC.region ?_
  refine AL.p (by exact g_load_ptrN rfl rfl rfl rfl rfl) rfl ?_
  refine AL.q (by exact h_store rfl rfl rfl rfl rfl rfl) rfl ?_
  refine AL.nil ?_
  refine th_n ?_
  refine AC.ret ?_
  refine bq_r ?_
  exact retX [(0, 24)] rfl ⟨v1, _, v2, _, _, rfl, rfl⟩ (by repeat (first | exact DLead.same | exact rfl | refine ⟨_, rfl, ?_⟩ | refine ⟨_, _, rfl, ?_, ?_⟩)) (by repeat (first | exact True.intro | refine And.intro ?_ ?_ | exact rfl | refine ⟨_, _, rfl, rfl, ?_⟩)) rfl rfl
end Go.Proofs.Ytbmlfcjoeieibaa

