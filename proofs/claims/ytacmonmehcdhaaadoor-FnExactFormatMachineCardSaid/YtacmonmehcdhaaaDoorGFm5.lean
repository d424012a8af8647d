/- Contracts of the functions of the program and of the reference, each proved by a walk through its code. -/
import Derived.WalkKit
import Derived.WalkSpells
import Derived.WalkLawsBesides
import Derived.Deep.Draws
import Derived.Lib.Hide
import Derived.Maps.AppendAt
import Derived.OwnWalk
import Derived.Deep.MidRow
import Derived.Laws.ResultCell
import Derived.Deep.Upon
import Derived.Great.FillDense
import Derived.Laws.Tables
import Derived.Laws.BytesArg
import Derived.Laws.MakeOwn
import Derived.Great.BuildSlice
import Derived.ArgAppend
import Derived.Deep.AppendSrc
import Derived.Test.YtacmonmehcdhaaaDoorProg
import Derived.KernelRfl
import Derived.Orders
import Derived.Laws.IdiomStrings
import Derived.Lib.AppendZerosOnto
import Derived.ProofKit
import Derived.OpenShut
import Derived.Laws.StructEq
import Derived.ChangeKeysEq
import Derived.Sort.Grow
import Derived.Shelf.Strings.Builder1
import Derived.Shelf.Strings.Builder2
import Derived.Shelf.Strings.OnBuilder
import Derived.Shelf.Strconv.Itoa0
import Derived.Shelf.Strconv.Itoa1
import Derived.Shelf.LaysM
import Derived.Shelf.Strconv.Itoa2
import Derived.Shelf.Strconv.Itoa3
import Derived.Test.YtacmonmehcdhaaaDoorRows
import Derived.Test.YtacmonmehcdhaaaDoorChecked
import Derived.Test.YtacmonmehcdhaaaDoorGFm4
set_option linter.all false
set_option maxRecDepth 20000
namespace Go.Proofs.YtacmonmehcdhaaaDoor
open Go.RowKit

abbrev strL (l : List (List UInt8)) : List (List DV) := l.map (fun s => [dS (bstr s)])
abbrev vStr (l : List (List UInt8)) : DV := .view 9 1 (strL l)
theorem strL_len (l : List (List UInt8)) : (strL l).length = l.length := List.length_map _
theorem strL_get {l : List (List UInt8)} {k : Nat} (h : k < l.length) : (strL l)[k]? = some [dS (bstr l[k])] := by rw [List.getElem?_map, List.getElem?_eq_getElem h]; rfl
theorem strL_at {l : List (List UInt8)} {i : Int} (h : i.toNat < l.length) : (strL l)[i.toNat]? = some [dS (bstr (cAtL l i))] := by
  rw [strL_get h]; unfold cAtL; rw [List.getD_eq_getElem?_getD, List.getElem?_eq_getElem h]; rfl
theorem strL_rep (n : Nat) (c : List UInt8) : strL (List.replicate n c) = List.replicate n [dS (bstr c)] := List.map_replicate
theorem strL_set (l : List (List UInt8)) (i : Nat) (c : List UInt8) : (strL l).set i [dS (bstr c)] = strL (l.set i c) := by simp [strL, List.map_set]
theorem any_nil (cs : List (List UInt8)) : cs.any (fun x => decide ([] = x)) = cs.any (fun c => decide (c = [])) := by
  congr 1; funext x; cases x <;> rfl
def cdD (m : Mach) : DV := match codesB m with | none => .val (.slice none 0 0) | some cs => vStr cs
def okRun (m : Mach) : Bool := match codesB m with | none => false | some _ => true
theorem pass_step {l : List Bur} {k : Nat} (hk : k < l.length) (cs : List (List UInt8)) : passB (l.drop k) cs = match stepB cs l[k] with | none => none | some cs' => passB (l.drop (k + 1)) cs' := by
  rw [List.drop_eq_getElem_cons hk, passB]; rfl
theorem labs_in {s : List Sig} {n : Int} {b : Bur} (h : (0 ≤ b.from_ ∧ b.from_ < n) ∧ (0 ≤ b.to_ ∧ b.to_ < n) ∧ b.inn.length ≠ 0 ∧ labsB s b.inn 1 = true ∧ labsB s b.out 2 = true) : ∀ x, x ∈ allL b → 0 ≤ x.sig ∧ x.sig < s.length := by
  intro x hx
  rcases List.mem_append.1 hx with h1 | h1
  · exact labsB_in h.2.2.2.1 x h1
  · exact labsB_in h.2.2.2.2 x h1
theorem stepB_skip {cs : List (List UInt8)} {b : Bur} (h : cAtL cs b.from_ = []) : stepB cs b = some cs := by rw [stepB, if_pos h]
theorem turnR_t {c : List UInt8} {l : List Lab} (h : (turnR c l).2 = true) : turnL c l = some (turnR c l).1 := by
  unfold turnR at h ⊢
  cases e : turnL c l with
  | none => rw [e] at h; cases h
  | some c' => rfl
theorem turnR_f {c : List UInt8} {l : List Lab} (h : (turnR c l).2 = false) : turnL c l = none := by
  unfold turnR at h
  cases e : turnL c l with
  | none => rfl
  | some c' => rw [e] at h; cases h
theorem stepB_bad1 {cs : List (List UInt8)} {b : Bur} (h : cAtL cs b.from_ ≠ []) (h2 : (!(turnR (cAtL cs b.from_) (allL b)).2) = true) : stepB cs b = none := by
  rw [stepB, if_neg h, turnR_f ((Bool.not_eq_true' _).mp h2)]
theorem stepB_bad2 {cs : List (List UInt8)} {b : Bur} (h : cAtL cs b.from_ ≠ []) (h2 : (!(turnR (cAtL cs b.from_) (allL b)).2) = false) (h3 : cAtL cs b.to_ ≠ []) (h4 : cAtL cs b.to_ ≠ (turnR (cAtL cs b.from_) (allL b)).1) : stepB cs b = none := by
  rw [stepB, if_neg h, turnR_t ((Bool.not_eq_false' _).mp h2)]
  simp only
  rw [if_pos ⟨h3, h4⟩]
theorem stepB_go {cs : List (List UInt8)} {b : Bur} (h : cAtL cs b.from_ ≠ []) (h2 : (!(turnR (cAtL cs b.from_) (allL b)).2) = false) (h3 : cAtL cs b.to_ = [] ∨ cAtL cs b.to_ = (turnR (cAtL cs b.from_) (allL b)).1) : stepB cs b = some (cs.set b.to_.toNat (turnR (cAtL cs b.from_) (allL b)).1) := by
  rw [stepB, if_neg h, turnR_t ((Bool.not_eq_false' _).mp h2)]
  simp only
  rw [if_neg (fun ⟨a, b⟩ => h3.elim a b)]
set_option maxHeartbeats 1000000 in
theorem indexStr_spec (l : List (List UInt8)) (hl : l.length ≤ 2000000) (v : List UInt8) : ASpec Tryd.prog 82 [.d (vStr l), aS (bstr v)] [] (Pure1 (aI (findI (fun x => decide (v = x)) l))) := by
  refine ASpec.of Tryd.func82 rfl rfl fun C hC => ?_
  refine AC.seq ?_
  refine AC.region ?_
  refine AL.p (by exact as1 rfl) rfl ?_
  refine AL.nil ?_
  refine th_n ?_
  refine AC.seq ?_
  refine AC.seq ?_
  refine AC.region ?_
  refine AL.p (by exact mv1 rfl) rfl ?_
  refine AL.p (by exact g_len_view rfl rfl (by exact List.length_map _)) rfl ?_
  refine AL.p (by exact mv1 rfl) rfl ?_
  refine AL.nil ?_
  refine th_n ?_
  refine AC.block ?_
  refine AC.loop (ι := Nat) (fun k => ⟨19, 0, [(0, .d (vStr l)), (1, aS (bstr v)), (6, .d (vStr l)), (7, aI l.length), (8, aI k)], []⟩) (fun k => k ≤ l.length ∧ ∀ j (hj : j < l.length), j < k → (fun x => decide (v = x)) l[j] = false) (fun k => l.length - k) (0) ?_ (⟨Nat.zero_le _, fun j _ hj => by omega⟩) ?_
  · refine Weak.ren _ [] hC rfl ?_ ?_ rfl rfl rfl <;> repeat (first | exact True.intro | refine And.intro ?_ ?_ | exact DLead.same)
  · intro k ⟨hk, hall⟩
    refine AC.seq ?_
    refine AC.region ?_
    refine AL.p (by exact g_cmp rfl rfl rfl) rfl ?_
    refine AL.nil ?_
    refine th_n ?_
    refine AC.seq ?_
    refine AC.condD rfl (fun h0 => ?_) (fun h0 => ?_)
    · refine AC.skip ?_
      refine th_n ?_
      refine AC.seq ?_
      refine AC.block ?_
      refine AC.seq ?_
      have hk1 : k < l.length := by omega
      have hget := strL_get hk1
      refine AC.region ?_
      refine AL.p (by exact mv1 rfl) rfl ?_
      refine AL.p (by exact as1 rfl) rfl ?_
      refine AL.nil ?_
      refine th_n ?_
      refine AC.seq ?_
      refine AC.region ?_
      refine AL.p (by exact mv1 rfl) rfl ?_
      refine AL.p (by exact mv1 rfl) rfl ?_
      refine AL.p (by exact mv1 rfl) rfl ?_
      refine AL.p (by exact g_ia_view rfl rfl rfl rfl rfl (by rfl) (by assumption)) rfl ?_
      refine AL.p (by exact g_load_ref rfl rfl rfl) rfl ?_
      refine AL.p (by exact g_scmp rfl rfl rfl) rfl ?_
      refine AL.nil ?_
      refine th_n ?_
      refine AC.condD rfl (fun h1 => ?_) (fun h1 => ?_)
      · refine AC.seq ?_
        refine AC.region ?_
        refine AL.p (by exact mv1 rfl) rfl ?_
        refine AL.p (by exact as1 rfl) rfl ?_
        refine AL.nil ?_
        refine th_n ?_
        refine AC.ret ?_
        refine ib_r ?_
        refine th_r ?_
        refine th_r ?_
        refine ib_r ?_
        refine th_r ?_
        refine bq_r ?_
        exact ret1 rfl (by rw [findI_at hk1 (p := fun x => decide (v = x)) (decide_eq_true (bstr_inj h1)) (fun j hj => hall j (by omega) hj)])
      · refine AC.skip ?_
        refine ib_n ?_
        refine th_n ?_
        refine AC.region ?_
        refine AL.p (by exact g_arith rfl rfl rfl (by exact wrap_i64 (by omega))) rfl ?_
        refine AL.p (by exact mv1 rfl) rfl ?_
        refine AL.nil ?_
        refine th_n ?_
        exact ⟨k + 1, ⟨by omega, fun j hj hj2 => by rcases Nat.lt_succ_iff_lt_or_eq.1 hj2 with h | rfl; exact hall j hj h; exact decide_eq_false (fun e => h1 (by rw [e]))⟩, by omega, Weak.ren _ [] hC rfl (by repeat (first | exact True.intro | refine And.intro ?_ ?_ | exact DLead.same)) (by repeat (exact True.intro)) rfl rfl rfl⟩
    · refine AC.exit ?_
      refine th_e ?_
      refine th_e ?_
      refine ib_y ?_
      refine th_n ?_
      refine AC.seq ?_
      refine AC.region ?_
      refine AL.p (by exact as1 rfl) rfl ?_
      refine AL.nil ?_
      refine th_n ?_
      refine AC.ret ?_
      refine bq_r ?_
      exact ret1 rfl (by rw [findI_none (fun j hj => hall j hj (by omega))])
theorem en_indexStr : Enters Tryd.prog 82 := enters_of Tryd.func82 rfl rfl
theorem containsStr_spec (l : List (List UInt8)) (hl : l.length ≤ 2000000) (v : List UInt8) : ASpec Tryd.prog 68 [.d (vStr l), aS (bstr v)] [] (Pure1 (aT (l.any (fun x => decide (v = x))))) := by
  have hI := indexStr_spec l hl v
  refine ASpec.of Tryd.func68 rfl rfl fun C hC => ?_
  refine AC.seq ?_
  refine AC.region ?_
  refine AL.p (by exact as1 rfl) rfl ?_
  refine AL.nil ?_
  refine th_n ?_
  refine AC.seq ?_
  refine AC.region ?_
  refine AL.p (by exact mv1 rfl) rfl ?_
  refine AL.p (by exact mv1 rfl) rfl ?_
  refine AL.q (by exact h_pure en_indexStr rfl rfl (by repeat (first | exact rfl | exact DLead.same | refine ⟨_, _, rfl, ?_, ?_⟩)) hI rfl) rfl ?_
  refine AL.p (by exact g_cmp rfl rfl rfl) rfl ?_
  refine AL.p (by exact as1 rfl) rfl ?_
  refine AL.nil ?_
  refine th_n ?_
  refine AC.ret ?_
  refine bq_r ?_
  exact ret1 rfl (by rw [findI_any])
theorem en_containsStr : Enters Tryd.prog 68 := enters_of Tryd.func68 rfl rfl
set_option maxHeartbeats 1000000 in
theorem l1HasS_spec (l : List (List UInt8)) (hl : l.length ≤ 2000000) (v : List UInt8) : ASpec Tryd.prog 25 [.d (vStr l), aS (bstr v)] [] (Pure1 (aT (l.any (fun x => decide (x = v))))) := by
  refine ASpec.of Tryd.func25 rfl rfl fun C hC => ?_
  refine AC.seq ?_
  refine AC.region ?_
  refine AL.p (by exact as1 rfl) rfl ?_
  refine AL.nil ?_
  refine th_n ?_
  refine AC.seq ?_
  refine AC.seq ?_
  refine AC.region ?_
  refine AL.p (by exact mv1 rfl) rfl ?_
  refine AL.p (by exact g_len_view rfl rfl (by exact List.length_map _)) rfl ?_
  refine AL.p (by exact mv1 rfl) rfl ?_
  refine AL.nil ?_
  refine th_n ?_
  refine AC.block ?_
  refine AC.loop (ι := Nat) (fun k => ⟨17, 0, [(1, aS (bstr v)), (7, .d (vStr l)), (8, aI l.length), (9, aI k)], []⟩) (fun k => k ≤ l.length ∧ ∀ j (hj : j < l.length), j < k → (fun x => decide (x = v)) l[j] = false) (fun k => l.length - k) (0) ?_ (⟨Nat.zero_le _, fun j _ hj => by omega⟩) ?_
  · refine Weak.ren _ [] hC rfl ?_ ?_ rfl rfl rfl <;> repeat (first | exact True.intro | refine And.intro ?_ ?_ | exact DLead.same)
  · intro k ⟨hk, hall⟩
    refine AC.seq ?_
    refine AC.region ?_
    refine AL.p (by exact g_cmp rfl rfl rfl) rfl ?_
    refine AL.nil ?_
    refine th_n ?_
    refine AC.seq ?_
    refine AC.condD rfl (fun h0 => ?_) (fun h0 => ?_)
    · refine AC.skip ?_
      refine th_n ?_
      refine AC.seq ?_
      refine AC.block ?_
      refine AC.seq ?_
      have hk1 : k < l.length := by omega
      have hget := strL_get hk1
      refine AC.region ?_
      refine AL.p (by exact g_ia_view rfl rfl rfl rfl rfl (by rfl) (by assumption)) rfl ?_
      refine AL.p (by exact g_load_ref rfl rfl rfl) rfl ?_
      refine AL.p (by exact as1 rfl) rfl ?_
      refine AL.nil ?_
      refine th_n ?_
      refine AC.seq ?_
      refine AC.region ?_
      refine AL.p (by exact mv1 rfl) rfl ?_
      refine AL.p (by exact mv1 rfl) rfl ?_
      refine AL.p (by exact g_scmp rfl rfl rfl) rfl ?_
      refine AL.nil ?_
      refine th_n ?_
      refine AC.condD rfl (fun h1 => ?_) (fun h1 => ?_)
      · refine AC.seq ?_
        refine AC.region ?_
        refine AL.p (by exact as1 rfl) rfl ?_
        refine AL.nil ?_
        refine th_n ?_
        refine AC.ret ?_
        refine ib_r ?_
        refine th_r ?_
        refine th_r ?_
        refine ib_r ?_
        refine th_r ?_
        refine bq_r ?_
        exact ret1 rfl (by rw [List.any_eq_true.2 ⟨_, List.getElem_mem hk1, decide_eq_true (bstr_inj h1)⟩])
      · refine AC.skip ?_
        refine ib_n ?_
        refine th_n ?_
        refine AC.region ?_
        refine AL.p (by exact g_arith rfl rfl rfl (by exact wrap_i64 (by omega))) rfl ?_
        refine AL.p (by exact mv1 rfl) rfl ?_
        refine AL.nil ?_
        refine th_n ?_
        exact ⟨k + 1, ⟨by omega, fun j hj hj2 => by rcases Nat.lt_succ_iff_lt_or_eq.1 hj2 with h | rfl; exact hall j hj h; exact decide_eq_false (fun e => h1 (by rw [e]))⟩, by omega, Weak.ren _ [] hC rfl (by repeat (first | exact True.intro | refine And.intro ?_ ?_ | exact DLead.same)) (by repeat (exact True.intro)) rfl rfl rfl⟩
    · refine AC.exit ?_
      refine th_e ?_
      refine th_e ?_
      refine ib_y ?_
      refine th_n ?_
      refine AC.seq ?_
      refine AC.region ?_
      refine AL.p (by exact as1 rfl) rfl ?_
      refine AL.nil ?_
      refine th_n ?_
      refine AC.ret ?_
      refine bq_r ?_
      exact ret1 rfl (by rw [List.any_eq_false.2 (fun x hx => by obtain ⟨j, hj, rfl⟩ := List.getElem_of_mem hx; have := hall j hj (by omega); simpa using this)])
theorem en_l1HasS : Enters Tryd.prog 25 := enters_of Tryd.func25 rfl rfl
set_option maxHeartbeats 4000000 in
theorem codesOf_spec (m : Mach) (hS : SmM m) (hF : FormM m) : ASpec Tryd.prog 52 [machA m] [] (Pure1 (.tup [.d (cdD m), aT (okCodes m)])) := by
  obtain ⟨n, hn⟩ : ∃ n : Nat, m.states = n := ⟨m.states.toNat, by have := hF.st; omega⟩
  have hst := hF.st
  have hsl := hF.sl
  have hbl := hF.bl
  have hbeg := CodesOk.beg hF
  rw [show m.states.toNat = n by omega] at hbeg
  have hrun : codesB m = runB m.burs n (begB m) := by rw [codesB, show m.states.toNat = n by omega]
  have hbg : begB m = (List.replicate n ([] : List UInt8)).set 0 m.first := by rw [begB, show m.states.toNat = n by omega]
  have hfi := hS.f
  refine ASpec.of Tryd.func52 rfl rfl fun C hC => ?_
  refine AC.seq ?_
  refine AC.region ?_
  refine AL.q (by exact h_boxF rfl rfl) rfl ?_
  refine AL.p (by exact as1 rfl) rfl ?_
  refine AL.p (by exact as1 rfl) rfl ?_
  refine AL.nil ?_
  refine th_n ?_
  refine AC.seq ?_
  refine AC.region ?_
  refine AL.p (by exact g_fa_ref rfl rfl rfl rfl rfl rfl) rfl ?_
  refine AL.p (by exact g_load_ref rfl rfl rfl) rfl ?_
  refine AL.q (by exact h_make (k := n) rfl rfl rfl rfl rfl rfl rfl hn (by show 16 * n ≤ _; omega) (by omega)) rfl ?_
  refine AL.p (by exact as2 rfl) rfl ?_
  refine AL.nil ?_
  refine th_n ?_
  refine AC.seq ?_
  refine AC.weak (t := ⟨74, 108, [(1, .d (.ref (machD m))), (4, .own 100 n)], [(100, some (.arr 9 1 (strL (List.replicate n []))))]⟩) (Weak.ren _ [(100, 8)] hC rfl (by repeat (first | exact True.intro | refine And.intro ?_ ?_ | exact DLead.same | exact rfl | refine ⟨_, rfl, ?_⟩)) (by rw [strL_rep]; repeat (first | exact True.intro | refine And.intro ?_ ?_ | exact rfl | refine ⟨_, _, rfl, rfl, ?_⟩)) rfl rfl rfl) ?_
  have hget0 : (strL (List.replicate n []))[0]? = some [dS (bstr [])] := by rw [strL_rep, List.getElem?_replicate, if_pos (by omega)]
  refine AC.region ?_
  refine AL.p (by exact mv2 rfl) rfl ?_
  refine AL.p (by exact g_fa_ref rfl rfl rfl rfl rfl rfl) rfl ?_
  refine AL.p (by exact g_load_ref rfl rfl rfl) rfl ?_
  refine AL.p (by exact g_ia_own (i := 0) rfl rfl rfl rfl rfl rfl (by omega) rfl) rfl ?_
  refine AL.q (by exact h_store_arr1 rfl rfl rfl rfl .same hget0) rfl ?_
  refine AL.nil ?_
  refine th_n ?_
  refine AC.seq ?_
  refine AC.seq ?_
  refine AC.region ?_
  refine AL.p (by exact g_fa_ref rfl rfl rfl rfl rfl rfl) rfl ?_
  refine AL.p (by exact g_load_ref rfl rfl rfl) rfl ?_
  refine AL.p (by exact mv1 rfl) rfl ?_
  refine AL.nil ?_
  refine th_n ?_
  refine AC.block ?_
  refine AC.loop (ι := Nat × List (List UInt8)) (fun x => ⟨74, 108, [(1, .d (.ref (machD m))), (4, .own 100 n), (17, aI n), (18, aI x.1)], [(100, some (.arr 9 1 (strL x.2)))]⟩) (fun x => x.1 ≤ n ∧ CodesOk m.sigs.length n x.2 ∧ runB m.burs (n - x.1) x.2 = codesB m) (fun x => n - x.1) ((0, begB m)) ?_ (⟨Nat.zero_le _, hbeg, hrun.symm⟩) ?_
  · exact Weak.ren _ [(100, 100)] hC rfl (by rw [hn]; repeat (first | exact True.intro | refine And.intro ?_ ?_ | exact DLead.same | exact rfl | refine ⟨_, rfl, ?_⟩)) (by rw [hbg, ← strL_set]; repeat (first | exact True.intro | refine And.intro ?_ ?_ | exact rfl | refine ⟨_, _, rfl, rfl, ?_⟩)) rfl rfl rfl
  · rintro ⟨r, cs⟩ ⟨hr, hok, hcd⟩
    dsimp only at hr hok hcd ⊢
    refine AC.seq ?_
    refine AC.region ?_
    refine AL.p (by exact g_cmp rfl rfl rfl) rfl ?_
    refine AL.nil ?_
    refine th_n ?_
    refine AC.seq ?_
    refine AC.condD rfl (fun h0 => ?_) (fun h0 => ?_)
    · refine AC.skip ?_
      refine th_n ?_
      refine AC.seq ?_
      refine AC.block ?_
      refine AC.seq ?_
      refine AC.region ?_
      refine AL.p (by exact g_fa_ref rfl rfl rfl rfl rfl rfl) rfl ?_
      refine AL.p (by exact g_load_ref rfl rfl rfl) rfl ?_
      refine AL.p (by exact g_len_view rfl rfl (by exact List.length_map _)) rfl ?_
      refine AL.p (by exact mv1 rfl) rfl ?_
      refine AL.nil ?_
      refine th_n ?_
      refine AC.block ?_
      refine AC.loop (ι := Nat × List (List UInt8)) (fun x => ⟨74, 108, [(1, .d (.ref (machD m))), (4, .own 100 n), (17, aI n), (18, aI r), (21, .d (vBurs m.burs)), (22, aI m.burs.length), (23, aI x.1)], [(100, some (.arr 9 1 (strL x.2)))]⟩) (fun x => x.1 ≤ m.burs.length ∧ CodesOk m.sigs.length n x.2 ∧ passB (m.burs.drop x.1) x.2 = passB m.burs cs) (fun x => m.burs.length - x.1) ((0, cs)) ?_ (⟨Nat.zero_le _, hok, rfl⟩) ?_
      · exact Weak.ren _ [(100, 100)] hC rfl (by repeat (first | exact True.intro | refine And.intro ?_ ?_ | exact DLead.same | exact rfl | refine ⟨_, rfl, ?_⟩)) (by repeat (first | exact True.intro | refine And.intro ?_ ?_ | exact rfl | refine ⟨_, _, rfl, rfl, ?_⟩)) rfl rfl rfl
      · rintro ⟨k, cc⟩ ⟨hk, hok2, hps⟩
        dsimp only at hk hok2 hps ⊢
        refine AC.seq ?_
        refine AC.region ?_
        refine AL.p (by exact g_cmp rfl rfl rfl) rfl ?_
        refine AL.nil ?_
        refine th_n ?_
        refine AC.seq ?_
        refine AC.condD rfl (fun h1 => ?_) (fun h1 => ?_)
        · refine AC.skip ?_
          refine th_n ?_
          refine AC.seq ?_
          refine AC.block ?_
          refine AC.seq ?_
          have hr1 : r < n := by omega
          have hk1 : k < m.burs.length := by omega
          have hget := bursL_get hk1
          have hmem := List.getElem_mem hk1
          have hbi := burB_iff (hF.b _ hmem)
          have hbl2 := hS.bl _ hmem
          have hps2 := pass_step hk1 cc
          refine AC.region ?_
          refine AL.p (by exact g_ia_view rfl rfl rfl rfl rfl (by rfl) (by assumption)) rfl ?_
          refine AL.p (by exact g_load_refN rfl rfl rfl rfl) rfl ?_
          refine AL.q (by exact h_alloc rfl) rfl ?_
          refine AL.q (by exact h_store rfl rfl rfl rfl rfl rfl) rfl ?_
          refine AL.nil ?_
          refine th_n ?_
          refine AC.seq ?_
          refine AC.seq ?_
          refine AC.weak (Weak.freezeRef (ds := burD m.burs[k]) 6 rfl rfl) ?_
          have hI1 : m.burs[k].from_ = ((m.burs[k].from_.toNat : Nat) : Int) := by omega
          have hI2 : m.burs[k].to_ = ((m.burs[k].to_.toNat : Nat) : Int) := by omega
          have hcl := hok2.l
          have hg1 : (strL cc)[m.burs[k].from_.toNat]? = some [dS (bstr (cAtL cc m.burs[k].from_))] := strL_at (by omega)
          have hg2 : (strL cc)[m.burs[k].to_.toNat]? = some [dS (bstr (cAtL cc m.burs[k].to_))] := strL_at (by omega)
          refine AC.region ?_
          refine AL.p (by exact mv2 rfl) rfl ?_
          refine AL.p (by exact g_fa_ref rfl rfl rfl rfl rfl rfl) rfl ?_
          refine AL.p (by exact g_load_ref rfl rfl rfl) rfl ?_
          refine AL.p (by exact g_ia_own rfl rfl rfl rfl rfl (by assumption) (by omega) (by exact Nat.mul_one _)) rfl ?_
          refine AL.p (by exact g_load_arr1 rfl rfl rfl rfl (by assumption)) rfl ?_
          refine AL.p (by exact g_scmp rfl rfl rfl) rfl ?_
          refine AL.nil ?_
          refine th_n ?_
          refine AC.condD rfl (fun h2 => ?_) (fun h2 => ?_)
          · refine AC.exit ?_
            refine th_e ?_
            refine ib_y ?_
            refine th_n ?_
            refine AC.region ?_
            refine AL.p (by exact g_arith rfl rfl rfl (by exact wrap_i64 (by omega))) rfl ?_
            refine AL.p (by exact mv1 rfl) rfl ?_
            refine AL.nil ?_
            refine th_n ?_
            (have e := stepB_skip (b := m.burs[k]) (bstr_inj (b := []) h2); rw [e] at hps2; exact ⟨(k + 1, cc), ⟨hk1, hok2, hps2.symm.trans hps⟩, by show m.burs.length - (k + 1) < m.burs.length - k; omega, Weak.ren _ [(100, 100)] hC rfl (by repeat (first | exact True.intro | refine And.intro ?_ ?_ | exact DLead.same | exact rfl | refine ⟨_, rfl, ?_⟩)) (by repeat (first | exact True.intro | refine And.intro ?_ ?_ | exact rfl | refine ⟨_, _, rfl, rfl, ?_⟩)) rfl rfl rfl⟩)
          · refine AC.skip ?_
            refine th_n ?_
            refine AC.seq ?_
            have hne : cAtL cc m.burs[k].from_ ≠ [] := fun e => h2 (by rw [e]; rfl)
            have hbc := (hok2.at m.burs[k].from_).resolve_left hne
            have hinn := labs_in hbi
            have hgo := stepB_go hne (b := m.burs[k])
            have hb1 := stepB_bad1 hne (b := m.burs[k])
            have hb2 := stepB_bad2 hne (b := m.burs[k])
            have hLs := burLabels_spec m.burs[k] hbl2.1 hbl2.2 hbi.2.2.1
            have hTn := switchedCode_spec (cAtL cc m.burs[k].from_) (allL m.burs[k]) (by rw [hbc.1]; omega) (by rw [List.length_append]; omega) (fun x hx => by rw [hbc.1]; exact hinn x hx)
            obtain ⟨tr, htr⟩ : ∃ t, t = turnR (cAtL cc m.burs[k].from_) (allL m.burs[k]) := ⟨_, rfl⟩
            rw [← htr] at hTn hgo hb1 hb2
            obtain ⟨nx, ok⟩ := tr
            dsimp only at hTn hgo hb1 hb2
            refine AC.drawn' mixed_ok [[], [], [1], [0,1,2], [0,1,2,3], [], [5], [0,1,2,3,4,5,6], [0,1,2,3,4,5,6,7], [0,1,2,3,4,5,6,7,8], [0,1,2,3,4,5,6,7,8], [0,1,2,3,4,5,6,7,8,9], [0,1,2,3,4,5,6,7,8,9,10,11]] (by decide) ?_
            refine DF.op 0 [] 13 rfl rfl rfl (.free rfl (NOp.of (by exact mv2 rfl))) rfl ?_
            refine DF.op 1 [] 13 rfl rfl rfl (.free rfl (NOp.of (by exact g_fa_ref rfl rfl rfl rfl rfl rfl))) rfl ?_
            refine DF.op 2 [1] 13 rfl rfl rfl (.free rfl (NOp.of (by exact g_load_ref rfl rfl rfl))) rfl ?_
            refine DF.op 3 [0,1,2] 13 rfl rfl rfl (.free rfl (NOp.of (by exact g_ia_own rfl rfl rfl rfl rfl (by assumption) (by omega) (by exact Nat.mul_one _)))) rfl ?_
            refine DF.op 4 [0,1,2,3] 13 rfl rfl rfl (.free rfl (NOp.of (by exact g_load_arr1 rfl rfl rfl rfl (by assumption)))) rfl ?_
            refine DF.op 5 [] 13 rfl rfl rfl (.free rfl (NOp.of (by exact g_load_refN rfl rfl rfl rfl))) rfl ?_
            refine DF.op 6 [5] 13 rfl rfl rfl (.free rfl (by exact h_pure en_burLabels rfl rfl (by repeat (first | exact rfl | exact DLead.same | refine ⟨_, _, rfl, ?_, ?_⟩ | refine ⟨_, rfl, ?_⟩)) hLs rfl)) rfl ?_
            refine DF.op 7 [0,1,2,3,4,5,6] 13 rfl rfl rfl (.free rfl (by exact h_pure en_switchedCode rfl rfl (by repeat (first | exact rfl | exact DLead.same | refine ⟨_, _, rfl, ?_, ?_⟩)) hTn rfl)) rfl ?_
            refine DF.op 8 [0,1,2,3,4,5,6,7] 13 rfl rfl rfl (.free rfl (NOp.of (by exact mv5 rfl))) rfl ?_
            refine DF.op 9 [0,1,2,3,4,5,6,7,8] 13 rfl rfl rfl (.free rfl (NOp.of (by exact g_extract (r := .d _) rfl rfl))) rfl ?_
            refine DF.op 10 [0,1,2,3,4,5,6,7,8] 13 rfl rfl rfl (.free rfl (NOp.of (by exact g_extract (r := .d _) rfl rfl))) rfl ?_
            refine DF.op 11 [0,1,2,3,4,5,6,7,8,9] 13 rfl rfl rfl (.free rfl (NOp.of (by exact as1 rfl))) rfl ?_
            refine DF.op 12 [0,1,2,3,4,5,6,7,8,9,10,11] 13 rfl rfl rfl (.free rfl (NOp.of (by exact as1 rfl))) rfl ?_
            refine DF.fin (ps := [(0, 1), (0, 2), (0, 5), (0, 6), (1, 0), (1, 5), (1, 6), (2, 0), (2, 5), (2, 6), (3, 5), (3, 6), (4, 5), (4, 6), (5, 0), (5, 1), (5, 2), (5, 3), (5, 4), (6, 0), (6, 1), (6, 2), (6, 3), (6, 4), (9, 10), (10, 9), (10, 11), (11, 10)]) 13 rfl (by decide +kernel) (by decide +kernel) (by rfl) ?_
            refine th_n ?_
            refine AC.seq ?_
            refine AC.seq ?_
            refine AC.region ?_
            refine AL.p (by exact mv1 rfl) rfl ?_
            refine AL.p (by exact g_not rfl) rfl ?_
            refine AL.p (by exact mv1 rfl) rfl ?_
            refine AL.caseGB rfl rfl (fun h3 => ?_) (fun h3 => ?_)
            · refine AL.not rfl rfl rfl rfl rfl ?_
              refine AL.not rfl rfl rfl rfl rfl ?_
              refine AL.not rfl rfl rfl rfl rfl ?_
              refine AL.not rfl rfl rfl rfl rfl ?_
              refine AL.not rfl rfl rfl rfl rfl ?_
              refine AL.not rfl rfl rfl rfl rfl ?_
              refine AL.not rfl rfl rfl rfl rfl ?_
              refine AL.notU rfl rfl rfl ?_
              refine AL.notU rfl rfl rfl ?_
              refine AL.notU rfl rfl rfl ?_
              refine AL.notU rfl rfl rfl ?_
              refine AL.notU rfl rfl rfl ?_
              refine AL.notU rfl rfl rfl ?_
              refine AL.notU rfl rfl rfl ?_
              refine AL.not rfl rfl rfl rfl rfl ?_
              refine AL.p (by exact g_pickT (r := .d _) rfl rfl) rfl ?_
              refine AL.nil ?_
              refine th_n ?_
              refine AC.condT rfl ?_
              refine AC.seq ?_
              refine AC.region ?_
              refine AL.p (by exact as1 rfl) rfl ?_
              refine AL.p (by exact as1 rfl) rfl ?_
              refine AL.nil ?_
              refine th_n ?_
              refine AC.ret ?_
              refine th_r ?_
              refine ib_r ?_
              refine th_r ?_
              refine th_r ?_
              refine ib_r ?_
              refine ib_r ?_
              refine th_r ?_
              refine th_r ?_
              refine ib_r ?_
              refine th_r ?_
              refine bq_r ?_
              have e := hb1 h3
              rw [e] at hps2
              have hno : codesB m = none := by rw [← hcd, show n - r = (n - r - 1) + 1 by omega, runB, ← hps, hps2]
              exact ret2 rfl (by rw [cdD, hno]) (by rw [okCodes, hno])
            · refine AL.yes rfl rfl rfl ?_
              refine AL.p (by exact mv2 rfl) rfl ?_
              refine AL.yes rfl rfl rfl ?_
              refine AL.p (by exact g_fa_ref rfl rfl rfl rfl rfl rfl) rfl ?_
              refine AL.yes rfl rfl rfl ?_
              refine AL.p (by exact g_load_ref rfl rfl rfl) rfl ?_
              refine AL.yes rfl rfl rfl ?_
              refine AL.p (by exact g_ia_own rfl rfl rfl rfl rfl (by assumption) (by omega) (by exact Nat.mul_one _)) rfl ?_
              refine AL.yes rfl rfl rfl ?_
              refine AL.p (by exact g_load_arr1 rfl rfl rfl rfl (by assumption)) rfl ?_
              refine AL.yes rfl rfl rfl ?_
              refine AL.p (by exact g_scmp rfl rfl rfl) rfl ?_
              refine AL.yes rfl rfl rfl ?_
              refine AL.p (by exact mv1 rfl) rfl ?_
              refine AL.caseGN rfl rfl (fun h4 => ?_) (fun h4 => ?_)
              · refine AL.yes rfl rfl rfl ?_
                refine AL.p (by exact mv2 rfl) rfl ?_
                refine AL.yes rfl rfl rfl ?_
                refine AL.p (by exact g_fa_ref rfl rfl rfl rfl rfl rfl) rfl ?_
                refine AL.yes rfl rfl rfl ?_
                refine AL.p (by exact g_load_ref rfl rfl rfl) rfl ?_
                refine AL.yes rfl rfl rfl ?_
                refine AL.p (by exact g_ia_own rfl rfl rfl rfl rfl (by assumption) (by omega) (by exact Nat.mul_one _)) rfl ?_
                refine AL.yes rfl rfl rfl ?_
                refine AL.p (by exact g_load_arr1 rfl rfl rfl rfl (by assumption)) rfl ?_
                refine AL.yes rfl rfl rfl ?_
                refine AL.p (by exact mv1 rfl) rfl ?_
                refine AL.yes rfl rfl rfl ?_
                refine AL.p (by exact g_scmp rfl rfl rfl) rfl ?_
                refine AL.yes rfl rfl rfl ?_
                refine AL.p (by exact g_pickT (r := .d _) rfl rfl) rfl ?_
                refine AL.p (by exact g_pickF (r := .d _) rfl rfl) rfl ?_
                refine AL.nil ?_
                refine th_n ?_
                refine AC.condND rfl (fun h5 => ?_) (fun h5 => ?_)
                · refine AC.seq ?_
                  refine AC.region ?_
                  refine AL.p (by exact as1 rfl) rfl ?_
                  refine AL.p (by exact as1 rfl) rfl ?_
                  refine AL.nil ?_
                  refine th_n ?_
                  refine AC.ret ?_
                  refine th_r ?_
                  refine ib_r ?_
                  refine th_r ?_
                  refine th_r ?_
                  refine ib_r ?_
                  refine ib_r ?_
                  refine th_r ?_
                  refine th_r ?_
                  refine ib_r ?_
                  refine th_r ?_
                  refine bq_r ?_
                  have e := hb2 h3 (fun e => h4 (by rw [e]; rfl)) (fun e => h5 (by rw [e]))
                  rw [e] at hps2
                  have hno : codesB m = none := by rw [← hcd, show n - r = (n - r - 1) + 1 by omega, runB, ← hps, hps2]
                  exact ret2 rfl (by rw [cdD, hno]) (by rw [okCodes, hno])
                · refine AC.skip ?_
                  refine th_n ?_
                  refine AC.region ?_
                  refine AL.p (by exact mv2 rfl) rfl ?_
                  refine AL.p (by exact g_fa_ref rfl rfl rfl rfl rfl rfl) rfl ?_
                  refine AL.p (by exact g_load_ref rfl rfl rfl) rfl ?_
                  refine AL.p (by exact mv1 rfl) rfl ?_
                  refine AL.p (by exact g_ia_own rfl rfl rfl rfl rfl (by assumption) (by omega) (by exact Nat.mul_one _)) rfl ?_
                  refine AL.q (by exact h_store_arr1 rfl rfl rfl rfl (by exact .same) (by assumption)) rfl ?_
                  refine AL.nil ?_
                  refine ib_n ?_
                  refine th_n ?_
                  refine AC.region ?_
                  refine AL.p (by exact g_arith rfl rfl rfl (by exact wrap_i64 (by omega))) rfl ?_
                  refine AL.p (by exact mv1 rfl) rfl ?_
                  refine AL.nil ?_
                  refine th_n ?_
                  (have e := hgo h3 (.inr (bstr_inj (h5))); have e2 := hok2.step e; rw [e] at hps2; exact ⟨(k + 1, cc.set m.burs[k].to_.toNat nx), ⟨hk1, e2, hps2.symm.trans hps⟩, by show m.burs.length - (k + 1) < m.burs.length - k; omega, Weak.ren _ [(100, 100)] hC rfl (by repeat (first | exact True.intro | refine And.intro ?_ ?_ | exact DLead.same | exact rfl | refine ⟨_, rfl, ?_⟩)) (by rw [← strL_set]; repeat (first | exact True.intro | refine And.intro ?_ ?_ | exact rfl | refine ⟨_, _, rfl, rfl, ?_⟩)) rfl rfl rfl⟩)
              · refine AL.not rfl rfl rfl rfl rfl ?_
                refine AL.not rfl rfl rfl rfl rfl ?_
                refine AL.not rfl rfl rfl rfl rfl ?_
                refine AL.not rfl rfl rfl rfl rfl ?_
                refine AL.not rfl rfl rfl rfl rfl ?_
                refine AL.not rfl rfl rfl rfl rfl ?_
                refine AL.not rfl rfl rfl rfl rfl ?_
                refine AL.yes rfl rfl rfl ?_
                refine AL.p (by exact g_pickF (r := .d _) rfl rfl) rfl ?_
                refine AL.p (by exact g_pickF (r := .d _) rfl rfl) rfl ?_
                refine AL.nil ?_
                refine th_n ?_
                refine AC.condF rfl ?_
                refine AC.skip ?_
                refine th_n ?_
                refine AC.region ?_
                refine AL.p (by exact mv2 rfl) rfl ?_
                refine AL.p (by exact g_fa_ref rfl rfl rfl rfl rfl rfl) rfl ?_
                refine AL.p (by exact g_load_ref rfl rfl rfl) rfl ?_
                refine AL.p (by exact mv1 rfl) rfl ?_
                refine AL.p (by exact g_ia_own rfl rfl rfl rfl rfl (by assumption) (by omega) (by exact Nat.mul_one _)) rfl ?_
                refine AL.q (by exact h_store_arr1 rfl rfl rfl rfl (by exact .same) (by assumption)) rfl ?_
                refine AL.nil ?_
                refine ib_n ?_
                refine th_n ?_
                refine AC.region ?_
                refine AL.p (by exact g_arith rfl rfl rfl (by exact wrap_i64 (by omega))) rfl ?_
                refine AL.p (by exact mv1 rfl) rfl ?_
                refine AL.nil ?_
                refine th_n ?_
                (have e := hgo h3 (.inl (bstr_inj (b := []) h4)); have e2 := hok2.step e; rw [e] at hps2; exact ⟨(k + 1, cc.set m.burs[k].to_.toNat nx), ⟨hk1, e2, hps2.symm.trans hps⟩, by show m.burs.length - (k + 1) < m.burs.length - k; omega, Weak.ren _ [(100, 100)] hC rfl (by repeat (first | exact True.intro | refine And.intro ?_ ?_ | exact DLead.same | exact rfl | refine ⟨_, rfl, ?_⟩)) (by rw [← strL_set]; repeat (first | exact True.intro | refine And.intro ?_ ?_ | exact rfl | refine ⟨_, _, rfl, rfl, ?_⟩)) rfl rfl rfl⟩)
        · refine AC.exit ?_
          refine th_e ?_
          refine th_e ?_
          refine ib_y ?_
          refine ib_n ?_
          refine th_n ?_
          refine AC.region ?_
          refine AL.p (by exact g_arith rfl rfl rfl (by exact wrap_i64 (by omega))) rfl ?_
          refine AL.p (by exact mv1 rfl) rfl ?_
          refine AL.nil ?_
          refine th_n ?_
          have hkk : k = m.burs.length := by omega
          subst hkk
          rw [List.drop_length, passB] at hps
          exact ⟨(r + 1, cc), ⟨by show r + 1 ≤ n; omega, hok2, by rw [← hcd, show n - r = (n - (r + 1)) + 1 by omega, runB, ← hps]⟩, by show n - (r + 1) < n - r; omega, Weak.ren _ [(100, 100)] hC rfl (by repeat (first | exact True.intro | refine And.intro ?_ ?_ | exact DLead.same | exact rfl | refine ⟨_, rfl, ?_⟩)) (by repeat (first | exact True.intro | refine And.intro ?_ ?_ | exact rfl | refine ⟨_, _, rfl, rfl, ?_⟩)) rfl rfl rfl⟩
    · refine AC.exit ?_
      refine th_e ?_
      refine th_e ?_
      refine ib_y ?_
      refine th_n ?_
      refine AC.seq ?_
      have hrr : n - r = 0 := by omega
      rw [hrr, runB] at hcd
      have hcl := hok.l
      refine AC.weak (Weak.freeze (i := 4) rfl rfl (by rw [strL_len]; omega) (List.take_of_length_le (by rw [strL_len]; omega))) ?_
      have hCt := containsStr_spec cs (by omega) []
      refine AC.region ?_
      refine AL.p (by exact mv1 rfl) rfl ?_
      refine AL.p (by exact mv1 rfl) rfl ?_
      refine AL.q (by exact h_pure en_containsStr rfl rfl (by repeat (first | exact rfl | exact DLead.same | refine ⟨_, _, rfl, ?_, ?_⟩)) hCt rfl) rfl ?_
      refine AL.p (by exact g_not rfl) rfl ?_
      refine AL.p (by exact as1 rfl) rfl ?_
      refine AL.p (by exact as1 rfl) rfl ?_
      refine AL.nil ?_
      refine th_n ?_
      refine AC.ret ?_
      refine bq_r ?_
      exact ret2 rfl (by rw [cdD, ← hcd]) (by rw [okCodes, ← hcd, any_nil])
theorem en_codesOf : Enters Tryd.prog 52 := enters_of Tryd.func52 rfl rfl
set_option maxHeartbeats 4000000 in
theorem l24Codes_spec (m : Mach) (hS : SmM m) (hF : FormM m) : ASpec Tryd.prog 24 [machA m] [] (Pure1 (.tup [.d (cdD m), aT (okRun m)])) := by
  obtain ⟨n, hn⟩ : ∃ n : Nat, m.states = n := ⟨m.states.toNat, by have := hF.st; omega⟩
  have hst := hF.st
  have hsl := hF.sl
  have hbl := hF.bl
  have hbeg := CodesOk.beg hF
  rw [show m.states.toNat = n by omega] at hbeg
  have hrun : codesB m = runB m.burs n (begB m) := by rw [codesB, show m.states.toNat = n by omega]
  have hbg : begB m = (List.replicate n ([] : List UInt8)).set 0 m.first := by rw [begB, show m.states.toNat = n by omega]
  have hfi := hS.f
  refine ASpec.of Tryd.func24 rfl rfl fun C hC => ?_
  refine AC.seq ?_
  refine AC.region ?_
  refine AL.q (by exact h_boxF rfl rfl) rfl ?_
  refine AL.p (by exact as1 rfl) rfl ?_
  refine AL.p (by exact as1 rfl) rfl ?_
  refine AL.nil ?_
  refine th_n ?_
  refine AC.seq ?_
  refine AC.region ?_
  refine AL.p (by exact g_fa_ref rfl rfl rfl rfl rfl rfl) rfl ?_
  refine AL.p (by exact g_load_ref rfl rfl rfl) rfl ?_
  refine AL.q (by exact h_make (k := n) rfl rfl rfl rfl rfl rfl rfl hn (by show 16 * n ≤ _; omega) (by omega)) rfl ?_
  refine AL.p (by exact as2 rfl) rfl ?_
  refine AL.nil ?_
  refine th_n ?_
  refine AC.seq ?_
  refine AC.weak (t := ⟨70, 108, [(1, .d (.ref (machD m))), (4, .own 100 n)], [(100, some (.arr 9 1 (strL (List.replicate n []))))]⟩) (Weak.ren _ [(100, 8)] hC rfl (by repeat (first | exact True.intro | refine And.intro ?_ ?_ | exact DLead.same | exact rfl | refine ⟨_, rfl, ?_⟩)) (by rw [strL_rep]; repeat (first | exact True.intro | refine And.intro ?_ ?_ | exact rfl | refine ⟨_, _, rfl, rfl, ?_⟩)) rfl rfl rfl) ?_
  have hget0 : (strL (List.replicate n []))[0]? = some [dS (bstr [])] := by rw [strL_rep, List.getElem?_replicate, if_pos (by omega)]
  refine AC.region ?_
  refine AL.p (by exact mv2 rfl) rfl ?_
  refine AL.p (by exact g_fa_ref rfl rfl rfl rfl rfl rfl) rfl ?_
  refine AL.p (by exact g_load_ref rfl rfl rfl) rfl ?_
  refine AL.p (by exact g_ia_own (i := 0) rfl rfl rfl rfl rfl rfl (by omega) rfl) rfl ?_
  refine AL.q (by exact h_store_arr1 rfl rfl rfl rfl .same hget0) rfl ?_
  refine AL.nil ?_
  refine th_n ?_
  refine AC.seq ?_
  refine AC.seq ?_
  refine AC.region ?_
  refine AL.p (by exact mv2 rfl) rfl ?_
  refine AL.p (by exact g_len_own (sz := 1) (els := []) (e' := 0) rfl rfl (by simp only [maxLen]; omega)) rfl ?_
  refine AL.p (by exact mv1 rfl) rfl ?_
  refine AL.nil ?_
  refine th_n ?_
  refine AC.block ?_
  refine AC.loop (ι := Nat × List (List UInt8)) (fun x => ⟨70, 108, [(1, .d (.ref (machD m))), (4, .own 100 n), (17, aI n), (18, aI x.1)], [(100, some (.arr 9 1 (strL x.2)))]⟩) (fun x => x.1 ≤ n ∧ CodesOk m.sigs.length n x.2 ∧ runB m.burs (n - x.1) x.2 = codesB m) (fun x => n - x.1) ((0, begB m)) ?_ (⟨Nat.zero_le _, hbeg, hrun.symm⟩) ?_
  · exact Weak.ren _ [(100, 100)] hC rfl (by repeat (first | exact True.intro | refine And.intro ?_ ?_ | exact DLead.same | exact rfl | refine ⟨_, rfl, ?_⟩)) (by rw [hbg, ← strL_set]; repeat (first | exact True.intro | refine And.intro ?_ ?_ | exact rfl | refine ⟨_, _, rfl, rfl, ?_⟩)) rfl rfl rfl
  · rintro ⟨r, cs⟩ ⟨hr, hok, hcd⟩
    dsimp only at hr hok hcd ⊢
    refine AC.seq ?_
    refine AC.region ?_
    refine AL.p (by exact g_cmp rfl rfl rfl) rfl ?_
    refine AL.nil ?_
    refine th_n ?_
    refine AC.seq ?_
    refine AC.condD rfl (fun h0 => ?_) (fun h0 => ?_)
    · refine AC.skip ?_
      refine th_n ?_
      refine AC.seq ?_
      refine AC.block ?_
      refine AC.seq ?_
      refine AC.region ?_
      refine AL.p (by exact g_fa_ref rfl rfl rfl rfl rfl rfl) rfl ?_
      refine AL.p (by exact g_load_ref rfl rfl rfl) rfl ?_
      refine AL.p (by exact g_len_view rfl rfl (by exact List.length_map _)) rfl ?_
      refine AL.p (by exact mv1 rfl) rfl ?_
      refine AL.nil ?_
      refine th_n ?_
      refine AC.block ?_
      refine AC.loop (ι := Nat × List (List UInt8)) (fun x => ⟨70, 108, [(1, .d (.ref (machD m))), (4, .own 100 n), (17, aI n), (18, aI r), (21, .d (vBurs m.burs)), (22, aI m.burs.length), (23, aI x.1)], [(100, some (.arr 9 1 (strL x.2)))]⟩) (fun x => x.1 ≤ m.burs.length ∧ CodesOk m.sigs.length n x.2 ∧ passB (m.burs.drop x.1) x.2 = passB m.burs cs) (fun x => m.burs.length - x.1) ((0, cs)) ?_ (⟨Nat.zero_le _, hok, rfl⟩) ?_
      · exact Weak.ren _ [(100, 100)] hC rfl (by repeat (first | exact True.intro | refine And.intro ?_ ?_ | exact DLead.same | exact rfl | refine ⟨_, rfl, ?_⟩)) (by repeat (first | exact True.intro | refine And.intro ?_ ?_ | exact rfl | refine ⟨_, _, rfl, rfl, ?_⟩)) rfl rfl rfl
      · rintro ⟨k, cc⟩ ⟨hk, hok2, hps⟩
        dsimp only at hk hok2 hps ⊢
        refine AC.seq ?_
        refine AC.region ?_
        refine AL.p (by exact g_cmp rfl rfl rfl) rfl ?_
        refine AL.nil ?_
        refine th_n ?_
        refine AC.seq ?_
        refine AC.condD rfl (fun h1 => ?_) (fun h1 => ?_)
        · refine AC.skip ?_
          refine th_n ?_
          refine AC.seq ?_
          refine AC.block ?_
          refine AC.seq ?_
          have hr1 : r < n := by omega
          have hk1 : k < m.burs.length := by omega
          have hget := bursL_get hk1
          have hmem := List.getElem_mem hk1
          have hbi := burB_iff (hF.b _ hmem)
          have hbl2 := hS.bl _ hmem
          have hps2 := pass_step hk1 cc
          refine AC.region ?_
          refine AL.p (by exact g_ia_view rfl rfl rfl rfl rfl (by rfl) (by assumption)) rfl ?_
          refine AL.p (by exact g_load_refN rfl rfl rfl rfl) rfl ?_
          refine AL.q (by exact h_alloc rfl) rfl ?_
          refine AL.q (by exact h_store rfl rfl rfl rfl rfl rfl) rfl ?_
          refine AL.nil ?_
          refine th_n ?_
          refine AC.seq ?_
          refine AC.seq ?_
          refine AC.weak (Weak.freezeRef (ds := burD m.burs[k]) 6 rfl rfl) ?_
          have hI1 : m.burs[k].from_ = ((m.burs[k].from_.toNat : Nat) : Int) := by omega
          have hI2 : m.burs[k].to_ = ((m.burs[k].to_.toNat : Nat) : Int) := by omega
          have hcl := hok2.l
          have hg1 : (strL cc)[m.burs[k].from_.toNat]? = some [dS (bstr (cAtL cc m.burs[k].from_))] := strL_at (by omega)
          have hg2 : (strL cc)[m.burs[k].to_.toNat]? = some [dS (bstr (cAtL cc m.burs[k].to_))] := strL_at (by omega)
          refine AC.region ?_
          refine AL.p (by exact mv2 rfl) rfl ?_
          refine AL.p (by exact g_fa_ref rfl rfl rfl rfl rfl rfl) rfl ?_
          refine AL.p (by exact g_load_ref rfl rfl rfl) rfl ?_
          refine AL.p (by exact g_ia_own rfl rfl rfl rfl rfl (by assumption) (by omega) (by exact Nat.mul_one _)) rfl ?_
          refine AL.p (by exact g_load_arr1 rfl rfl rfl rfl (by assumption)) rfl ?_
          refine AL.p (by exact g_scmp rfl rfl rfl) rfl ?_
          refine AL.nil ?_
          refine th_n ?_
          refine AC.condD rfl (fun h2 => ?_) (fun h2 => ?_)
          · refine AC.exit ?_
            refine th_e ?_
            refine ib_y ?_
            refine th_n ?_
            refine AC.region ?_
            refine AL.p (by exact g_arith rfl rfl rfl (by exact wrap_i64 (by omega))) rfl ?_
            refine AL.p (by exact mv1 rfl) rfl ?_
            refine AL.nil ?_
            refine th_n ?_
            (have e := stepB_skip (b := m.burs[k]) (bstr_inj (b := []) h2); rw [e] at hps2; exact ⟨(k + 1, cc), ⟨hk1, hok2, hps2.symm.trans hps⟩, by show m.burs.length - (k + 1) < m.burs.length - k; omega, Weak.ren _ [(100, 100)] hC rfl (by repeat (first | exact True.intro | refine And.intro ?_ ?_ | exact DLead.same | exact rfl | refine ⟨_, rfl, ?_⟩)) (by repeat (first | exact True.intro | refine And.intro ?_ ?_ | exact rfl | refine ⟨_, _, rfl, rfl, ?_⟩)) rfl rfl rfl⟩)
          · refine AC.skip ?_
            refine th_n ?_
            refine AC.seq ?_
            have hne : cAtL cc m.burs[k].from_ ≠ [] := fun e => h2 (by rw [e]; rfl)
            have hbc := (hok2.at m.burs[k].from_).resolve_left hne
            have hinn := labs_in hbi
            have hgo := stepB_go hne (b := m.burs[k])
            have hb1 := stepB_bad1 hne (b := m.burs[k])
            have hb2 := stepB_bad2 hne (b := m.burs[k])
            have hTn := l24Turned_spec (cAtL cc m.burs[k].from_) m.burs[k] m.sigs.length (by omega) hbc hbl2.1 hbl2.2 hinn
            obtain ⟨tr, htr⟩ : ∃ t, t = turnR (cAtL cc m.burs[k].from_) (allL m.burs[k]) := ⟨_, rfl⟩
            rw [← htr] at hTn hgo hb1 hb2
            obtain ⟨nx, ok⟩ := tr
            dsimp only at hTn hgo hb1 hb2
            refine AC.drawn' mixed_ok [[], [], [1], [0,1,2], [0,1,2,3], [], [0,1,2,3,4,5], [0,1,2,3,4,5,6], [0,1,2,3,4,5,6,7], [0,1,2,3,4,5,6,7], [0,1,2,3,4,5,6,7,8], [0,1,2,3,4,5,6,7,8,9,10]] (by decide) ?_
            refine DF.op 0 [] 12 rfl rfl rfl (.free rfl (NOp.of (by exact mv2 rfl))) rfl ?_
            refine DF.op 1 [] 12 rfl rfl rfl (.free rfl (NOp.of (by exact g_fa_ref rfl rfl rfl rfl rfl rfl))) rfl ?_
            refine DF.op 2 [1] 12 rfl rfl rfl (.free rfl (NOp.of (by exact g_load_ref rfl rfl rfl))) rfl ?_
            refine DF.op 3 [0,1,2] 12 rfl rfl rfl (.free rfl (NOp.of (by exact g_ia_own rfl rfl rfl rfl rfl (by assumption) (by omega) (by exact Nat.mul_one _)))) rfl ?_
            refine DF.op 4 [0,1,2,3] 12 rfl rfl rfl (.free rfl (NOp.of (by exact g_load_arr1 rfl rfl rfl rfl (by assumption)))) rfl ?_
            refine DF.op 5 [] 12 rfl rfl rfl (.free rfl (NOp.of (by exact g_load_refN rfl rfl rfl rfl))) rfl ?_
            refine DF.op 6 [0,1,2,3,4,5] 12 rfl rfl rfl (.free rfl (by exact h_pure en_l24Turned rfl rfl (by repeat (first | exact rfl | exact DLead.same | refine ⟨_, _, rfl, ?_, ?_⟩ | refine ⟨_, rfl, ?_⟩)) hTn rfl)) rfl ?_
            refine DF.op 7 [0,1,2,3,4,5,6] 12 rfl rfl rfl (.free rfl (NOp.of (by exact mv5 rfl))) rfl ?_
            refine DF.op 8 [0,1,2,3,4,5,6,7] 12 rfl rfl rfl (.free rfl (NOp.of (by exact g_extract (r := .d _) rfl rfl))) rfl ?_
            refine DF.op 9 [0,1,2,3,4,5,6,7] 12 rfl rfl rfl (.free rfl (NOp.of (by exact g_extract (r := .d _) rfl rfl))) rfl ?_
            refine DF.op 10 [0,1,2,3,4,5,6,7,8] 12 rfl rfl rfl (.free rfl (NOp.of (by exact as1 rfl))) rfl ?_
            refine DF.op 11 [0,1,2,3,4,5,6,7,8,9,10] 12 rfl rfl rfl (.free rfl (NOp.of (by exact as1 rfl))) rfl ?_
            refine DF.fin (ps := [(0, 1), (0, 2), (0, 5), (1, 0), (1, 5), (2, 0), (2, 5), (3, 5), (4, 5), (5, 0), (5, 1), (5, 2), (5, 3), (5, 4), (8, 9), (9, 8), (9, 10), (10, 9)]) 12 rfl (by decide +kernel) (by decide +kernel) (by rfl) ?_
            refine th_n ?_
            refine AC.seq ?_
            refine AC.seq ?_
            refine AC.region ?_
            refine AL.p (by exact mv1 rfl) rfl ?_
            refine AL.p (by exact g_not rfl) rfl ?_
            refine AL.p (by exact mv1 rfl) rfl ?_
            refine AL.caseGB rfl rfl (fun h3 => ?_) (fun h3 => ?_)
            · refine AL.not rfl rfl rfl rfl rfl ?_
              refine AL.not rfl rfl rfl rfl rfl ?_
              refine AL.not rfl rfl rfl rfl rfl ?_
              refine AL.not rfl rfl rfl rfl rfl ?_
              refine AL.not rfl rfl rfl rfl rfl ?_
              refine AL.not rfl rfl rfl rfl rfl ?_
              refine AL.not rfl rfl rfl rfl rfl ?_
              refine AL.notU rfl rfl rfl ?_
              refine AL.notU rfl rfl rfl ?_
              refine AL.notU rfl rfl rfl ?_
              refine AL.notU rfl rfl rfl ?_
              refine AL.notU rfl rfl rfl ?_
              refine AL.notU rfl rfl rfl ?_
              refine AL.notU rfl rfl rfl ?_
              refine AL.not rfl rfl rfl rfl rfl ?_
              refine AL.p (by exact g_pickT (r := .d _) rfl rfl) rfl ?_
              refine AL.nil ?_
              refine th_n ?_
              refine AC.condT rfl ?_
              refine AC.seq ?_
              refine AC.region ?_
              refine AL.p (by exact as1 rfl) rfl ?_
              refine AL.p (by exact as1 rfl) rfl ?_
              refine AL.nil ?_
              refine th_n ?_
              refine AC.ret ?_
              refine th_r ?_
              refine ib_r ?_
              refine th_r ?_
              refine th_r ?_
              refine ib_r ?_
              refine ib_r ?_
              refine th_r ?_
              refine th_r ?_
              refine ib_r ?_
              refine th_r ?_
              refine bq_r ?_
              have e := hb1 h3
              rw [e] at hps2
              have hno : codesB m = none := by rw [← hcd, show n - r = (n - r - 1) + 1 by omega, runB, ← hps, hps2]
              exact ret2 rfl (by rw [cdD, hno]) (by rw [okRun, hno])
            · refine AL.yes rfl rfl rfl ?_
              refine AL.p (by exact mv2 rfl) rfl ?_
              refine AL.yes rfl rfl rfl ?_
              refine AL.p (by exact g_fa_ref rfl rfl rfl rfl rfl rfl) rfl ?_
              refine AL.yes rfl rfl rfl ?_
              refine AL.p (by exact g_load_ref rfl rfl rfl) rfl ?_
              refine AL.yes rfl rfl rfl ?_
              refine AL.p (by exact g_ia_own rfl rfl rfl rfl rfl (by assumption) (by omega) (by exact Nat.mul_one _)) rfl ?_
              refine AL.yes rfl rfl rfl ?_
              refine AL.p (by exact g_load_arr1 rfl rfl rfl rfl (by assumption)) rfl ?_
              refine AL.yes rfl rfl rfl ?_
              refine AL.p (by exact g_scmp rfl rfl rfl) rfl ?_
              refine AL.yes rfl rfl rfl ?_
              refine AL.p (by exact mv1 rfl) rfl ?_
              refine AL.caseGN rfl rfl (fun h4 => ?_) (fun h4 => ?_)
              · refine AL.yes rfl rfl rfl ?_
                refine AL.p (by exact mv2 rfl) rfl ?_
                refine AL.yes rfl rfl rfl ?_
                refine AL.p (by exact g_fa_ref rfl rfl rfl rfl rfl rfl) rfl ?_
                refine AL.yes rfl rfl rfl ?_
                refine AL.p (by exact g_load_ref rfl rfl rfl) rfl ?_
                refine AL.yes rfl rfl rfl ?_
                refine AL.p (by exact g_ia_own rfl rfl rfl rfl rfl (by assumption) (by omega) (by exact Nat.mul_one _)) rfl ?_
                refine AL.yes rfl rfl rfl ?_
                refine AL.p (by exact g_load_arr1 rfl rfl rfl rfl (by assumption)) rfl ?_
                refine AL.yes rfl rfl rfl ?_
                refine AL.p (by exact mv1 rfl) rfl ?_
                refine AL.yes rfl rfl rfl ?_
                refine AL.p (by exact g_scmp rfl rfl rfl) rfl ?_
                refine AL.yes rfl rfl rfl ?_
                refine AL.p (by exact g_pickT (r := .d _) rfl rfl) rfl ?_
                refine AL.p (by exact g_pickF (r := .d _) rfl rfl) rfl ?_
                refine AL.nil ?_
                refine th_n ?_
                refine AC.condND rfl (fun h5 => ?_) (fun h5 => ?_)
                · refine AC.seq ?_
                  refine AC.region ?_
                  refine AL.p (by exact as1 rfl) rfl ?_
                  refine AL.p (by exact as1 rfl) rfl ?_
                  refine AL.nil ?_
                  refine th_n ?_
                  refine AC.ret ?_
                  refine th_r ?_
                  refine ib_r ?_
                  refine th_r ?_
                  refine th_r ?_
                  refine ib_r ?_
                  refine ib_r ?_
                  refine th_r ?_
                  refine th_r ?_
                  refine ib_r ?_
                  refine th_r ?_
                  refine bq_r ?_
                  have e := hb2 h3 (fun e => h4 (by rw [e]; rfl)) (fun e => h5 (by rw [e]))
                  rw [e] at hps2
                  have hno : codesB m = none := by rw [← hcd, show n - r = (n - r - 1) + 1 by omega, runB, ← hps, hps2]
                  exact ret2 rfl (by rw [cdD, hno]) (by rw [okRun, hno])
                · refine AC.skip ?_
                  refine th_n ?_
                  refine AC.region ?_
                  refine AL.p (by exact mv2 rfl) rfl ?_
                  refine AL.p (by exact g_fa_ref rfl rfl rfl rfl rfl rfl) rfl ?_
                  refine AL.p (by exact g_load_ref rfl rfl rfl) rfl ?_
                  refine AL.p (by exact mv1 rfl) rfl ?_
                  refine AL.p (by exact g_ia_own rfl rfl rfl rfl rfl (by assumption) (by omega) (by exact Nat.mul_one _)) rfl ?_
                  refine AL.q (by exact h_store_arr1 rfl rfl rfl rfl (by exact .same) (by assumption)) rfl ?_
                  refine AL.nil ?_
                  refine ib_n ?_
                  refine th_n ?_
                  refine AC.region ?_
                  refine AL.p (by exact g_arith rfl rfl rfl (by exact wrap_i64 (by omega))) rfl ?_
                  refine AL.p (by exact mv1 rfl) rfl ?_
                  refine AL.nil ?_
                  refine th_n ?_
                  (have e := hgo h3 (.inr (bstr_inj (h5))); have e2 := hok2.step e; rw [e] at hps2; exact ⟨(k + 1, cc.set m.burs[k].to_.toNat nx), ⟨hk1, e2, hps2.symm.trans hps⟩, by show m.burs.length - (k + 1) < m.burs.length - k; omega, Weak.ren _ [(100, 100)] hC rfl (by repeat (first | exact True.intro | refine And.intro ?_ ?_ | exact DLead.same | exact rfl | refine ⟨_, rfl, ?_⟩)) (by rw [← strL_set]; repeat (first | exact True.intro | refine And.intro ?_ ?_ | exact rfl | refine ⟨_, _, rfl, rfl, ?_⟩)) rfl rfl rfl⟩)
              · refine AL.not rfl rfl rfl rfl rfl ?_
                refine AL.not rfl rfl rfl rfl rfl ?_
                refine AL.not rfl rfl rfl rfl rfl ?_
                refine AL.not rfl rfl rfl rfl rfl ?_
                refine AL.not rfl rfl rfl rfl rfl ?_
                refine AL.not rfl rfl rfl rfl rfl ?_
                refine AL.not rfl rfl rfl rfl rfl ?_
                refine AL.yes rfl rfl rfl ?_
                refine AL.p (by exact g_pickF (r := .d _) rfl rfl) rfl ?_
                refine AL.p (by exact g_pickF (r := .d _) rfl rfl) rfl ?_
                refine AL.nil ?_
                refine th_n ?_
                refine AC.condF rfl ?_
                refine AC.skip ?_
                refine th_n ?_
                refine AC.region ?_
                refine AL.p (by exact mv2 rfl) rfl ?_
                refine AL.p (by exact g_fa_ref rfl rfl rfl rfl rfl rfl) rfl ?_
                refine AL.p (by exact g_load_ref rfl rfl rfl) rfl ?_
                refine AL.p (by exact mv1 rfl) rfl ?_
                refine AL.p (by exact g_ia_own rfl rfl rfl rfl rfl (by assumption) (by omega) (by exact Nat.mul_one _)) rfl ?_
                refine AL.q (by exact h_store_arr1 rfl rfl rfl rfl (by exact .same) (by assumption)) rfl ?_
                refine AL.nil ?_
                refine ib_n ?_
                refine th_n ?_
                refine AC.region ?_
                refine AL.p (by exact g_arith rfl rfl rfl (by exact wrap_i64 (by omega))) rfl ?_
                refine AL.p (by exact mv1 rfl) rfl ?_
                refine AL.nil ?_
                refine th_n ?_
                (have e := hgo h3 (.inl (bstr_inj (b := []) h4)); have e2 := hok2.step e; rw [e] at hps2; exact ⟨(k + 1, cc.set m.burs[k].to_.toNat nx), ⟨hk1, e2, hps2.symm.trans hps⟩, by show m.burs.length - (k + 1) < m.burs.length - k; omega, Weak.ren _ [(100, 100)] hC rfl (by repeat (first | exact True.intro | refine And.intro ?_ ?_ | exact DLead.same | exact rfl | refine ⟨_, rfl, ?_⟩)) (by rw [← strL_set]; repeat (first | exact True.intro | refine And.intro ?_ ?_ | exact rfl | refine ⟨_, _, rfl, rfl, ?_⟩)) rfl rfl rfl⟩)
        · refine AC.exit ?_
          refine th_e ?_
          refine th_e ?_
          refine ib_y ?_
          refine ib_n ?_
          refine th_n ?_
          refine AC.region ?_
          refine AL.p (by exact g_arith rfl rfl rfl (by exact wrap_i64 (by omega))) rfl ?_
          refine AL.p (by exact mv1 rfl) rfl ?_
          refine AL.nil ?_
          refine th_n ?_
          have hkk : k = m.burs.length := by omega
          subst hkk
          rw [List.drop_length, passB] at hps
          exact ⟨(r + 1, cc), ⟨by show r + 1 ≤ n; omega, hok2, by rw [← hcd, show n - r = (n - (r + 1)) + 1 by omega, runB, ← hps]⟩, by show n - (r + 1) < n - r; omega, Weak.ren _ [(100, 100)] hC rfl (by repeat (first | exact True.intro | refine And.intro ?_ ?_ | exact DLead.same | exact rfl | refine ⟨_, rfl, ?_⟩)) (by repeat (first | exact True.intro | refine And.intro ?_ ?_ | exact rfl | refine ⟨_, _, rfl, rfl, ?_⟩)) rfl rfl rfl⟩
    · refine AC.exit ?_
      refine th_e ?_
      refine th_e ?_
      refine ib_y ?_
      refine th_n ?_
      refine AC.seq ?_
      have hrr : n - r = 0 := by omega
      rw [hrr, runB] at hcd
      have hcl := hok.l
      refine AC.weak (Weak.freeze (i := 4) rfl rfl (by rw [strL_len]; omega) (List.take_of_length_le (by rw [strL_len]; omega))) ?_
      refine AC.region ?_
      refine AL.p (by exact mv1 rfl) rfl ?_
      refine AL.p (by exact as1 rfl) rfl ?_
      refine AL.p (by exact as1 rfl) rfl ?_
      refine AL.nil ?_
      refine th_n ?_
      refine AC.ret ?_
      refine bq_r ?_
      exact ret2 rfl (by rw [cdD, ← hcd]) (by rw [okRun, ← hcd])
theorem en_l24Codes : Enters Tryd.prog 24 := enters_of Tryd.func24 rfl rfl
end Go.Proofs.YtacmonmehcdhaaaDoor

set_option linter.all false
set_option maxRecDepth 20000
namespace Go.Proofs.YtacmonmehcdhaaaDoor
open Go.RowKit

section
variable {P : Program} [PT P] {C : Ctx} {Q : Exit → ASt → Prop} {s : ASt} {ops : Array Oper}
/-- What a chunk's fact says of no world. -/
theorem WeakR.fact (id : Nat) {S : Nat → Prop} {K : World → Prop} {p : Prop} (hc : s.chunk id = some (.pred S K)) (hp : ∀ w, K w → p) : WeakR C s fun t => p ∧ t = s := by
  refine ⟨fun a w hR => ?_⟩
  obtain ⟨m, hm⟩ := hR
  obtain ⟨q0, q1, c1, l1⟩ := hm.ch id _ hc
  obtain ⟨rfl, k1, _, _⟩ := c1.predAt
  exact ⟨s, ⟨hp w k1, rfl⟩, m, hm⟩
theorem TX.gone {w : World} {S : Nat → Prop} {c : Nat} {L : List DV} {V : List Value} {v : Value} (h : TX w S c L V) (hc : c < L.length) (hv : V[c]? = some v) (hok : okV v) : TL w S (L.set c (.val v)) V := by
  have := h.join (S1 := fun _ => False) (.val (fun _ h => h) hok) hc hv (fun _ h => h.elim)
  exact this.congr fun k => by simp
end
end Go.Proofs.YtacmonmehcdhaaaDoor

set_option linter.all false
set_option maxRecDepth 20000
namespace Go.Proofs.YtacmonmehcdhaaaDoor
open Go.RowKit

set_option maxHeartbeats 1000000 in
theorem l5Code_spec (m : List UInt8) (n : Int) (hm : m.length ≤ 2000000) : ASpec Tryd.prog 42 [aS (bstr m), aI n] [] (Pure1 (aT (bitsB m n))) := by
  have hsz := bstr_size m
  refine ASpec.of Tryd.func42 rfl rfl fun C hC => ?_
  refine AC.seq ?_
  refine AC.region ?_
  refine AL.p (by exact as1 rfl) rfl ?_
  refine AL.nil ?_
  refine th_n ?_
  refine AC.seq ?_
  refine AC.seq ?_
  refine AC.region ?_
  refine AL.p (by exact as1 rfl) rfl ?_
  refine AL.nil ?_
  refine th_n ?_
  refine AC.block ?_
  refine AC.loop (ι := Nat) (fun k => ⟨26, 0, [(0, aS (bstr m)), (1, aI n), (5, aI k)], []⟩) (fun k => k ≤ m.length ∧ ∀ j (hj : j < m.length), j < k → bit m[j] = true) (fun k => m.length - k) (0) ?_ (⟨Nat.zero_le _, fun j _ hj => by omega⟩) ?_
  · refine Weak.ren _ [] hC rfl ?_ ?_ rfl rfl rfl <;> repeat (first | exact True.intro | refine And.intro ?_ ?_ | exact DLead.same)
  · intro k ⟨hk, hall⟩
    refine AC.seq ?_
    refine AC.seq ?_
    refine AC.region ?_
    refine AL.p (by exact mv1 rfl) rfl ?_
    refine AL.p (by exact mv1 rfl) rfl ?_
    refine AL.p (by exact g_len_str rfl rfl rfl) rfl ?_
    refine AL.p (by exact g_cmp rfl rfl rfl) rfl ?_
    refine AL.nil ?_
    refine th_n ?_
    refine AC.condD rfl (fun h0 => ?_) (fun h0 => ?_)
    · refine AC.skip ?_
      refine th_n ?_
      refine AC.seq ?_
      refine AC.block ?_
      refine AC.seq ?_
      have hk1 : k < m.length := by omega
      have hget := bstr_at hk1
      have hlt := m[k].toNat_lt
      refine AC.region ?_
      refine AL.p (by exact mv1 rfl) rfl ?_
      refine AL.p (by exact mv1 rfl) rfl ?_
      refine AL.p (by exact g_index rfl rfl rfl (by rfl) (by assumption)) rfl ?_
      refine AL.p (by exact g_cmp rfl rfl rfl) rfl ?_
      refine AL.p (by exact mv1 rfl) rfl ?_
      refine AL.caseGN rfl rfl (fun h1 => ?_) (fun h1 => ?_)
      · refine AL.yes rfl rfl rfl ?_
        refine AL.p (by exact mv1 rfl) rfl ?_
        refine AL.yes rfl rfl rfl ?_
        refine AL.p (by exact mv1 rfl) rfl ?_
        refine AL.yes rfl rfl rfl ?_
        refine AL.p (by exact g_index rfl rfl rfl (by rfl) (by assumption)) rfl ?_
        refine AL.yes rfl rfl rfl ?_
        refine AL.p (by exact g_cmp rfl rfl rfl) rfl ?_
        refine AL.p (by exact g_pickT (r := .d _) rfl rfl) rfl ?_
        refine AL.nil ?_
        refine th_n ?_
        refine AC.condND rfl (fun h2 => ?_) (fun h2 => ?_)
        · refine AC.seq ?_
          refine AC.region ?_
          refine AL.p (by exact as1 rfl) rfl ?_
          refine AL.nil ?_
          refine th_n ?_
          refine AC.ret ?_
          refine ib_r ?_
          refine th_r ?_
          refine th_r ?_
          refine ib_r ?_
          refine th_r ?_
          refine bq_r ?_
          have hb : bit m[k] = false := by simp_all [bit]
          exact ret1 rfl (by rw [bitsB, not_bits hk1 hb]; rfl)
        · refine AC.skip ?_
          refine ib_n ?_
          refine th_n ?_
          refine AC.region ?_
          refine AL.p (by exact mv1 rfl) rfl ?_
          refine AL.p (by exact g_arith rfl rfl rfl (by exact wrap_i64 (by omega))) rfl ?_
          refine AL.p (by exact as1 rfl) rfl ?_
          refine AL.nil ?_
          refine th_n ?_
          have hb : bit m[k] = true := by simp_all [bit]
          exact ⟨k + 1, ⟨by omega, fun j hj hj2 => by rcases Nat.lt_succ_iff_lt_or_eq.1 hj2 with h | rfl; exact hall j hj h; exact hb⟩, by omega, Weak.ren _ [] hC rfl (by repeat (first | exact True.intro | refine And.intro ?_ ?_ | exact DLead.same)) (by repeat (exact True.intro)) rfl rfl rfl⟩
      · refine AL.not rfl rfl rfl rfl rfl ?_
        refine AL.not rfl rfl rfl rfl rfl ?_
        refine AL.not rfl rfl rfl rfl rfl ?_
        refine AL.not rfl rfl rfl rfl rfl ?_
        refine AL.p (by exact g_pickF (r := .d _) rfl rfl) rfl ?_
        refine AL.nil ?_
        refine th_n ?_
        refine AC.condF rfl ?_
        refine AC.skip ?_
        refine ib_n ?_
        refine th_n ?_
        refine AC.region ?_
        refine AL.p (by exact mv1 rfl) rfl ?_
        refine AL.p (by exact g_arith rfl rfl rfl (by exact wrap_i64 (by omega))) rfl ?_
        refine AL.p (by exact as1 rfl) rfl ?_
        refine AL.nil ?_
        refine th_n ?_
        have hb : bit m[k] = true := by simp_all [bit]
        exact ⟨k + 1, ⟨by omega, fun j hj hj2 => by rcases Nat.lt_succ_iff_lt_or_eq.1 hj2 with h | rfl; exact hall j hj h; exact hb⟩, by omega, Weak.ren _ [] hC rfl (by repeat (first | exact True.intro | refine And.intro ?_ ?_ | exact DLead.same)) (by repeat (exact True.intro)) rfl rfl rfl⟩
    · refine AC.exit ?_
      refine th_e ?_
      refine th_e ?_
      refine ib_y ?_
      refine th_n ?_
      refine AC.seq ?_
      refine AC.region ?_
      refine AL.p (by exact mv1 rfl) rfl ?_
      refine AL.p (by exact g_len_str rfl rfl rfl) rfl ?_
      refine AL.p (by exact mv1 rfl) rfl ?_
      refine AL.p (by exact g_cmp rfl rfl rfl) rfl ?_
      refine AL.p (by exact as1 rfl) rfl ?_
      refine AL.nil ?_
      refine th_n ?_
      refine AC.ret ?_
      refine bq_r ?_
      exact ret1 rfl (by rw [bitsB, all_bits (fun j hj => hall j hj (by omega)), hsz]; rfl)
theorem en_l5Code : Enters Tryd.prog 42 := enters_of Tryd.func42 rfl rfl
def kindsB (l : List Sig) : Bool := l.all (fun s => decide (s.kind = 1 ∨ s.kind = 2))
theorem kinds_any {l : List Sig} (h : sigsB l = true) : kindsB l = !l.any (fun s => decide (s.kind = 3)) := by
  unfold sigsB at h
  rw [Bool.and_eq_true] at h
  have hk : ∀ s, s ∈ l → 1 ≤ s.kind ∧ s.kind ≤ 3 := by
    intro s hs
    obtain ⟨j, hj, rfl⟩ := List.getElem_of_mem hs
    have := allK_iff.1 h.1 j hj
    unfold sigK at this
    rw [sAt_nat hj, Bool.and_eq_true, Bool.and_eq_true] at this
    exact inI_iff.1 this.2.1
  unfold kindsB
  clear h
  induction l with
  | nil => rfl
  | cons s l ih =>
    have h1 := hk s (List.mem_cons_self ..)
    have h2 := ih (fun x hx => hk x (List.mem_cons_of_mem _ hx))
    simp only [List.all_cons, List.any_cons, h2, Bool.not_or]
    congr 1
    by_cases h3 : s.kind = 3
    · rw [decide_eq_false (by omega), decide_eq_true h3]; rfl
    · rw [decide_eq_true (by omega), decide_eq_false h3]; rfl
theorem formB_eq (m : Mach) : formB m = (m.burs.all (burB m.sigs m.states) && ((kindsB m.sigs && sigsB m.sigs) && ((decide ((1 : Int) ≤ m.states) && decide (m.states ≤ 6)) && (decide ((m.burs.length : Int) ≤ 6) && bitsB m.first m.sigs.length)))) := rfl
def burV (s : List Sig) (v : Int) (b : Bur) : Bool := ((decide (0 ≤ b.from_) && decide (b.from_ ≤ v)) && ((decide (0 ≤ b.to_) && decide (b.to_ ≤ v)) && (!decide ((b.inn.length : Int) = 0) && (labsB s b.inn 1 && labsB s b.out 2))))
theorem burB_eq (s : List Sig) (n : Int) (b : Bur) : burB s n b = ((decide (0 ≤ b.from_) && decide (b.from_ ≤ n - 1)) && ((decide (0 ≤ b.to_) && decide (b.to_ ≤ n - 1)) && (!decide ((b.inn.length : Int) = 0) && (labsB s b.inn 1 && labsB s b.out 2)))) := by
  unfold burB inI
  congr 3
  simp
set_option maxHeartbeats 4000000 in
theorem l24Form_spec (m : Mach) (hS : SmM m) : ASpec Tryd.prog 23 [machA m] [] (Pure1 (aT (formB m))) := by
  have hst := hS.st
  have hfi := hS.f
  have hsl := hS.s
  have hbl := hS.b
  have hF := formB_eq m
  have hKs := l24Kinds_spec m.sigs hS.s hS.sn
  have hX1 := l1In_spec m.states 1 6
  have hC5 := l5Code_spec m.first m.sigs.length (by omega)
  obtain ⟨f1, hf1⟩ : ∃ f, f = (kindsB m.sigs && sigsB m.sigs) := ⟨_, rfl⟩
  obtain ⟨f2, hf2⟩ : ∃ f, f = (decide ((1 : Int) ≤ m.states) && decide (m.states ≤ 6)) := ⟨_, rfl⟩
  obtain ⟨f4, hf4⟩ : ∃ f, f = bitsB m.first m.sigs.length := ⟨_, rfl⟩
  change ASpec Tryd.prog 41 _ _ (Pure1 (aT (kindsB m.sigs && sigsB m.sigs))) at hKs
  rw [← hf1] at hF hKs
  rw [← hf2] at hF hX1
  rw [← hf4] at hF hC5
  have hst2 : f2 = true → 1 ≤ m.states ∧ m.states ≤ 6 := by rw [hf2]; simp
  obtain ⟨v, hv⟩ : ∃ v, IntKind.i64.wrap (m.states - 1) = v := ⟨_, rfl⟩
  have hv2 : f2 = true → v = m.states - 1 := fun h => by have := hst2 h; rw [← hv]; exact wrap_i64 (by omega)
  have hbv : f2 = true → ∀ b, burB m.sigs m.states b = burV m.sigs v b := fun h b => by rw [hv2 h]; exact burB_eq _ _ _
  clear hf1 hf2 hf4
  refine ASpec.of Tryd.func23 rfl rfl fun C hC => ?_
  refine AC.seq ?_
  refine AC.region ?_
  refine AL.q (by exact h_boxF rfl rfl) rfl ?_
  refine AL.p (by exact as1 rfl) rfl ?_
  refine AL.nil ?_
  refine th_n ?_
  refine AC.seq ?_
  refine AC.seq ?_
  refine AC.region ?_
  refine AL.p (by exact g_fa_ref rfl rfl rfl rfl rfl rfl) rfl ?_
  refine AL.p (by exact g_load_ref rfl rfl rfl) rfl ?_
  refine AL.p (by exact g_len_view rfl rfl (by exact List.length_map _)) rfl ?_
  refine AL.p (by exact mv1 rfl) rfl ?_
  refine AL.nil ?_
  refine th_n ?_
  refine AC.block ?_
  refine AC.loop (ι := Nat) (fun k => ⟨71, 0, [(1, .d (.ref (machD m))), (6, .d (vBurs m.burs)), (7, aI m.burs.length), (8, aI k)], []⟩) (fun k => k ≤ m.burs.length ∧ ∀ j (hj : j < m.burs.length), j < k → burV m.sigs v m.burs[j] = true) (fun k => m.burs.length - k) (0) ?_ (⟨Nat.zero_le _, fun j _ hj => by omega⟩) ?_
  · refine Weak.ren _ [] hC rfl ?_ ?_ rfl rfl rfl <;> repeat (first | exact True.intro | refine And.intro ?_ ?_ | exact DLead.same)
  · intro k ⟨hk, hall⟩
    refine AC.seq ?_
    refine AC.region ?_
    refine AL.p (by exact g_cmp rfl rfl rfl) rfl ?_
    refine AL.nil ?_
    refine th_n ?_
    refine AC.seq ?_
    refine AC.condD rfl (fun h0 => ?_) (fun h0 => ?_)
    · refine AC.skip ?_
      refine th_n ?_
      refine AC.seq ?_
      refine AC.block ?_
      refine AC.seq ?_
      have hk1 : k < m.burs.length := by omega
      have hget := bursL_get hk1
      have hmem := List.getElem_mem hk1
      have hbl2 := hS.bl _ hmem
      refine AC.region ?_
      refine AL.p (by exact g_ia_view rfl rfl rfl rfl rfl (by rfl) (by assumption)) rfl ?_
      refine AL.p (by exact g_load_refN rfl rfl rfl rfl) rfl ?_
      refine AL.q (by exact h_alloc rfl) rfl ?_
      refine AL.q (by exact h_store rfl rfl rfl rfl rfl rfl) rfl ?_
      refine AL.nil ?_
      refine th_n ?_
      refine AC.seq ?_
      refine AC.weak (Weak.freezeRef (ds := burD m.burs[k]) 4 rfl rfl) ?_
      have hB : burV m.sigs v m.burs[k] = _ := rfl
      unfold burV at hB
      have hW1 := l1In_spec m.burs[k].from_ 0 v
      have hW2 := l1In_spec m.burs[k].to_ 0 v
      have hL1 := l24Labels_spec m m.burs[k].inn 1 hS.s hbl2.1
      have hL2 := l24Labels_spec m m.burs[k].out 2 hS.s hbl2.2
      obtain ⟨b1, hb1⟩ : ∃ f, f = (decide (0 ≤ m.burs[k].from_) && decide (m.burs[k].from_ ≤ v)) := ⟨_, rfl⟩
      obtain ⟨b2, hb2⟩ : ∃ f, f = (decide (0 ≤ m.burs[k].to_) && decide (m.burs[k].to_ ≤ v)) := ⟨_, rfl⟩
      obtain ⟨b3, hb3⟩ : ∃ f, f = labsB m.sigs m.burs[k].inn 1 := ⟨_, rfl⟩
      obtain ⟨b4, hb4⟩ : ∃ f, f = labsB m.sigs m.burs[k].out 2 := ⟨_, rfl⟩
      change burV m.sigs v m.burs[k] = _ at hB
      rw [← hb1] at hB hW1
      rw [← hb2] at hB hW2
      rw [← hb3] at hB hL1
      rw [← hb4] at hB hL2
      clear hb1 hb2 hb3 hb4
      refine AC.region ?_
      refine AL.p (by exact g_fa_ref rfl rfl rfl rfl rfl rfl) rfl ?_
      refine AL.p (by exact g_load_ref rfl rfl rfl) rfl ?_
      refine AL.p (by exact g_fa_ref rfl rfl rfl rfl rfl rfl) rfl ?_
      refine AL.p (by exact g_load_ref rfl rfl rfl) rfl ?_
      refine AL.p (by exact g_arith rfl rfl rfl hv) rfl ?_
      refine AL.q (by exact h_pure en_l1In rfl rfl (by repeat (first | exact rfl | exact DLead.same | refine ⟨_, _, rfl, ?_, ?_⟩)) hW1 rfl) rfl ?_
      refine AL.p (by exact g_not rfl) rfl ?_
      refine AL.p (by exact mv1 rfl) rfl ?_
      refine AL.caseGB rfl rfl (fun h1 => ?_) (fun h1 => ?_)
      · refine AL.not rfl rfl rfl rfl rfl ?_
        refine AL.not rfl rfl rfl rfl rfl ?_
        refine AL.not rfl rfl rfl rfl rfl ?_
        refine AL.not rfl rfl rfl rfl rfl ?_
        refine AL.not rfl rfl rfl rfl rfl ?_
        refine AL.not rfl rfl rfl rfl rfl ?_
        refine AL.not rfl rfl rfl rfl rfl ?_
        refine AL.p (by exact g_pickT (r := .d _) rfl rfl) rfl ?_
        refine AL.p (by exact mv1 rfl) rfl ?_
        refine AL.not rfl rfl rfl rfl rfl ?_
        refine AL.not rfl rfl rfl rfl rfl ?_
        refine AL.not rfl rfl rfl rfl rfl ?_
        refine AL.not rfl rfl rfl rfl rfl ?_
        refine AL.p (by exact g_pickT (r := .d _) rfl rfl) rfl ?_
        refine AL.p (by exact mv1 rfl) rfl ?_
        refine AL.not rfl rfl rfl rfl rfl ?_
        refine AL.not rfl rfl rfl rfl rfl ?_
        refine AL.not rfl rfl rfl rfl rfl ?_
        refine AL.not rfl rfl rfl rfl rfl ?_
        refine AL.not rfl rfl rfl rfl rfl ?_
        refine AL.p (by exact g_pickT (r := .d _) rfl rfl) rfl ?_
        refine AL.p (by exact mv1 rfl) rfl ?_
        refine AL.not rfl rfl rfl rfl rfl ?_
        refine AL.not rfl rfl rfl rfl rfl ?_
        refine AL.not rfl rfl rfl rfl rfl ?_
        refine AL.not rfl rfl rfl rfl rfl ?_
        refine AL.not rfl rfl rfl rfl rfl ?_
        refine AL.p (by exact g_pickT (r := .d _) rfl rfl) rfl ?_
        refine AL.nil ?_
        refine th_n ?_
        refine AC.condT rfl ?_
        refine AC.seq ?_
        refine AC.region ?_
        refine AL.p (by exact as1 rfl) rfl ?_
        refine AL.nil ?_
        refine th_n ?_
        refine AC.ret ?_
        refine ib_r ?_
        refine th_r ?_
        refine th_r ?_
        refine ib_r ?_
        refine th_r ?_
        refine bq_r ?_
        have hbad : burV m.sigs v m.burs[k] = false := by clear hall hF hS hL1 hL2 hW1 hW2 hX1 hKs hC5 hget hbv hv2 hst2; rw [hB]; simp_all
        have hno : formB m = false := by { cases f2 with | false => rw [hF]; simp | true => rw [hF, List.all_eq_false.2 ⟨_, hmem, by rw [hbv rfl, hbad]; exact Bool.false_ne_true⟩]; rfl }
        exact ret1 rfl (by rw [hno])
      · refine AL.yes rfl rfl rfl ?_
        refine AL.p (by exact g_fa_ref rfl rfl rfl rfl rfl rfl) rfl ?_
        refine AL.yes rfl rfl rfl ?_
        refine AL.p (by exact g_load_ref rfl rfl rfl) rfl ?_
        refine AL.yes rfl rfl rfl ?_
        refine AL.p (by exact g_fa_ref rfl rfl rfl rfl rfl rfl) rfl ?_
        refine AL.yes rfl rfl rfl ?_
        refine AL.p (by exact g_load_ref rfl rfl rfl) rfl ?_
        refine AL.yes rfl rfl rfl ?_
        refine AL.p (by exact g_arith rfl rfl rfl hv) rfl ?_
        refine AL.yes rfl rfl rfl ?_
        refine AL.q (by exact h_pure en_l1In rfl rfl (by repeat (first | exact rfl | exact DLead.same | refine ⟨_, _, rfl, ?_, ?_⟩)) hW2 rfl) rfl ?_
        refine AL.yes rfl rfl rfl ?_
        refine AL.p (by exact g_not rfl) rfl ?_
        refine AL.p (by exact g_pickF (r := .d _) rfl rfl) rfl ?_
        refine AL.p (by exact mv1 rfl) rfl ?_
        refine AL.caseGB rfl rfl (fun h2 => ?_) (fun h2 => ?_)
        · refine AL.not rfl rfl rfl rfl rfl ?_
          refine AL.not rfl rfl rfl rfl rfl ?_
          refine AL.not rfl rfl rfl rfl rfl ?_
          refine AL.not rfl rfl rfl rfl rfl ?_
          refine AL.p (by exact g_pickT (r := .d _) rfl rfl) rfl ?_
          refine AL.p (by exact mv1 rfl) rfl ?_
          refine AL.not rfl rfl rfl rfl rfl ?_
          refine AL.not rfl rfl rfl rfl rfl ?_
          refine AL.not rfl rfl rfl rfl rfl ?_
          refine AL.not rfl rfl rfl rfl rfl ?_
          refine AL.not rfl rfl rfl rfl rfl ?_
          refine AL.p (by exact g_pickT (r := .d _) rfl rfl) rfl ?_
          refine AL.p (by exact mv1 rfl) rfl ?_
          refine AL.not rfl rfl rfl rfl rfl ?_
          refine AL.not rfl rfl rfl rfl rfl ?_
          refine AL.not rfl rfl rfl rfl rfl ?_
          refine AL.not rfl rfl rfl rfl rfl ?_
          refine AL.not rfl rfl rfl rfl rfl ?_
          refine AL.p (by exact g_pickT (r := .d _) rfl rfl) rfl ?_
          refine AL.nil ?_
          refine th_n ?_
          refine AC.condT rfl ?_
          refine AC.seq ?_
          refine AC.region ?_
          refine AL.p (by exact as1 rfl) rfl ?_
          refine AL.nil ?_
          refine th_n ?_
          refine AC.ret ?_
          refine ib_r ?_
          refine th_r ?_
          refine th_r ?_
          refine ib_r ?_
          refine th_r ?_
          refine bq_r ?_
          have hbad : burV m.sigs v m.burs[k] = false := by clear hall hF hS hL1 hL2 hW1 hW2 hX1 hKs hC5 hget hbv hv2 hst2; rw [hB]; simp_all
          have hno : formB m = false := by { cases f2 with | false => rw [hF]; simp | true => rw [hF, List.all_eq_false.2 ⟨_, hmem, by rw [hbv rfl, hbad]; exact Bool.false_ne_true⟩]; rfl }
          exact ret1 rfl (by rw [hno])
        · refine AL.yes rfl rfl rfl ?_
          refine AL.p (by exact g_fa_ref rfl rfl rfl rfl rfl rfl) rfl ?_
          refine AL.yes rfl rfl rfl ?_
          refine AL.p (by exact g_load_ref rfl rfl rfl) rfl ?_
          refine AL.yes rfl rfl rfl ?_
          refine AL.p (by exact g_len_view rfl rfl (by exact List.length_map _)) rfl ?_
          refine AL.yes rfl rfl rfl ?_
          refine AL.p (by exact g_cmp rfl rfl rfl) rfl ?_
          refine AL.p (by exact g_pickF (r := .d _) rfl rfl) rfl ?_
          refine AL.p (by exact mv1 rfl) rfl ?_
          refine AL.caseG rfl rfl (fun h3 => ?_) (fun h3 => ?_)
          · refine AL.not rfl rfl rfl rfl rfl ?_
            refine AL.not rfl rfl rfl rfl rfl ?_
            refine AL.not rfl rfl rfl rfl rfl ?_
            refine AL.not rfl rfl rfl rfl rfl ?_
            refine AL.not rfl rfl rfl rfl rfl ?_
            refine AL.p (by exact g_pickT (r := .d _) rfl rfl) rfl ?_
            refine AL.p (by exact mv1 rfl) rfl ?_
            refine AL.not rfl rfl rfl rfl rfl ?_
            refine AL.not rfl rfl rfl rfl rfl ?_
            refine AL.not rfl rfl rfl rfl rfl ?_
            refine AL.not rfl rfl rfl rfl rfl ?_
            refine AL.not rfl rfl rfl rfl rfl ?_
            refine AL.p (by exact g_pickT (r := .d _) rfl rfl) rfl ?_
            refine AL.nil ?_
            refine th_n ?_
            refine AC.condT rfl ?_
            refine AC.seq ?_
            refine AC.region ?_
            refine AL.p (by exact as1 rfl) rfl ?_
            refine AL.nil ?_
            refine th_n ?_
            refine AC.ret ?_
            refine ib_r ?_
            refine th_r ?_
            refine th_r ?_
            refine ib_r ?_
            refine th_r ?_
            refine bq_r ?_
            have hbad : burV m.sigs v m.burs[k] = false := by clear hall hF hS hL1 hL2 hW1 hW2 hX1 hKs hC5 hget hbv hv2 hst2; rw [hB]; simp_all
            have hno : formB m = false := by { cases f2 with | false => rw [hF]; simp | true => rw [hF, List.all_eq_false.2 ⟨_, hmem, by rw [hbv rfl, hbad]; exact Bool.false_ne_true⟩]; rfl }
            exact ret1 rfl (by rw [hno])
          · refine AL.yes rfl rfl rfl ?_
            refine AL.p (by exact g_load_refN rfl rfl rfl rfl) rfl ?_
            refine AL.yes rfl rfl rfl ?_
            refine AL.p (by exact g_fa_ref rfl rfl rfl rfl rfl rfl) rfl ?_
            refine AL.yes rfl rfl rfl ?_
            refine AL.p (by exact g_load_ref rfl rfl rfl) rfl ?_
            refine AL.yes rfl rfl rfl ?_
            refine AL.q (by exact h_pure en_l24Labels rfl rfl (by repeat (first | exact rfl | exact DLead.same | refine ⟨_, _, rfl, ?_, ?_⟩ | refine ⟨_, rfl, ?_⟩)) hL1 rfl) rfl ?_
            refine AL.yes rfl rfl rfl ?_
            refine AL.p (by exact g_not rfl) rfl ?_
            refine AL.p (by exact g_pickF (r := .d _) rfl rfl) rfl ?_
            refine AL.p (by exact mv1 rfl) rfl ?_
            refine AL.caseGB rfl rfl (fun h4 => ?_) (fun h4 => ?_)
            · refine AL.not rfl rfl rfl rfl rfl ?_
              refine AL.not rfl rfl rfl rfl rfl ?_
              refine AL.not rfl rfl rfl rfl rfl ?_
              refine AL.not rfl rfl rfl rfl rfl ?_
              refine AL.not rfl rfl rfl rfl rfl ?_
              refine AL.p (by exact g_pickT (r := .d _) rfl rfl) rfl ?_
              refine AL.nil ?_
              refine th_n ?_
              refine AC.condT rfl ?_
              refine AC.seq ?_
              refine AC.region ?_
              refine AL.p (by exact as1 rfl) rfl ?_
              refine AL.nil ?_
              refine th_n ?_
              refine AC.ret ?_
              refine ib_r ?_
              refine th_r ?_
              refine th_r ?_
              refine ib_r ?_
              refine th_r ?_
              refine bq_r ?_
              have hbad : burV m.sigs v m.burs[k] = false := by clear hall hF hS hL1 hL2 hW1 hW2 hX1 hKs hC5 hget hbv hv2 hst2; rw [hB]; simp_all
              have hno : formB m = false := by { cases f2 with | false => rw [hF]; simp | true => rw [hF, List.all_eq_false.2 ⟨_, hmem, by rw [hbv rfl, hbad]; exact Bool.false_ne_true⟩]; rfl }
              exact ret1 rfl (by rw [hno])
            · refine AL.yes rfl rfl rfl ?_
              refine AL.p (by exact g_load_refN rfl rfl rfl rfl) rfl ?_
              refine AL.yes rfl rfl rfl ?_
              refine AL.p (by exact g_fa_ref rfl rfl rfl rfl rfl rfl) rfl ?_
              refine AL.yes rfl rfl rfl ?_
              refine AL.p (by exact g_load_ref rfl rfl rfl) rfl ?_
              refine AL.yes rfl rfl rfl ?_
              refine AL.q (by exact h_pure en_l24Labels rfl rfl (by repeat (first | exact rfl | exact DLead.same | refine ⟨_, _, rfl, ?_, ?_⟩ | refine ⟨_, rfl, ?_⟩)) hL2 rfl) rfl ?_
              refine AL.yes rfl rfl rfl ?_
              refine AL.p (by exact g_not rfl) rfl ?_
              refine AL.p (by exact g_pickF (r := .d _) rfl rfl) rfl ?_
              refine AL.nil ?_
              refine th_n ?_
              refine AC.condB rfl (fun h5 => ?_) (fun h5 => ?_)
              · refine AC.seq ?_
                refine AC.region ?_
                refine AL.p (by exact as1 rfl) rfl ?_
                refine AL.nil ?_
                refine th_n ?_
                refine AC.ret ?_
                refine ib_r ?_
                refine th_r ?_
                refine th_r ?_
                refine ib_r ?_
                refine th_r ?_
                refine bq_r ?_
                have hbad : burV m.sigs v m.burs[k] = false := by clear hall hF hS hL1 hL2 hW1 hW2 hX1 hKs hC5 hget hbv hv2 hst2; rw [hB]; simp_all
                have hno : formB m = false := by { cases f2 with | false => rw [hF]; simp | true => rw [hF, List.all_eq_false.2 ⟨_, hmem, by rw [hbv rfl, hbad]; exact Bool.false_ne_true⟩]; rfl }
                exact ret1 rfl (by rw [hno])
              · refine AC.skip ?_
                refine ib_n ?_
                refine th_n ?_
                refine AC.region ?_
                refine AL.p (by exact g_arith rfl rfl rfl (by exact wrap_i64 (by omega))) rfl ?_
                refine AL.p (by exact mv1 rfl) rfl ?_
                refine AL.nil ?_
                refine th_n ?_
                have hgood : burV m.sigs v m.burs[k] = true := by clear hall hF hS hL1 hL2 hW1 hW2 hX1 hKs hC5 hget hbv hv2 hst2; rw [hB]; simp_all
                exact ⟨k + 1, ⟨by omega, fun j hj hj2 => by rcases Nat.lt_succ_iff_lt_or_eq.1 hj2 with h | rfl; exact hall j hj h; exact hgood⟩, by omega, Weak.ren _ [] hC rfl (by repeat (first | exact True.intro | refine And.intro ?_ ?_ | exact DLead.same)) (by repeat (exact True.intro)) rfl rfl rfl⟩
    · refine AC.exit ?_
      refine th_e ?_
      refine th_e ?_
      refine ib_y ?_
      refine th_n ?_
      refine AC.seq ?_
      have hA : f2 = true → m.burs.all (burB m.sigs m.states) = true := fun h => List.all_eq_true.2 (fun x hx => by obtain ⟨j, hj, rfl⟩ := List.getElem_of_mem hx; rw [hbv h]; exact hall j hj (by omega))
      have hF2 : formB m = (f1 && (f2 && (decide ((m.burs.length : Int) ≤ 6) && f4))) := by { cases f2 with | false => rw [hF]; simp | true => rw [hF, hA rfl, Bool.true_and] }
      refine AC.region ?_
      refine AL.p (by exact g_fa_ref rfl rfl rfl rfl rfl rfl) rfl ?_
      refine AL.p (by exact g_load_ref rfl rfl rfl) rfl ?_
      refine AL.q (by exact h_pure en_l24Kinds rfl rfl (by repeat (first | exact rfl | exact DLead.same | refine ⟨_, _, rfl, ?_, ?_⟩)) hKs rfl) rfl ?_
      refine AL.p (by exact mv1 rfl) rfl ?_
      refine AL.caseGB rfl rfl (fun h1 => ?_) (fun h1 => ?_)
      · refine AL.yes rfl rfl rfl ?_
        refine AL.p (by exact g_fa_ref rfl rfl rfl rfl rfl rfl) rfl ?_
        refine AL.yes rfl rfl rfl ?_
        refine AL.p (by exact g_load_ref rfl rfl rfl) rfl ?_
        refine AL.yes rfl rfl rfl ?_
        refine AL.q (by exact h_pure en_l1In rfl rfl (by repeat (first | exact rfl | exact DLead.same | refine ⟨_, _, rfl, ?_, ?_⟩)) hX1 rfl) rfl ?_
        refine AL.p (by exact g_pickT (r := .d _) rfl rfl) rfl ?_
        refine AL.p (by exact mv1 rfl) rfl ?_
        refine AL.caseGB rfl rfl (fun h2 => ?_) (fun h2 => ?_)
        · refine AL.yes rfl rfl rfl ?_
          refine AL.p (by exact g_fa_ref rfl rfl rfl rfl rfl rfl) rfl ?_
          refine AL.yes rfl rfl rfl ?_
          refine AL.p (by exact g_load_ref rfl rfl rfl) rfl ?_
          refine AL.yes rfl rfl rfl ?_
          refine AL.p (by exact g_len_view rfl rfl (by exact List.length_map _)) rfl ?_
          refine AL.yes rfl rfl rfl ?_
          refine AL.p (by exact g_cmp rfl rfl rfl) rfl ?_
          refine AL.p (by exact g_pickT (r := .d _) rfl rfl) rfl ?_
          refine AL.p (by exact mv1 rfl) rfl ?_
          refine AL.caseG rfl rfl (fun h3 => ?_) (fun h3 => ?_)
          · refine AL.yes rfl rfl rfl ?_
            refine AL.p (by exact g_fa_ref rfl rfl rfl rfl rfl rfl) rfl ?_
            refine AL.yes rfl rfl rfl ?_
            refine AL.p (by exact g_load_ref rfl rfl rfl) rfl ?_
            refine AL.yes rfl rfl rfl ?_
            refine AL.p (by exact g_fa_ref rfl rfl rfl rfl rfl rfl) rfl ?_
            refine AL.yes rfl rfl rfl ?_
            refine AL.p (by exact g_load_ref rfl rfl rfl) rfl ?_
            refine AL.yes rfl rfl rfl ?_
            refine AL.p (by exact g_len_view rfl rfl (by exact List.length_map _)) rfl ?_
            refine AL.yes rfl rfl rfl ?_
            refine AL.q (by exact h_pure en_l5Code rfl rfl (by repeat (first | exact rfl | exact DLead.same | refine ⟨_, _, rfl, ?_, ?_⟩)) hC5 rfl) rfl ?_
            refine AL.p (by exact g_pickT (r := .d _) rfl rfl) rfl ?_
            refine AL.p (by exact as1 rfl) rfl ?_
            refine AL.nil ?_
            refine th_n ?_
            refine AC.ret ?_
            refine bq_r ?_
            exact ret1 rfl (by clear hall hS hX1 hKs hC5 hA hF hbv hv2 hst2; rw [hF2]; simp_all <;> intros <;> omega)
          · refine AL.not rfl rfl rfl rfl rfl ?_
            refine AL.not rfl rfl rfl rfl rfl ?_
            refine AL.not rfl rfl rfl rfl rfl ?_
            refine AL.not rfl rfl rfl rfl rfl ?_
            refine AL.not rfl rfl rfl rfl rfl ?_
            refine AL.not rfl rfl rfl rfl rfl ?_
            refine AL.p (by exact g_pickF (r := .d _) rfl rfl) rfl ?_
            refine AL.p (by exact as1 rfl) rfl ?_
            refine AL.nil ?_
            refine th_n ?_
            refine AC.ret ?_
            refine bq_r ?_
            exact ret1 rfl (by clear hall hS hX1 hKs hC5 hA hF hbv hv2 hst2; rw [hF2]; simp_all <;> intros <;> omega)
        · refine AL.not rfl rfl rfl rfl rfl ?_
          refine AL.not rfl rfl rfl rfl rfl ?_
          refine AL.not rfl rfl rfl rfl rfl ?_
          refine AL.not rfl rfl rfl rfl rfl ?_
          refine AL.p (by exact g_pickF (r := .d _) rfl rfl) rfl ?_
          refine AL.p (by exact mv1 rfl) rfl ?_
          refine AL.not rfl rfl rfl rfl rfl ?_
          refine AL.not rfl rfl rfl rfl rfl ?_
          refine AL.not rfl rfl rfl rfl rfl ?_
          refine AL.not rfl rfl rfl rfl rfl ?_
          refine AL.not rfl rfl rfl rfl rfl ?_
          refine AL.not rfl rfl rfl rfl rfl ?_
          refine AL.p (by exact g_pickF (r := .d _) rfl rfl) rfl ?_
          refine AL.p (by exact as1 rfl) rfl ?_
          refine AL.nil ?_
          refine th_n ?_
          refine AC.ret ?_
          refine bq_r ?_
          exact ret1 rfl (by clear hall hS hX1 hKs hC5 hA hF hbv hv2 hst2; rw [hF2]; simp_all <;> intros <;> omega)
      · refine AL.not rfl rfl rfl rfl rfl ?_
        refine AL.not rfl rfl rfl rfl rfl ?_
        refine AL.not rfl rfl rfl rfl rfl ?_
        refine AL.p (by exact g_pickF (r := .d _) rfl rfl) rfl ?_
        refine AL.p (by exact mv1 rfl) rfl ?_
        refine AL.not rfl rfl rfl rfl rfl ?_
        refine AL.not rfl rfl rfl rfl rfl ?_
        refine AL.not rfl rfl rfl rfl rfl ?_
        refine AL.not rfl rfl rfl rfl rfl ?_
        refine AL.p (by exact g_pickF (r := .d _) rfl rfl) rfl ?_
        refine AL.p (by exact mv1 rfl) rfl ?_
        refine AL.not rfl rfl rfl rfl rfl ?_
        refine AL.not rfl rfl rfl rfl rfl ?_
        refine AL.not rfl rfl rfl rfl rfl ?_
        refine AL.not rfl rfl rfl rfl rfl ?_
        refine AL.not rfl rfl rfl rfl rfl ?_
        refine AL.not rfl rfl rfl rfl rfl ?_
        refine AL.p (by exact g_pickF (r := .d _) rfl rfl) rfl ?_
        refine AL.p (by exact as1 rfl) rfl ?_
        refine AL.nil ?_
        refine th_n ?_
        refine AC.ret ?_
        refine bq_r ?_
        exact ret1 rfl (by clear hall hS hX1 hKs hC5 hA hF hbv hv2 hst2; rw [hF2]; simp_all <;> intros <;> omega)
theorem en_l24Form : Enters Tryd.prog 23 := enters_of Tryd.func23 rfl rfl
/-- The codes that go with the word. -/
def mcD (m : Mach) : DV := if formB m = true then cdD m else .val (.slice none 0 0)
set_option maxHeartbeats 4000000 in
theorem machCodes_spec (m : Mach) (hS : SmM m) : ASpec Tryd.prog 31 [machA m] [] (Pure1 (.tup [.d (mcD m), aT (goodM m)])) := by
  have hst := hS.st
  have hfi := hS.f
  have hsl := hS.s
  have hbl := hS.b
  have hF := formB_eq m
  have hKs := areSignals_spec m.sigs hS.s hS.sn
  have hX1 := within_spec m.states 1 6
  have hC5 := isBits_spec m.first m.sigs.length (by omega)
  have hCt := containsSig_spec m.sigs (by omega) 50 [] en_machCodes1 (fun s => decide (s.kind = 3)) (fun t _ => machCodes1_spec t)
  have hka := kinds_any (l := m.sigs)
  have hmx := isMaximal_spec m.burs hS.b hS.bl
  have hcs := fun h => codesOf_spec m hS (formB_iff h)
  have hgm : goodM m = (formB m && (okCodes m && maxB m.burs)) := rfl
  obtain ⟨f0, hf0⟩ : ∃ f, f = kindsB m.sigs := ⟨_, rfl⟩
  obtain ⟨f1, hf1⟩ : ∃ f, f = sigsB m.sigs := ⟨_, rfl⟩
  obtain ⟨f2, hf2⟩ : ∃ f, f = (decide ((1 : Int) ≤ m.states) && decide (m.states ≤ 6)) := ⟨_, rfl⟩
  obtain ⟨f4, hf4⟩ : ∃ f, f = bitsB m.first m.sigs.length := ⟨_, rfl⟩
  obtain ⟨f5, hf5⟩ : ∃ f, f = m.sigs.any (fun s => decide (s.kind = 3)) := ⟨_, rfl⟩
  rw [← hf0] at hF hka
  rw [← hf1] at hF hKs hka
  rw [← hf2] at hF hX1
  rw [← hf4] at hF hC5
  rw [← hf5] at hCt hka
  have hst2 : f2 = true → 1 ≤ m.states ∧ m.states ≤ 6 := by rw [hf2]; simp
  clear hf0 hf1 hf2 hf4 hf5
  refine ASpec.of Tryd.func31 rfl rfl fun C hC => ?_
  refine AC.seq ?_
  refine AC.region ?_
  refine AL.q (by exact h_boxF rfl rfl) rfl ?_
  refine AL.p (by exact as1 rfl) rfl ?_
  refine AL.p (by exact as1 rfl) rfl ?_
  refine AL.nil ?_
  refine th_n ?_
  refine AC.seq ?_
  refine AC.seq ?_
  refine AC.region ?_
  refine AL.p (by exact g_fa_ref rfl rfl rfl rfl rfl rfl) rfl ?_
  refine AL.p (by exact g_load_ref rfl rfl rfl) rfl ?_
  refine AL.q (by exact h_pure en_areSignals rfl rfl (by repeat (first | exact rfl | exact DLead.same | refine ⟨_, _, rfl, ?_, ?_⟩)) hKs rfl) rfl ?_
  refine AL.p (by exact g_not rfl) rfl ?_
  refine AL.p (by exact mv1 rfl) rfl ?_
  refine AL.caseGB rfl rfl (fun h0 => ?_) (fun h0 => ?_)
  · refine AL.not rfl rfl rfl rfl rfl ?_
    refine AL.not rfl rfl rfl rfl rfl ?_
    refine AL.not rfl rfl rfl rfl rfl ?_
    refine AL.not rfl rfl rfl rfl rfl ?_
    refine AL.p (by exact g_pickT (r := .d _) rfl rfl) rfl ?_
    refine AL.p (by exact mv1 rfl) rfl ?_
    refine AL.not rfl rfl rfl rfl rfl ?_
    refine AL.not rfl rfl rfl rfl rfl ?_
    refine AL.not rfl rfl rfl rfl rfl ?_
    refine AL.not rfl rfl rfl rfl rfl ?_
    refine AL.p (by exact g_pickT (r := .d _) rfl rfl) rfl ?_
    refine AL.p (by exact mv1 rfl) rfl ?_
    refine AL.not rfl rfl rfl rfl rfl ?_
    refine AL.not rfl rfl rfl rfl rfl ?_
    refine AL.not rfl rfl rfl rfl rfl ?_
    refine AL.not rfl rfl rfl rfl rfl ?_
    refine AL.not rfl rfl rfl rfl rfl ?_
    refine AL.not rfl rfl rfl rfl rfl ?_
    refine AL.not rfl rfl rfl rfl rfl ?_
    refine AL.p (by exact g_pickT (r := .d _) rfl rfl) rfl ?_
    refine AL.p (by exact mv1 rfl) rfl ?_
    refine AL.not rfl rfl rfl rfl rfl ?_
    refine AL.not rfl rfl rfl rfl rfl ?_
    refine AL.not rfl rfl rfl rfl rfl ?_
    refine AL.p (by exact g_pickT (r := .d _) rfl rfl) rfl ?_
    refine AL.nil ?_
    refine th_n ?_
    refine AC.condT rfl ?_
    refine AC.seq ?_
    refine AC.region ?_
    refine AL.p (by exact as1 rfl) rfl ?_
    refine AL.p (by exact as1 rfl) rfl ?_
    refine AL.nil ?_
    refine th_n ?_
    refine AC.ret ?_
    refine th_r ?_
    refine bq_r ?_
    have hno : formB m = false := by clear hS hKs hX1 hC5 hCt hmx hcs hgm; rw [hF]; simp_all <;> intros <;> omega
    exact ret2 rfl (by rw [mcD, hno, if_neg Bool.false_ne_true]) (by rw [hgm, hno]; rfl)
  · refine AL.yes rfl rfl rfl ?_
    refine AL.p (by exact g_fa_ref rfl rfl rfl rfl rfl rfl) rfl ?_
    refine AL.yes rfl rfl rfl ?_
    refine AL.p (by exact g_load_ref rfl rfl rfl) rfl ?_
    refine AL.yes rfl rfl rfl ?_
    refine AL.q (by exact h_pure en_within rfl rfl (by repeat (first | exact rfl | exact DLead.same | refine ⟨_, _, rfl, ?_, ?_⟩)) hX1 rfl) rfl ?_
    refine AL.yes rfl rfl rfl ?_
    refine AL.p (by exact g_not rfl) rfl ?_
    refine AL.p (by exact g_pickF (r := .d _) rfl rfl) rfl ?_
    refine AL.p (by exact mv1 rfl) rfl ?_
    refine AL.caseGB rfl rfl (fun h1 => ?_) (fun h1 => ?_)
    · refine AL.not rfl rfl rfl rfl rfl ?_
      refine AL.not rfl rfl rfl rfl rfl ?_
      refine AL.not rfl rfl rfl rfl rfl ?_
      refine AL.not rfl rfl rfl rfl rfl ?_
      refine AL.p (by exact g_pickT (r := .d _) rfl rfl) rfl ?_
      refine AL.p (by exact mv1 rfl) rfl ?_
      refine AL.not rfl rfl rfl rfl rfl ?_
      refine AL.not rfl rfl rfl rfl rfl ?_
      refine AL.not rfl rfl rfl rfl rfl ?_
      refine AL.not rfl rfl rfl rfl rfl ?_
      refine AL.not rfl rfl rfl rfl rfl ?_
      refine AL.not rfl rfl rfl rfl rfl ?_
      refine AL.not rfl rfl rfl rfl rfl ?_
      refine AL.p (by exact g_pickT (r := .d _) rfl rfl) rfl ?_
      refine AL.p (by exact mv1 rfl) rfl ?_
      refine AL.not rfl rfl rfl rfl rfl ?_
      refine AL.not rfl rfl rfl rfl rfl ?_
      refine AL.not rfl rfl rfl rfl rfl ?_
      refine AL.p (by exact g_pickT (r := .d _) rfl rfl) rfl ?_
      refine AL.nil ?_
      refine th_n ?_
      refine AC.condT rfl ?_
      refine AC.seq ?_
      refine AC.region ?_
      refine AL.p (by exact as1 rfl) rfl ?_
      refine AL.p (by exact as1 rfl) rfl ?_
      refine AL.nil ?_
      refine th_n ?_
      refine AC.ret ?_
      refine th_r ?_
      refine bq_r ?_
      have hno : formB m = false := by clear hS hKs hX1 hC5 hCt hmx hcs hgm; rw [hF]; simp_all <;> intros <;> omega
      exact ret2 rfl (by rw [mcD, hno, if_neg Bool.false_ne_true]) (by rw [hgm, hno]; rfl)
    · refine AL.yes rfl rfl rfl ?_
      refine AL.p (by exact g_fa_ref rfl rfl rfl rfl rfl rfl) rfl ?_
      refine AL.yes rfl rfl rfl ?_
      refine AL.p (by exact g_load_ref rfl rfl rfl) rfl ?_
      refine AL.yes rfl rfl rfl ?_
      refine AL.p (by exact g_len_view rfl rfl (by exact List.length_map _)) rfl ?_
      refine AL.yes rfl rfl rfl ?_
      refine AL.p (by exact g_cmp rfl rfl rfl) rfl ?_
      refine AL.p (by exact g_pickF (r := .d _) rfl rfl) rfl ?_
      refine AL.p (by exact mv1 rfl) rfl ?_
      refine AL.caseG rfl rfl (fun h2 => ?_) (fun h2 => ?_)
      · refine AL.not rfl rfl rfl rfl rfl ?_
        refine AL.not rfl rfl rfl rfl rfl ?_
        refine AL.not rfl rfl rfl rfl rfl ?_
        refine AL.not rfl rfl rfl rfl rfl ?_
        refine AL.not rfl rfl rfl rfl rfl ?_
        refine AL.not rfl rfl rfl rfl rfl ?_
        refine AL.not rfl rfl rfl rfl rfl ?_
        refine AL.p (by exact g_pickT (r := .d _) rfl rfl) rfl ?_
        refine AL.p (by exact mv1 rfl) rfl ?_
        refine AL.not rfl rfl rfl rfl rfl ?_
        refine AL.not rfl rfl rfl rfl rfl ?_
        refine AL.not rfl rfl rfl rfl rfl ?_
        refine AL.p (by exact g_pickT (r := .d _) rfl rfl) rfl ?_
        refine AL.nil ?_
        refine th_n ?_
        refine AC.condT rfl ?_
        refine AC.seq ?_
        refine AC.region ?_
        refine AL.p (by exact as1 rfl) rfl ?_
        refine AL.p (by exact as1 rfl) rfl ?_
        refine AL.nil ?_
        refine th_n ?_
        refine AC.ret ?_
        refine th_r ?_
        refine bq_r ?_
        have hno : formB m = false := by clear hS hKs hX1 hC5 hCt hmx hcs hgm; rw [hF]; simp_all <;> intros <;> omega
        exact ret2 rfl (by rw [mcD, hno, if_neg Bool.false_ne_true]) (by rw [hgm, hno]; rfl)
      · refine AL.yes rfl rfl rfl ?_
        refine AL.p (by exact g_fa_ref rfl rfl rfl rfl rfl rfl) rfl ?_
        refine AL.yes rfl rfl rfl ?_
        refine AL.p (by exact g_load_ref rfl rfl rfl) rfl ?_
        refine AL.yes rfl rfl rfl ?_
        refine AL.p (by exact g_fa_ref rfl rfl rfl rfl rfl rfl) rfl ?_
        refine AL.yes rfl rfl rfl ?_
        refine AL.p (by exact g_load_ref rfl rfl rfl) rfl ?_
        refine AL.yes rfl rfl rfl ?_
        refine AL.p (by exact g_len_view rfl rfl (by exact List.length_map _)) rfl ?_
        refine AL.yes rfl rfl rfl ?_
        refine AL.q (by exact h_pure en_isBits rfl rfl (by repeat (first | exact rfl | exact DLead.same | refine ⟨_, _, rfl, ?_, ?_⟩)) hC5 rfl) rfl ?_
        refine AL.yes rfl rfl rfl ?_
        refine AL.p (by exact g_not rfl) rfl ?_
        refine AL.p (by exact g_pickF (r := .d _) rfl rfl) rfl ?_
        refine AL.p (by exact mv1 rfl) rfl ?_
        refine AL.caseGB rfl rfl (fun h3 => ?_) (fun h3 => ?_)
        · refine AL.not rfl rfl rfl rfl rfl ?_
          refine AL.not rfl rfl rfl rfl rfl ?_
          refine AL.not rfl rfl rfl rfl rfl ?_
          refine AL.p (by exact g_pickT (r := .d _) rfl rfl) rfl ?_
          refine AL.nil ?_
          refine th_n ?_
          refine AC.condT rfl ?_
          refine AC.seq ?_
          refine AC.region ?_
          refine AL.p (by exact as1 rfl) rfl ?_
          refine AL.p (by exact as1 rfl) rfl ?_
          refine AL.nil ?_
          refine th_n ?_
          refine AC.ret ?_
          refine th_r ?_
          refine bq_r ?_
          have hno : formB m = false := by clear hS hKs hX1 hC5 hCt hmx hcs hgm; rw [hF]; simp_all <;> intros <;> omega
          exact ret2 rfl (by rw [mcD, hno, if_neg Bool.false_ne_true]) (by rw [hgm, hno]; rfl)
        · refine AL.yes rfl rfl rfl ?_
          refine AL.p (by exact g_fa_ref rfl rfl rfl rfl rfl rfl) rfl ?_
          refine AL.yes rfl rfl rfl ?_
          refine AL.p (by exact g_load_ref rfl rfl rfl) rfl ?_
          refine AL.yes rfl rfl rfl ?_
          refine AL.q (by exact h_pure en_containsSig rfl rfl (by exact ⟨_, _, rfl, .same, _, _, rfl, ⟨_, rfl, leadsL_data _ []⟩, rfl⟩) hCt rfl) rfl ?_
          refine AL.p (by exact g_pickF (r := .d _) rfl rfl) rfl ?_
          refine AL.nil ?_
          refine th_n ?_
          refine AC.condB rfl (fun h4 => ?_) (fun h4 => ?_)
          · refine AC.seq ?_
            refine AC.region ?_
            refine AL.p (by exact as1 rfl) rfl ?_
            refine AL.p (by exact as1 rfl) rfl ?_
            refine AL.nil ?_
            refine th_n ?_
            refine AC.ret ?_
            refine th_r ?_
            refine bq_r ?_
            have hno : formB m = false := by clear hS hKs hX1 hC5 hCt hmx hcs hgm; rw [hF]; simp_all <;> intros <;> omega
            exact ret2 rfl (by rw [mcD, hno, if_neg Bool.false_ne_true]) (by rw [hgm, hno]; rfl)
          · refine AC.skip ?_
            refine th_n ?_
            refine AC.seq ?_
            refine AC.seq ?_
            have hs2 := hst2 ((Bool.not_eq_false' _).mp h1)
            refine AC.region ?_
            refine AL.p (by exact g_fa_ref rfl rfl rfl rfl rfl rfl) rfl ?_
            refine AL.p (by exact g_load_ref rfl rfl rfl) rfl ?_
            refine AL.p (by exact g_len_view rfl rfl (by exact List.length_map _)) rfl ?_
            refine AL.p (by exact mv1 rfl) rfl ?_
            refine AL.nil ?_
            refine th_n ?_
            refine AC.block ?_
            refine AC.loop (ι := Nat) (fun k => ⟨96, 0, [(1, .d (.ref (machD m))), (39, .d (vBurs m.burs)), (40, aI m.burs.length), (41, aI k)], []⟩) (fun k => k ≤ m.burs.length ∧ ∀ j (hj : j < m.burs.length), j < k → burB m.sigs m.states m.burs[j] = true) (fun k => m.burs.length - k) (0) ?_ (⟨Nat.zero_le _, fun j _ hj => by omega⟩) ?_
            · refine Weak.ren _ [] hC rfl ?_ ?_ rfl rfl rfl <;> repeat (first | exact True.intro | refine And.intro ?_ ?_ | exact DLead.same)
            · intro k ⟨hk, hall⟩
              refine AC.seq ?_
              refine AC.region ?_
              refine AL.p (by exact g_cmp rfl rfl rfl) rfl ?_
              refine AL.nil ?_
              refine th_n ?_
              refine AC.seq ?_
              refine AC.condD rfl (fun h5 => ?_) (fun h5 => ?_)
              · refine AC.skip ?_
                refine th_n ?_
                refine AC.seq ?_
                refine AC.block ?_
                refine AC.seq ?_
                have hk1 : k < m.burs.length := by omega
                have hget := bursL_get hk1
                have hmem := List.getElem_mem hk1
                have hbl2 := hS.bl _ hmem
                refine AC.region ?_
                refine AL.p (by exact g_ia_view rfl rfl rfl rfl rfl (by rfl) (by assumption)) rfl ?_
                refine AL.p (by exact g_load_refN rfl rfl rfl rfl) rfl ?_
                refine AL.q (by exact h_alloc rfl) rfl ?_
                refine AL.q (by exact h_store rfl rfl rfl rfl rfl rfl) rfl ?_
                refine AL.nil ?_
                refine th_n ?_
                refine AC.seq ?_
                refine AC.weak (Weak.freezeRef (ds := burD m.burs[k]) 5 rfl rfl) ?_
                have hB := burB_eq m.sigs m.states m.burs[k]
                have hW1 := within_spec m.burs[k].from_ 0 (m.states - 1)
                have hW2 := within_spec m.burs[k].to_ 0 (m.states - 1)
                have hL1 := areLabels_spec m.sigs m.burs[k].inn 1 hS.s hbl2.1
                have hL2 := areLabels_spec m.sigs m.burs[k].out 2 hS.s hbl2.2
                obtain ⟨b1, hb1⟩ : ∃ f, f = (decide (0 ≤ m.burs[k].from_) && decide (m.burs[k].from_ ≤ m.states - 1)) := ⟨_, rfl⟩
                obtain ⟨b2, hb2⟩ : ∃ f, f = (decide (0 ≤ m.burs[k].to_) && decide (m.burs[k].to_ ≤ m.states - 1)) := ⟨_, rfl⟩
                obtain ⟨b3, hb3⟩ : ∃ f, f = labsB m.sigs m.burs[k].inn 1 := ⟨_, rfl⟩
                obtain ⟨b4, hb4⟩ : ∃ f, f = labsB m.sigs m.burs[k].out 2 := ⟨_, rfl⟩
                rw [← hb1] at hB hW1
                rw [← hb2] at hB hW2
                rw [← hb3] at hB hL1
                rw [← hb4] at hB hL2
                clear hb1 hb2 hb3 hb4
                refine AC.region ?_
                refine AL.p (by exact g_fa_ref rfl rfl rfl rfl rfl rfl) rfl ?_
                refine AL.p (by exact g_load_ref rfl rfl rfl) rfl ?_
                refine AL.p (by exact g_fa_ref rfl rfl rfl rfl rfl rfl) rfl ?_
                refine AL.p (by exact g_load_ref rfl rfl rfl) rfl ?_
                refine AL.p (by exact g_arith rfl rfl rfl (by exact wrap_i64 (by omega))) rfl ?_
                refine AL.q (by exact h_pure en_within rfl rfl (by repeat (first | exact rfl | exact DLead.same | refine ⟨_, _, rfl, ?_, ?_⟩)) hW1 rfl) rfl ?_
                refine AL.p (by exact g_not rfl) rfl ?_
                refine AL.p (by exact mv1 rfl) rfl ?_
                refine AL.caseGB rfl rfl (fun h6 => ?_) (fun h6 => ?_)
                · refine AL.not rfl rfl rfl rfl rfl ?_
                  refine AL.not rfl rfl rfl rfl rfl ?_
                  refine AL.not rfl rfl rfl rfl rfl ?_
                  refine AL.not rfl rfl rfl rfl rfl ?_
                  refine AL.not rfl rfl rfl rfl rfl ?_
                  refine AL.not rfl rfl rfl rfl rfl ?_
                  refine AL.not rfl rfl rfl rfl rfl ?_
                  refine AL.p (by exact g_pickT (r := .d _) rfl rfl) rfl ?_
                  refine AL.p (by exact mv1 rfl) rfl ?_
                  refine AL.not rfl rfl rfl rfl rfl ?_
                  refine AL.not rfl rfl rfl rfl rfl ?_
                  refine AL.not rfl rfl rfl rfl rfl ?_
                  refine AL.not rfl rfl rfl rfl rfl ?_
                  refine AL.p (by exact g_pickT (r := .d _) rfl rfl) rfl ?_
                  refine AL.p (by exact mv1 rfl) rfl ?_
                  refine AL.not rfl rfl rfl rfl rfl ?_
                  refine AL.not rfl rfl rfl rfl rfl ?_
                  refine AL.not rfl rfl rfl rfl rfl ?_
                  refine AL.not rfl rfl rfl rfl rfl ?_
                  refine AL.not rfl rfl rfl rfl rfl ?_
                  refine AL.not rfl rfl rfl rfl rfl ?_
                  refine AL.p (by exact g_pickT (r := .d _) rfl rfl) rfl ?_
                  refine AL.p (by exact mv1 rfl) rfl ?_
                  refine AL.not rfl rfl rfl rfl rfl ?_
                  refine AL.not rfl rfl rfl rfl rfl ?_
                  refine AL.not rfl rfl rfl rfl rfl ?_
                  refine AL.not rfl rfl rfl rfl rfl ?_
                  refine AL.not rfl rfl rfl rfl rfl ?_
                  refine AL.not rfl rfl rfl rfl rfl ?_
                  refine AL.p (by exact g_pickT (r := .d _) rfl rfl) rfl ?_
                  refine AL.nil ?_
                  refine th_n ?_
                  refine AC.condT rfl ?_
                  refine AC.seq ?_
                  refine AC.region ?_
                  refine AL.p (by exact as1 rfl) rfl ?_
                  refine AL.p (by exact as1 rfl) rfl ?_
                  refine AL.nil ?_
                  refine th_n ?_
                  refine AC.ret ?_
                  refine ib_r ?_
                  refine th_r ?_
                  refine th_r ?_
                  refine ib_r ?_
                  refine th_r ?_
                  refine bq_r ?_
                  have hbad : burB m.sigs m.states m.burs[k] = false := by clear hall hF hS hL1 hL2 hW1 hW2 hX1 hKs hC5 hCt hmx hcs hgm hka hget; rw [hB]; simp_all
                  have hno : formB m = false := by rw [hF, List.all_eq_false.2 ⟨_, hmem, by rw [hbad]; exact Bool.false_ne_true⟩]; rfl
                  exact ret2 rfl (by rw [mcD, hno, if_neg Bool.false_ne_true]) (by rw [hgm, hno]; rfl)
                · refine AL.yes rfl rfl rfl ?_
                  refine AL.p (by exact g_fa_ref rfl rfl rfl rfl rfl rfl) rfl ?_
                  refine AL.yes rfl rfl rfl ?_
                  refine AL.p (by exact g_load_ref rfl rfl rfl) rfl ?_
                  refine AL.yes rfl rfl rfl ?_
                  refine AL.p (by exact g_fa_ref rfl rfl rfl rfl rfl rfl) rfl ?_
                  refine AL.yes rfl rfl rfl ?_
                  refine AL.p (by exact g_load_ref rfl rfl rfl) rfl ?_
                  refine AL.yes rfl rfl rfl ?_
                  refine AL.p (by exact g_arith rfl rfl rfl (by exact wrap_i64 (by omega))) rfl ?_
                  refine AL.yes rfl rfl rfl ?_
                  refine AL.q (by exact h_pure en_within rfl rfl (by repeat (first | exact rfl | exact DLead.same | refine ⟨_, _, rfl, ?_, ?_⟩)) hW2 rfl) rfl ?_
                  refine AL.yes rfl rfl rfl ?_
                  refine AL.p (by exact g_not rfl) rfl ?_
                  refine AL.p (by exact g_pickF (r := .d _) rfl rfl) rfl ?_
                  refine AL.p (by exact mv1 rfl) rfl ?_
                  refine AL.caseGB rfl rfl (fun h7 => ?_) (fun h7 => ?_)
                  · refine AL.not rfl rfl rfl rfl rfl ?_
                    refine AL.not rfl rfl rfl rfl rfl ?_
                    refine AL.not rfl rfl rfl rfl rfl ?_
                    refine AL.not rfl rfl rfl rfl rfl ?_
                    refine AL.p (by exact g_pickT (r := .d _) rfl rfl) rfl ?_
                    refine AL.p (by exact mv1 rfl) rfl ?_
                    refine AL.not rfl rfl rfl rfl rfl ?_
                    refine AL.not rfl rfl rfl rfl rfl ?_
                    refine AL.not rfl rfl rfl rfl rfl ?_
                    refine AL.not rfl rfl rfl rfl rfl ?_
                    refine AL.not rfl rfl rfl rfl rfl ?_
                    refine AL.not rfl rfl rfl rfl rfl ?_
                    refine AL.p (by exact g_pickT (r := .d _) rfl rfl) rfl ?_
                    refine AL.p (by exact mv1 rfl) rfl ?_
                    refine AL.not rfl rfl rfl rfl rfl ?_
                    refine AL.not rfl rfl rfl rfl rfl ?_
                    refine AL.not rfl rfl rfl rfl rfl ?_
                    refine AL.not rfl rfl rfl rfl rfl ?_
                    refine AL.not rfl rfl rfl rfl rfl ?_
                    refine AL.not rfl rfl rfl rfl rfl ?_
                    refine AL.p (by exact g_pickT (r := .d _) rfl rfl) rfl ?_
                    refine AL.nil ?_
                    refine th_n ?_
                    refine AC.condT rfl ?_
                    refine AC.seq ?_
                    refine AC.region ?_
                    refine AL.p (by exact as1 rfl) rfl ?_
                    refine AL.p (by exact as1 rfl) rfl ?_
                    refine AL.nil ?_
                    refine th_n ?_
                    refine AC.ret ?_
                    refine ib_r ?_
                    refine th_r ?_
                    refine th_r ?_
                    refine ib_r ?_
                    refine th_r ?_
                    refine bq_r ?_
                    have hbad : burB m.sigs m.states m.burs[k] = false := by clear hall hF hS hL1 hL2 hW1 hW2 hX1 hKs hC5 hCt hmx hcs hgm hka hget; rw [hB]; simp_all
                    have hno : formB m = false := by rw [hF, List.all_eq_false.2 ⟨_, hmem, by rw [hbad]; exact Bool.false_ne_true⟩]; rfl
                    exact ret2 rfl (by rw [mcD, hno, if_neg Bool.false_ne_true]) (by rw [hgm, hno]; rfl)
                  · refine AL.yes rfl rfl rfl ?_
                    refine AL.p (by exact g_fa_ref rfl rfl rfl rfl rfl rfl) rfl ?_
                    refine AL.yes rfl rfl rfl ?_
                    refine AL.p (by exact g_load_ref rfl rfl rfl) rfl ?_
                    refine AL.yes rfl rfl rfl ?_
                    refine AL.p (by exact g_len_view rfl rfl (by exact List.length_map _)) rfl ?_
                    refine AL.yes rfl rfl rfl ?_
                    refine AL.p (by exact g_cmp rfl rfl rfl) rfl ?_
                    refine AL.p (by exact g_pickF (r := .d _) rfl rfl) rfl ?_
                    refine AL.p (by exact mv1 rfl) rfl ?_
                    refine AL.caseG rfl rfl (fun h8 => ?_) (fun h8 => ?_)
                    · refine AL.not rfl rfl rfl rfl rfl ?_
                      refine AL.not rfl rfl rfl rfl rfl ?_
                      refine AL.not rfl rfl rfl rfl rfl ?_
                      refine AL.not rfl rfl rfl rfl rfl ?_
                      refine AL.not rfl rfl rfl rfl rfl ?_
                      refine AL.not rfl rfl rfl rfl rfl ?_
                      refine AL.p (by exact g_pickT (r := .d _) rfl rfl) rfl ?_
                      refine AL.p (by exact mv1 rfl) rfl ?_
                      refine AL.not rfl rfl rfl rfl rfl ?_
                      refine AL.not rfl rfl rfl rfl rfl ?_
                      refine AL.not rfl rfl rfl rfl rfl ?_
                      refine AL.not rfl rfl rfl rfl rfl ?_
                      refine AL.not rfl rfl rfl rfl rfl ?_
                      refine AL.not rfl rfl rfl rfl rfl ?_
                      refine AL.p (by exact g_pickT (r := .d _) rfl rfl) rfl ?_
                      refine AL.nil ?_
                      refine th_n ?_
                      refine AC.condT rfl ?_
                      refine AC.seq ?_
                      refine AC.region ?_
                      refine AL.p (by exact as1 rfl) rfl ?_
                      refine AL.p (by exact as1 rfl) rfl ?_
                      refine AL.nil ?_
                      refine th_n ?_
                      refine AC.ret ?_
                      refine ib_r ?_
                      refine th_r ?_
                      refine th_r ?_
                      refine ib_r ?_
                      refine th_r ?_
                      refine bq_r ?_
                      have hbad : burB m.sigs m.states m.burs[k] = false := by clear hall hF hS hL1 hL2 hW1 hW2 hX1 hKs hC5 hCt hmx hcs hgm hka hget; rw [hB]; simp_all
                      have hno : formB m = false := by rw [hF, List.all_eq_false.2 ⟨_, hmem, by rw [hbad]; exact Bool.false_ne_true⟩]; rfl
                      exact ret2 rfl (by rw [mcD, hno, if_neg Bool.false_ne_true]) (by rw [hgm, hno]; rfl)
                    · refine AL.yes rfl rfl rfl ?_
                      refine AL.p (by exact g_fa_ref rfl rfl rfl rfl rfl rfl) rfl ?_
                      refine AL.yes rfl rfl rfl ?_
                      refine AL.p (by exact g_load_ref rfl rfl rfl) rfl ?_
                      refine AL.yes rfl rfl rfl ?_
                      refine AL.p (by exact g_fa_ref rfl rfl rfl rfl rfl rfl) rfl ?_
                      refine AL.yes rfl rfl rfl ?_
                      refine AL.p (by exact g_load_ref rfl rfl rfl) rfl ?_
                      refine AL.yes rfl rfl rfl ?_
                      refine AL.q (by exact h_pure en_areLabels rfl rfl (by repeat (first | exact rfl | exact DLead.same | refine ⟨_, _, rfl, ?_, ?_⟩)) hL1 rfl) rfl ?_
                      refine AL.yes rfl rfl rfl ?_
                      refine AL.p (by exact g_not rfl) rfl ?_
                      refine AL.p (by exact g_pickF (r := .d _) rfl rfl) rfl ?_
                      refine AL.p (by exact mv1 rfl) rfl ?_
                      refine AL.caseGB rfl rfl (fun h9 => ?_) (fun h9 => ?_)
                      · refine AL.not rfl rfl rfl rfl rfl ?_
                        refine AL.not rfl rfl rfl rfl rfl ?_
                        refine AL.not rfl rfl rfl rfl rfl ?_
                        refine AL.not rfl rfl rfl rfl rfl ?_
                        refine AL.not rfl rfl rfl rfl rfl ?_
                        refine AL.not rfl rfl rfl rfl rfl ?_
                        refine AL.p (by exact g_pickT (r := .d _) rfl rfl) rfl ?_
                        refine AL.nil ?_
                        refine th_n ?_
                        refine AC.condT rfl ?_
                        refine AC.seq ?_
                        refine AC.region ?_
                        refine AL.p (by exact as1 rfl) rfl ?_
                        refine AL.p (by exact as1 rfl) rfl ?_
                        refine AL.nil ?_
                        refine th_n ?_
                        refine AC.ret ?_
                        refine ib_r ?_
                        refine th_r ?_
                        refine th_r ?_
                        refine ib_r ?_
                        refine th_r ?_
                        refine bq_r ?_
                        have hbad : burB m.sigs m.states m.burs[k] = false := by clear hall hF hS hL1 hL2 hW1 hW2 hX1 hKs hC5 hCt hmx hcs hgm hka hget; rw [hB]; simp_all
                        have hno : formB m = false := by rw [hF, List.all_eq_false.2 ⟨_, hmem, by rw [hbad]; exact Bool.false_ne_true⟩]; rfl
                        exact ret2 rfl (by rw [mcD, hno, if_neg Bool.false_ne_true]) (by rw [hgm, hno]; rfl)
                      · refine AL.yes rfl rfl rfl ?_
                        refine AL.p (by exact g_fa_ref rfl rfl rfl rfl rfl rfl) rfl ?_
                        refine AL.yes rfl rfl rfl ?_
                        refine AL.p (by exact g_load_ref rfl rfl rfl) rfl ?_
                        refine AL.yes rfl rfl rfl ?_
                        refine AL.p (by exact g_fa_ref rfl rfl rfl rfl rfl rfl) rfl ?_
                        refine AL.yes rfl rfl rfl ?_
                        refine AL.p (by exact g_load_ref rfl rfl rfl) rfl ?_
                        refine AL.yes rfl rfl rfl ?_
                        refine AL.q (by exact h_pure en_areLabels rfl rfl (by repeat (first | exact rfl | exact DLead.same | refine ⟨_, _, rfl, ?_, ?_⟩)) hL2 rfl) rfl ?_
                        refine AL.yes rfl rfl rfl ?_
                        refine AL.p (by exact g_not rfl) rfl ?_
                        refine AL.p (by exact g_pickF (r := .d _) rfl rfl) rfl ?_
                        refine AL.nil ?_
                        refine th_n ?_
                        refine AC.condB rfl (fun h10 => ?_) (fun h10 => ?_)
                        · refine AC.seq ?_
                          refine AC.region ?_
                          refine AL.p (by exact as1 rfl) rfl ?_
                          refine AL.p (by exact as1 rfl) rfl ?_
                          refine AL.nil ?_
                          refine th_n ?_
                          refine AC.ret ?_
                          refine ib_r ?_
                          refine th_r ?_
                          refine th_r ?_
                          refine ib_r ?_
                          refine th_r ?_
                          refine bq_r ?_
                          have hbad : burB m.sigs m.states m.burs[k] = false := by clear hall hF hS hL1 hL2 hW1 hW2 hX1 hKs hC5 hCt hmx hcs hgm hka hget; rw [hB]; simp_all
                          have hno : formB m = false := by rw [hF, List.all_eq_false.2 ⟨_, hmem, by rw [hbad]; exact Bool.false_ne_true⟩]; rfl
                          exact ret2 rfl (by rw [mcD, hno, if_neg Bool.false_ne_true]) (by rw [hgm, hno]; rfl)
                        · refine AC.skip ?_
                          refine ib_n ?_
                          refine th_n ?_
                          refine AC.region ?_
                          refine AL.p (by exact g_arith rfl rfl rfl (by exact wrap_i64 (by omega))) rfl ?_
                          refine AL.p (by exact mv1 rfl) rfl ?_
                          refine AL.nil ?_
                          refine th_n ?_
                          have hgood : burB m.sigs m.states m.burs[k] = true := by clear hall hF hS hL1 hL2 hW1 hW2 hX1 hKs hC5 hCt hmx hcs hgm hka hget; rw [hB]; simp_all
                          exact ⟨k + 1, ⟨by omega, fun j hj hj2 => by rcases Nat.lt_succ_iff_lt_or_eq.1 hj2 with h | rfl; exact hall j hj h; exact hgood⟩, by omega, Weak.ren _ [] hC rfl (by repeat (first | exact True.intro | refine And.intro ?_ ?_ | exact DLead.same)) (by repeat (exact True.intro)) rfl rfl rfl⟩
              · refine AC.exit ?_
                refine th_e ?_
                refine th_e ?_
                refine ib_y ?_
                refine th_n ?_
                refine AC.seq ?_
                have hA : m.burs.all (burB m.sigs m.states) = true := List.all_eq_true.2 (fun x hx => by obtain ⟨j, hj, rfl⟩ := List.getElem_of_mem hx; exact hall j hj (by omega))
                rw [hA, Bool.true_and] at hF
                have hyes : formB m = true := by clear hall hS hX1 hKs hC5 hCt hmx hcs hgm hA; rw [hF]; simp_all
                have hCo := hcs hyes
                have hmc : mcD m = cdD m := by rw [mcD, if_pos hyes]
                rw [hyes, Bool.true_and] at hgm
                obtain ⟨oc, hoc⟩ : ∃ f, f = okCodes m := ⟨_, rfl⟩
                rw [← hoc] at hCo hgm
                obtain ⟨mx, hmxe⟩ : ∃ f, f = maxB m.burs := ⟨_, rfl⟩
                rw [← hmxe] at hmx hgm
                refine AC.region ?_
                refine AL.p (by exact g_load_refN rfl rfl rfl rfl) rfl ?_
                refine AL.q (by exact h_pure en_codesOf rfl rfl (by repeat (first | exact rfl | exact DLead.same | refine ⟨_, _, rfl, ?_, ?_⟩ | refine ⟨_, rfl, ?_⟩)) hCo rfl) rfl ?_
                refine AL.p (by exact mv5 rfl) rfl ?_
                refine AL.p (by exact g_extract (r := .d _) rfl rfl) rfl ?_
                refine AL.p (by exact g_extract (r := .d _) rfl rfl) rfl ?_
                refine AL.p (by exact as1 rfl) rfl ?_
                refine AL.p (by exact as1 rfl) rfl ?_
                refine AL.nil ?_
                refine th_n ?_
                refine AC.seq ?_
                refine AC.region ?_
                refine AL.p (by exact mv1 rfl) rfl ?_
                refine AL.p (by exact mv1 rfl) rfl ?_
                refine AL.p (by exact mv1 rfl) rfl ?_
                refine AL.caseGB rfl rfl (fun h6 => ?_) (fun h6 => ?_)
                · refine AL.yes rfl rfl rfl ?_
                  refine AL.p (by exact g_fa_ref rfl rfl rfl rfl rfl rfl) rfl ?_
                  refine AL.yes rfl rfl rfl ?_
                  refine AL.p (by exact g_load_ref rfl rfl rfl) rfl ?_
                  refine AL.yes rfl rfl rfl ?_
                  refine AL.q (by exact h_pure en_isMaximal rfl rfl (by repeat (first | exact rfl | exact DLead.same | refine ⟨_, _, rfl, ?_, ?_⟩)) hmx rfl) rfl ?_
                  refine AL.p (by exact g_pickT (r := .d _) rfl rfl) rfl ?_
                  refine AL.p (by exact as1 rfl) rfl ?_
                  refine AL.p (by exact as1 rfl) rfl ?_
                  refine AL.nil ?_
                  refine th_n ?_
                  refine AC.ret ?_
                  refine bq_r ?_
                  exact ret2 rfl (by rw [hmc]) (by rw [hgm]; clear hS hF hKs hX1 hC5 hCt hmx hcs hCo; simp_all)
                · refine AL.not rfl rfl rfl rfl rfl ?_
                  refine AL.not rfl rfl rfl rfl rfl ?_
                  refine AL.not rfl rfl rfl rfl rfl ?_
                  refine AL.p (by exact g_pickF (r := .d _) rfl rfl) rfl ?_
                  refine AL.p (by exact as1 rfl) rfl ?_
                  refine AL.p (by exact as1 rfl) rfl ?_
                  refine AL.nil ?_
                  refine th_n ?_
                  refine AC.ret ?_
                  refine bq_r ?_
                  exact ret2 rfl (by rw [hmc]) (by rw [hgm]; clear hS hF hKs hX1 hC5 hCt hmx hcs hCo; simp_all)
theorem en_machCodes : Enters Tryd.prog 31 := enters_of Tryd.func31 rfl rfl
theorem iIsValidMach_spec (m : Mach) (hS : SmM m) : ASpec Tryd.prog 15 [machA m] [] (Pure1 (aT (goodM m))) := by
  have hMc := machCodes_spec m hS
  refine ASpec.of Tryd.func15 rfl rfl fun C hC => ?_
  refine AC.seq ?_
  refine AC.region ?_
  refine AL.q (by exact h_boxF rfl rfl) rfl ?_
  refine AL.p (by exact as1 rfl) rfl ?_
  refine AL.nil ?_
  refine th_n ?_
  refine AC.seq ?_
  refine AC.region ?_
  refine AL.p (by exact g_load_refN rfl rfl rfl rfl) rfl ?_
  refine AL.q (by exact h_pure en_machCodes rfl rfl (by repeat (first | exact rfl | exact DLead.same | refine ⟨_, _, rfl, ?_, ?_⟩ | refine ⟨_, rfl, ?_⟩)) hMc rfl) rfl ?_
  refine AL.p (by exact mv5 rfl) rfl ?_
  refine AL.p (by exact g_extract (r := .d _) rfl rfl) rfl ?_
  refine AL.p (by exact g_extract (r := .d _) rfl rfl) rfl ?_
  refine AL.p (by exact as1 rfl) rfl ?_
  refine AL.p (by exact as1 rfl) rfl ?_
  refine AL.nil ?_
  refine th_n ?_
  refine AC.seq ?_
  refine AC.region ?_
  refine AL.p (by exact mv1 rfl) rfl ?_
  refine AL.p (by exact as1 rfl) rfl ?_
  refine AL.nil ?_
  refine th_n ?_
  refine AC.ret ?_
  refine bq_r ?_
  exact ret1 rfl rfl
theorem en_iIsValidMach : Enters Tryd.prog 15 := enters_of Tryd.func15 rfl rfl
theorem CodesOk.pass {n k : Nat} : ∀ {bs : List Bur} {cs cs' : List (List UInt8)}, CodesOk n k cs → passB bs cs = some cs' → CodesOk n k cs'
  | [], cs, cs', h, e => by simp only [passB, Option.some.injEq] at e; subst e; exact h
  | b :: bs, cs, cs', h, e => by
    simp only [passB] at e
    split at e
    · cases e
    · rename_i c2 h2; exact CodesOk.pass (h.step h2) e
theorem CodesOk.runs {n k : Nat} {bs : List Bur} : ∀ {q : Nat} {cs cs' : List (List UInt8)}, CodesOk n k cs → runB bs q cs = some cs' → CodesOk n k cs'
  | 0, cs, cs', h, e => by simp only [runB, Option.some.injEq] at e; subst e; exact h
  | q + 1, cs, cs', h, e => by
    simp only [runB] at e
    split at e
    · cases e
    · rename_i c2 h2; exact CodesOk.runs (h.pass h2) e
theorem codes_len {m : Mach} (h : FormM m) {cs : List (List UInt8)} (e : codesB m = some cs) : cs.length ≤ 2000000 := by
  have := (CodesOk.beg h).runs e
  have h2 := h.st
  rw [this.l]; omega
theorem okRun_some {m : Mach} (h : okRun m = true) : ∃ cs, codesB m = some cs := by
  unfold okRun at h
  cases e : codesB m with
  | none => rw [e] at h; cases h
  | some cs => exact ⟨cs, rfl⟩
theorem okRun_no {m : Mach} (h : okRun m = false) : okCodes m = false := by
  unfold okRun at h
  unfold okCodes
  cases e : codesB m with
  | none => rfl
  | some cs => rw [e] at h; cases h
set_option maxHeartbeats 4000000 in
theorem l24Good_spec (m : Mach) (hS : SmM m) : ASpec Tryd.prog 11 [machA m] [] (Pure1 (aT (goodM m))) := by
  have hFs := l24Form_spec m hS
  have hCs := fun h => l24Codes_spec m hS (formB_iff h)
  have hgm : goodM m = (formB m && (okCodes m && maxB m.burs)) := rfl
  have hbl0 := hS.b
  obtain ⟨fm, hfm⟩ : ∃ f, f = formB m := ⟨_, rfl⟩
  rw [← hfm] at hFs hgm hCs
  obtain ⟨ok, hok⟩ : ∃ f, f = okRun m := ⟨_, rfl⟩
  rw [← hok] at hCs
  refine ASpec.of Tryd.func11 rfl rfl fun C hC => ?_
  refine AC.seq ?_
  refine AC.region ?_
  refine AL.q (by exact h_boxF rfl rfl) rfl ?_
  refine AL.p (by exact as1 rfl) rfl ?_
  refine AL.nil ?_
  refine th_n ?_
  refine AC.seq ?_
  refine AC.seq ?_
  refine AC.region ?_
  refine AL.p (by exact g_load_refN rfl rfl rfl rfl) rfl ?_
  refine AL.q (by exact h_pure en_l24Form rfl rfl (by repeat (first | exact rfl | exact DLead.same | refine ⟨_, _, rfl, ?_, ?_⟩ | refine ⟨_, rfl, ?_⟩)) hFs rfl) rfl ?_
  refine AL.p (by exact g_not rfl) rfl ?_
  refine AL.nil ?_
  refine th_n ?_
  refine AC.condB rfl (fun h0 => ?_) (fun h0 => ?_)
  · refine AC.seq ?_
    refine AC.region ?_
    refine AL.p (by exact as1 rfl) rfl ?_
    refine AL.nil ?_
    refine th_n ?_
    refine AC.ret ?_
    refine th_r ?_
    refine bq_r ?_
    exact ret1 rfl (by rw [hgm, (Bool.not_eq_true' _).mp h0]; rfl)
  · refine AC.skip ?_
    refine th_n ?_
    refine AC.seq ?_
    have hft : fm = true := (Bool.not_eq_false' _).mp h0
    have hCo := hCs hft
    rw [hft, Bool.true_and] at hgm
    refine AC.region ?_
    refine AL.p (by exact g_load_refN rfl rfl rfl rfl) rfl ?_
    refine AL.q (by exact h_pure en_l24Codes rfl rfl (by repeat (first | exact rfl | exact DLead.same | refine ⟨_, _, rfl, ?_, ?_⟩ | refine ⟨_, rfl, ?_⟩)) hCo rfl) rfl ?_
    refine AL.p (by exact mv5 rfl) rfl ?_
    refine AL.p (by exact g_extract (r := .d _) rfl rfl) rfl ?_
    refine AL.p (by exact g_extract (r := .d _) rfl rfl) rfl ?_
    refine AL.p (by exact as1 rfl) rfl ?_
    refine AL.p (by exact as1 rfl) rfl ?_
    refine AL.nil ?_
    refine th_n ?_
    refine AC.seq ?_
    refine AC.seq ?_
    refine AC.region ?_
    refine AL.p (by exact mv1 rfl) rfl ?_
    refine AL.p (by exact g_not rfl) rfl ?_
    refine AL.p (by exact mv1 rfl) rfl ?_
    refine AL.caseGB rfl rfl (fun h1 => ?_) (fun h1 => ?_)
    · refine AL.not rfl rfl rfl rfl rfl ?_
      refine AL.not rfl rfl rfl rfl rfl ?_
      refine AL.p (by exact g_pickT (r := .d _) rfl rfl) rfl ?_
      refine AL.nil ?_
      refine th_n ?_
      refine AC.condT rfl ?_
      refine AC.seq ?_
      refine AC.region ?_
      refine AL.p (by exact as1 rfl) rfl ?_
      refine AL.nil ?_
      refine th_n ?_
      refine AC.ret ?_
      refine th_r ?_
      refine bq_r ?_
      exact ret1 rfl (by rw [hgm, okRun_no (hok.symm.trans ((Bool.not_eq_true' _).mp h1))]; rfl)
    · refine AL.yes rfl rfl rfl ?_
      have hok1 : ok = true := (Bool.not_eq_false' _).mp h1
      obtain ⟨cs, hcd⟩ := okRun_some (hok.symm.trans hok1)
      have hd : cdD m = vStr cs := by rw [cdD, hcd]
      rw [hd]
      have hH := l1HasS_spec cs (codes_len (formB_iff (hfm.symm.trans hft)) hcd) []
      obtain ⟨ha, hha⟩ : ∃ a, a = cs.any (fun x => decide (x = [])) := ⟨_, rfl⟩
      have hoc : okCodes m = !ha := by rw [okCodes, hcd, hha]
      rw [← hha] at hH
      rw [hoc] at hgm
      refine AL.p (by exact mv1 rfl) rfl ?_
      refine AL.yes rfl rfl rfl ?_
      refine AL.q (by exact h_pure en_l1HasS rfl rfl (by repeat (first | exact rfl | exact DLead.same | refine ⟨_, _, rfl, ?_, ?_⟩)) hH rfl) rfl ?_
      refine AL.p (by exact g_pickF (r := .d _) rfl rfl) rfl ?_
      refine AL.nil ?_
      refine th_n ?_
      refine AC.condB rfl (fun h2 => ?_) (fun h2 => ?_)
      · refine AC.seq ?_
        refine AC.region ?_
        refine AL.p (by exact as1 rfl) rfl ?_
        refine AL.nil ?_
        refine th_n ?_
        refine AC.ret ?_
        refine th_r ?_
        refine bq_r ?_
        exact ret1 rfl (by rw [hgm, h2]; rfl)
      · refine AC.skip ?_
        refine th_n ?_
        refine AC.seq ?_
        refine AC.seq ?_
        have hgm2 : goodM m = maxB m.burs := by rw [hgm, h2]; rfl
        refine AC.region ?_
        refine AL.p (by exact g_fa_ref rfl rfl rfl rfl rfl rfl) rfl ?_
        refine AL.p (by exact g_load_ref rfl rfl rfl) rfl ?_
        refine AL.p (by exact g_len_view rfl rfl (by exact List.length_map _)) rfl ?_
        refine AL.p (by exact mv1 rfl) rfl ?_
        refine AL.nil ?_
        refine th_n ?_
        refine AC.block ?_
        refine AC.loop (ι := Nat) (fun i => ⟨58, 0, [(1, .d (.ref (machD m))), (24, .d (vBurs m.burs)), (25, aI m.burs.length), (26, aI i)], []⟩) (fun i => i ≤ m.burs.length ∧ ∀ j, j < i → allK (pairB m.burs j) m.burs.length = true) (fun i => m.burs.length - i) (0) ?_ (⟨Nat.zero_le _, fun j hj => by omega⟩) ?_
        · refine Weak.ren _ [] hC rfl ?_ ?_ rfl rfl rfl <;> repeat (first | exact True.intro | refine And.intro ?_ ?_ | exact DLead.same)
        · intro i ⟨hi, hall⟩
          refine AC.seq ?_
          refine AC.region ?_
          refine AL.p (by exact g_cmp rfl rfl rfl) rfl ?_
          refine AL.nil ?_
          refine th_n ?_
          refine AC.seq ?_
          refine AC.condD rfl (fun h3 => ?_) (fun h3 => ?_)
          · refine AC.skip ?_
            refine th_n ?_
            refine AC.seq ?_
            refine AC.block ?_
            refine AC.seq ?_
            have hi1 : i < m.burs.length := by omega
            have hget := bursL_get hi1
            refine AC.region ?_
            refine AL.p (by exact mv1 rfl) rfl ?_
            refine AL.p (by exact g_ia_view rfl rfl rfl rfl rfl (by rfl) (by assumption)) rfl ?_
            refine AL.p (by exact g_load_refN rfl rfl rfl rfl) rfl ?_
            refine AL.q (by exact h_alloc rfl) rfl ?_
            refine AL.p (by exact as1 rfl) rfl ?_
            refine AL.q (by exact h_store rfl rfl rfl rfl rfl rfl) rfl ?_
            refine AL.nil ?_
            refine th_n ?_
            refine AC.seq ?_
            refine AC.weak (Weak.freezeRef (ds := burD m.burs[i]) 6 rfl rfl) ?_
            refine AC.region ?_
            refine AL.p (by exact g_fa_ref rfl rfl rfl rfl rfl rfl) rfl ?_
            refine AL.p (by exact g_load_ref rfl rfl rfl) rfl ?_
            refine AL.p (by exact g_len_view rfl rfl (by exact List.length_map _)) rfl ?_
            refine AL.p (by exact mv1 rfl) rfl ?_
            refine AL.nil ?_
            refine th_n ?_
            refine AC.block ?_
            refine AC.loop (ι := Nat) (fun k => ⟨58, 0, [(1, .d (.ref (machD m))), (24, .d (vBurs m.burs)), (25, aI m.burs.length), (26, aI i), (5, aI i), (6, .d (.ref (burD m.burs[i]))), (32, .d (vBurs m.burs)), (33, aI m.burs.length), (34, aI k)], []⟩) (fun k => k ≤ m.burs.length ∧ ∀ j, j < k → pairB m.burs i j = true) (fun k => m.burs.length - k) (0) ?_ (⟨Nat.zero_le _, fun j hj => by omega⟩) ?_
            · refine Weak.ren _ [] hC rfl ?_ ?_ rfl rfl rfl <;> repeat (first | exact True.intro | refine And.intro ?_ ?_ | exact DLead.same)
            · intro k ⟨hk, hal2⟩
              refine AC.seq ?_
              refine AC.region ?_
              refine AL.p (by exact g_cmp rfl rfl rfl) rfl ?_
              refine AL.nil ?_
              refine th_n ?_
              refine AC.seq ?_
              refine AC.condD rfl (fun h4 => ?_) (fun h4 => ?_)
              · refine AC.skip ?_
                refine th_n ?_
                refine AC.seq ?_
                refine AC.block ?_
                refine AC.seq ?_
                have hk1 : k < m.burs.length := by omega
                have hget2 := bursL_get hk1
                refine AC.region ?_
                refine AL.p (by exact mv1 rfl) rfl ?_
                refine AL.p (by exact g_ia_view rfl rfl rfl rfl rfl (by rfl) (by assumption)) rfl ?_
                refine AL.p (by exact g_load_refN rfl rfl rfl rfl) rfl ?_
                refine AL.q (by exact h_alloc rfl) rfl ?_
                refine AL.p (by exact as1 rfl) rfl ?_
                refine AL.q (by exact h_store rfl rfl rfl rfl rfl rfl) rfl ?_
                refine AL.nil ?_
                refine th_n ?_
                refine AC.seq ?_
                refine AC.weak (Weak.freezeRef (ds := burD m.burs[k]) 8 rfl rfl) ?_
                have hP := pairB_at hi1 hk1
                have hbi := (hS.bl _ (List.getElem_mem hi1)).1
                have hbk := (hS.bl _ (List.getElem_mem hk1)).1
                have hA := l24Among_spec m.burs[i].inn m.burs[k].inn (by omega) (by omega)
                obtain ⟨c, hc⟩ : ∃ c, c = amongB m.burs[i].inn m.burs[k].inn := ⟨_, rfl⟩
                rw [← hc] at hA hP
                clear hc
                refine AC.region ?_
                refine AL.p (by exact mv1 rfl) rfl ?_
                refine AL.p (by exact mv1 rfl) rfl ?_
                refine AL.p (by exact g_cmp rfl rfl rfl) rfl ?_
                refine AL.p (by exact mv1 rfl) rfl ?_
                refine AL.caseGN rfl rfl (fun h5 => ?_) (fun h5 => ?_)
                · refine AL.yes rfl rfl rfl ?_
                  refine AL.p (by exact g_fa_ref rfl rfl rfl rfl rfl rfl) rfl ?_
                  refine AL.yes rfl rfl rfl ?_
                  refine AL.p (by exact g_load_ref rfl rfl rfl) rfl ?_
                  refine AL.yes rfl rfl rfl ?_
                  refine AL.p (by exact g_fa_ref rfl rfl rfl rfl rfl rfl) rfl ?_
                  refine AL.yes rfl rfl rfl ?_
                  refine AL.p (by exact g_load_ref rfl rfl rfl) rfl ?_
                  refine AL.yes rfl rfl rfl ?_
                  refine AL.p (by exact g_cmp rfl rfl rfl) rfl ?_
                  refine AL.p (by exact g_pickT (r := .d _) rfl rfl) rfl ?_
                  refine AL.p (by exact mv1 rfl) rfl ?_
                  refine AL.caseG rfl rfl (fun h6 => ?_) (fun h6 => ?_)
                  · refine AL.yes rfl rfl rfl ?_
                    refine AL.p (by exact g_fa_ref rfl rfl rfl rfl rfl rfl) rfl ?_
                    refine AL.yes rfl rfl rfl ?_
                    refine AL.p (by exact g_load_ref rfl rfl rfl) rfl ?_
                    refine AL.yes rfl rfl rfl ?_
                    refine AL.p (by exact g_fa_ref rfl rfl rfl rfl rfl rfl) rfl ?_
                    refine AL.yes rfl rfl rfl ?_
                    refine AL.p (by exact g_load_ref rfl rfl rfl) rfl ?_
                    refine AL.yes rfl rfl rfl ?_
                    refine AL.q (by exact h_pure en_l24Among rfl rfl (by repeat (first | exact rfl | exact DLead.same | refine ⟨_, _, rfl, ?_, ?_⟩)) hA rfl) rfl ?_
                    refine AL.p (by exact g_pickT (r := .d _) rfl rfl) rfl ?_
                    refine AL.nil ?_
                    refine th_n ?_
                    refine AC.condB rfl (fun h7 => ?_) (fun h7 => ?_)
                    · refine AC.seq ?_
                      refine AC.region ?_
                      refine AL.p (by exact as1 rfl) rfl ?_
                      refine AL.nil ?_
                      refine th_n ?_
                      refine AC.ret ?_
                      refine ib_r ?_
                      refine th_r ?_
                      refine th_r ?_
                      refine ib_r ?_
                      refine ib_r ?_
                      refine th_r ?_
                      refine th_r ?_
                      refine ib_r ?_
                      refine th_r ?_
                      refine bq_r ?_
                      have hno : pairB m.burs i k = false := by clear hS hFs hCs hCo hA hH hall hal2; rw [hP]; simp_all
                      exact ret1 rfl (by rw [hgm2, maxB, allK_no (f := fun i => allK (pairB m.burs i) m.burs.length) hi1 (allK_no hk1 hno)])
                    · refine AC.skip ?_
                      refine ib_n ?_
                      refine th_n ?_
                      refine AC.region ?_
                      refine AL.p (by exact g_arith rfl rfl rfl (by exact wrap_i64 (by omega))) rfl ?_
                      refine AL.p (by exact mv1 rfl) rfl ?_
                      refine AL.nil ?_
                      refine th_n ?_
                      have hyes : pairB m.burs i k = true := by clear hS hFs hCs hCo hA hH hall hal2; rw [hP]; simp_all
                      exact ⟨k + 1, ⟨by omega, fun j hj2 => by rcases Nat.lt_succ_iff_lt_or_eq.1 hj2 with h | rfl; exact hal2 j h; exact hyes⟩, by omega, Weak.ren _ [] hC rfl (by repeat (first | exact True.intro | refine And.intro ?_ ?_ | exact DLead.same)) (by repeat (exact True.intro)) rfl rfl rfl⟩
                  · refine AL.not rfl rfl rfl rfl rfl ?_
                    refine AL.not rfl rfl rfl rfl rfl ?_
                    refine AL.not rfl rfl rfl rfl rfl ?_
                    refine AL.not rfl rfl rfl rfl rfl ?_
                    refine AL.not rfl rfl rfl rfl rfl ?_
                    refine AL.p (by exact g_pickF (r := .d _) rfl rfl) rfl ?_
                    refine AL.nil ?_
                    refine th_n ?_
                    refine AC.condF rfl ?_
                    refine AC.skip ?_
                    refine ib_n ?_
                    refine th_n ?_
                    refine AC.region ?_
                    refine AL.p (by exact g_arith rfl rfl rfl (by exact wrap_i64 (by omega))) rfl ?_
                    refine AL.p (by exact mv1 rfl) rfl ?_
                    refine AL.nil ?_
                    refine th_n ?_
                    have hyes : pairB m.burs i k = true := by clear hS hFs hCs hCo hA hH hall hal2; rw [hP]; simp_all
                    exact ⟨k + 1, ⟨by omega, fun j hj2 => by rcases Nat.lt_succ_iff_lt_or_eq.1 hj2 with h | rfl; exact hal2 j h; exact hyes⟩, by omega, Weak.ren _ [] hC rfl (by repeat (first | exact True.intro | refine And.intro ?_ ?_ | exact DLead.same)) (by repeat (exact True.intro)) rfl rfl rfl⟩
                · refine AL.not rfl rfl rfl rfl rfl ?_
                  refine AL.not rfl rfl rfl rfl rfl ?_
                  refine AL.not rfl rfl rfl rfl rfl ?_
                  refine AL.not rfl rfl rfl rfl rfl ?_
                  refine AL.not rfl rfl rfl rfl rfl ?_
                  refine AL.p (by exact g_pickF (r := .d _) rfl rfl) rfl ?_
                  refine AL.p (by exact mv1 rfl) rfl ?_
                  refine AL.not rfl rfl rfl rfl rfl ?_
                  refine AL.not rfl rfl rfl rfl rfl ?_
                  refine AL.not rfl rfl rfl rfl rfl ?_
                  refine AL.not rfl rfl rfl rfl rfl ?_
                  refine AL.not rfl rfl rfl rfl rfl ?_
                  refine AL.p (by exact g_pickF (r := .d _) rfl rfl) rfl ?_
                  refine AL.nil ?_
                  refine th_n ?_
                  refine AC.condF rfl ?_
                  refine AC.skip ?_
                  refine ib_n ?_
                  refine th_n ?_
                  refine AC.region ?_
                  refine AL.p (by exact g_arith rfl rfl rfl (by exact wrap_i64 (by omega))) rfl ?_
                  refine AL.p (by exact mv1 rfl) rfl ?_
                  refine AL.nil ?_
                  refine th_n ?_
                  have hyes : pairB m.burs i k = true := by clear hS hFs hCs hCo hA hH hall hal2; rw [hP]; simp_all
                  exact ⟨k + 1, ⟨by omega, fun j hj2 => by rcases Nat.lt_succ_iff_lt_or_eq.1 hj2 with h | rfl; exact hal2 j h; exact hyes⟩, by omega, Weak.ren _ [] hC rfl (by repeat (first | exact True.intro | refine And.intro ?_ ?_ | exact DLead.same)) (by repeat (exact True.intro)) rfl rfl rfl⟩
              · refine AC.exit ?_
                refine th_e ?_
                refine th_e ?_
                refine ib_y ?_
                refine ib_n ?_
                refine th_n ?_
                refine AC.region ?_
                refine AL.p (by exact g_arith rfl rfl rfl (by exact wrap_i64 (by omega))) rfl ?_
                refine AL.p (by exact mv1 rfl) rfl ?_
                refine AL.nil ?_
                refine th_n ?_
                exact ⟨i + 1, ⟨by omega, fun j hj2 => by rcases Nat.lt_succ_iff_lt_or_eq.1 hj2 with h | rfl; exact hall j h; exact allK_yes (fun q hq => hal2 q (by omega))⟩, by omega, Weak.ren _ [] hC rfl (by repeat (first | exact True.intro | refine And.intro ?_ ?_ | exact DLead.same)) (by repeat (exact True.intro)) rfl rfl rfl⟩
          · refine AC.exit ?_
            refine th_e ?_
            refine th_e ?_
            refine ib_y ?_
            refine th_n ?_
            refine AC.seq ?_
            refine AC.region ?_
            refine AL.p (by exact as1 rfl) rfl ?_
            refine AL.nil ?_
            refine th_n ?_
            refine AC.ret ?_
            refine bq_r ?_
            exact ret1 rfl (by rw [hgm2, maxB, allK_yes (f := fun i => allK (pairB m.burs i) m.burs.length) (fun q hq => hall q (by omega))])
theorem en_l24Good : Enters Tryd.prog 11 := enters_of Tryd.func11 rfl rfl
end Go.Proofs.YtacmonmehcdhaaaDoor

