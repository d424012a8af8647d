/- Contracts of the functions of the program and of the reference, each proved by a walk through its code. -/
import Derived.WalkKit
import Derived.WalkSpells
import Derived.WalkLawsBesides
import Derived.Deep.Draws
import Derived.Lib.Hide
import Derived.Maps.AppendAt
import Derived.OwnWalk
import Derived.Deep.MidRow
import Derived.Laws.ResultCell
import Derived.Deep.Upon
import Derived.Great.FillDense
import Derived.Laws.Tables
import Derived.Laws.BytesArg
import Derived.Laws.MakeOwn
import Derived.Great.BuildSlice
import Derived.ArgAppend
import Derived.Deep.AppendSrc
import Derived.Test.YtbmlfcjoeieibaaProg
import Derived.KernelRfl
import Derived.Orders
import Derived.Laws.IdiomStrings
import Derived.Lib.AppendZerosOnto
import Derived.ProofKit
import Derived.OpenShut
import Derived.Laws.StructEq
import Derived.ChangeKeysEq
import Derived.Test.YtbmlfcjoeieibaaChecked
import Derived.Test.YtbmlfcjoeieibaaGOb6
set_option linter.all false
set_option maxRecDepth 20000
namespace Go.Proofs.Ytbmlfcjoeieibaa
open Go.RowKit

set_option maxHeartbeats 1000000 in
theorem l5Code_spec (m : List UInt8) (n : Int) (hm : m.length ≤ 2000000) : ASpec Try.prog 42 [aS (bstr m), aI n] [] (Pure1 (aT (bitsB m n))) := by
  have hsz := bstr_size m
  refine ASpec.of Try.func42 rfl rfl fun C hC => ?_
  refine AC.seq ?_
  refine AC.region ?_
  refine AL.p (by exact as1 rfl) rfl ?_
  refine AL.nil ?_
  refine th_n ?_
  refine AC.seq ?_
  refine AC.seq ?_
  refine AC.region ?_
  refine AL.p (by exact as1 rfl) rfl ?_
  refine AL.nil ?_
  refine th_n ?_
  refine AC.block ?_
  refine AC.loop (ι := Nat) (fun k => ⟨26, 0, [(0, aS (bstr m)), (1, aI n), (5, aI k)], []⟩) (fun k => k ≤ m.length ∧ ∀ j (hj : j < m.length), j < k → bit m[j] = true) (fun k => m.length - k) (0) ?_ (⟨Nat.zero_le _, fun j _ hj => by omega⟩) ?_
  · refine Weak.ren _ [] hC rfl ?_ ?_ rfl rfl rfl <;> repeat (first | exact True.intro | refine And.intro ?_ ?_ | exact DLead.same)
  · intro k ⟨hk, hall⟩
    refine AC.seq ?_
    refine AC.seq ?_
    refine AC.region ?_
    refine AL.p (by exact mv1 rfl) rfl ?_
    refine AL.p (by exact mv1 rfl) rfl ?_
    refine AL.p (by exact g_len_str rfl rfl rfl) rfl ?_
    refine AL.p (by exact g_cmp rfl rfl rfl) rfl ?_
    refine AL.nil ?_
    refine th_n ?_
    refine AC.condD rfl (fun h0 => ?_) (fun h0 => ?_)
    · refine AC.skip ?_
      refine th_n ?_
      refine AC.seq ?_
      refine AC.block ?_
      refine AC.seq ?_
      have hk1 : k < m.length := by omega
      have hget := bstr_at hk1
      have hlt := m[k].toNat_lt
      refine AC.region ?_
      refine AL.p (by exact mv1 rfl) rfl ?_
      refine AL.p (by exact mv1 rfl) rfl ?_
      refine AL.p (by exact g_index rfl rfl rfl (by rfl) (by assumption)) rfl ?_
      refine AL.p (by exact g_cmp rfl rfl rfl) rfl ?_
      refine AL.p (by exact mv1 rfl) rfl ?_
      refine AL.caseGN rfl rfl (fun h1 => ?_) (fun h1 => ?_)
      · refine AL.yes rfl rfl rfl ?_
        refine AL.p (by exact mv1 rfl) rfl ?_
        refine AL.yes rfl rfl rfl ?_
        refine AL.p (by exact mv1 rfl) rfl ?_
        refine AL.yes rfl rfl rfl ?_
        refine AL.p (by exact g_index rfl rfl rfl (by rfl) (by assumption)) rfl ?_
        refine AL.yes rfl rfl rfl ?_
        refine AL.p (by exact g_cmp rfl rfl rfl) rfl ?_
        refine AL.p (by exact g_pickT (r := .d _) rfl rfl) rfl ?_
        refine AL.nil ?_
        refine th_n ?_
        refine AC.condND rfl (fun h2 => ?_) (fun h2 => ?_)
        · refine AC.seq ?_
          refine AC.region ?_
          refine AL.p (by exact as1 rfl) rfl ?_
          refine AL.nil ?_
          refine th_n ?_
          refine AC.ret ?_
          refine ib_r ?_
          refine th_r ?_
          refine th_r ?_
          refine ib_r ?_
          refine th_r ?_
          refine bq_r ?_
          have hb : bit m[k] = false := by simp_all [bit]
          exact ret1 rfl (by rw [bitsB, not_bits hk1 hb]; rfl)
        · refine AC.skip ?_
          refine ib_n ?_
          refine th_n ?_
          refine AC.region ?_
          refine AL.p (by exact mv1 rfl) rfl ?_
          refine AL.p (by exact g_arith rfl rfl rfl (by exact wrap_i64 (by omega))) rfl ?_
          refine AL.p (by exact as1 rfl) rfl ?_
          refine AL.nil ?_
          refine th_n ?_
          have hb : bit m[k] = true := by simp_all [bit]
          exact ⟨k + 1, ⟨by omega, fun j hj hj2 => by rcases Nat.lt_succ_iff_lt_or_eq.1 hj2 with h | rfl; exact hall j hj h; exact hb⟩, by omega, Weak.ren _ [] hC rfl (by repeat (first | exact True.intro | refine And.intro ?_ ?_ | exact DLead.same)) (by repeat (exact True.intro)) rfl rfl rfl⟩
      · refine AL.not rfl rfl rfl rfl rfl ?_
        refine AL.not rfl rfl rfl rfl rfl ?_
        refine AL.not rfl rfl rfl rfl rfl ?_
        refine AL.not rfl rfl rfl rfl rfl ?_
        refine AL.p (by exact g_pickF (r := .d _) rfl rfl) rfl ?_
        refine AL.nil ?_
        refine th_n ?_
        refine AC.condF rfl ?_
        refine AC.skip ?_
        refine ib_n ?_
        refine th_n ?_
        refine AC.region ?_
        refine AL.p (by exact mv1 rfl) rfl ?_
        refine AL.p (by exact g_arith rfl rfl rfl (by exact wrap_i64 (by omega))) rfl ?_
        refine AL.p (by exact as1 rfl) rfl ?_
        refine AL.nil ?_
        refine th_n ?_
        have hb : bit m[k] = true := by simp_all [bit]
        exact ⟨k + 1, ⟨by omega, fun j hj hj2 => by rcases Nat.lt_succ_iff_lt_or_eq.1 hj2 with h | rfl; exact hall j hj h; exact hb⟩, by omega, Weak.ren _ [] hC rfl (by repeat (first | exact True.intro | refine And.intro ?_ ?_ | exact DLead.same)) (by repeat (exact True.intro)) rfl rfl rfl⟩
    · refine AC.exit ?_
      refine th_e ?_
      refine th_e ?_
      refine ib_y ?_
      refine th_n ?_
      refine AC.seq ?_
      refine AC.region ?_
      refine AL.p (by exact mv1 rfl) rfl ?_
      refine AL.p (by exact g_len_str rfl rfl rfl) rfl ?_
      refine AL.p (by exact mv1 rfl) rfl ?_
      refine AL.p (by exact g_cmp rfl rfl rfl) rfl ?_
      refine AL.p (by exact as1 rfl) rfl ?_
      refine AL.nil ?_
      refine th_n ?_
      refine AC.ret ?_
      refine bq_r ?_
      exact ret1 rfl (by rw [bitsB, all_bits (fun j hj => hall j hj (by omega)), hsz]; rfl)
theorem en_l5Code : Enters Try.prog 42 := enters_of Try.func42 rfl rfl
def kindsB (l : List Sig) : Bool := l.all (fun s => decide (s.kind = 1 ∨ s.kind = 2))
theorem kinds_any {l : List Sig} (h : sigsB l = true) : kindsB l = !l.any (fun s => decide (s.kind = 3)) := by
  unfold sigsB at h
  rw [Bool.and_eq_true] at h
  have hk : ∀ s, s ∈ l → 1 ≤ s.kind ∧ s.kind ≤ 3 := by
    intro s hs
    obtain ⟨j, hj, rfl⟩ := List.getElem_of_mem hs
    have := allK_iff.1 h.1 j hj
    unfold sigK at this
    rw [sAt_nat hj, Bool.and_eq_true, Bool.and_eq_true] at this
    exact inI_iff.1 this.2.1
  unfold kindsB
  clear h
  induction l with
  | nil => rfl
  | cons s l ih =>
    have h1 := hk s (List.mem_cons_self ..)
    have h2 := ih (fun x hx => hk x (List.mem_cons_of_mem _ hx))
    simp only [List.all_cons, List.any_cons, h2, Bool.not_or]
    congr 1
    by_cases h3 : s.kind = 3
    · rw [decide_eq_false (by omega), decide_eq_true h3]; rfl
    · rw [decide_eq_true (by omega), decide_eq_false h3]; rfl
theorem formB_eq (m : Mach) : formB m = (m.burs.all (burB m.sigs m.states) && ((kindsB m.sigs && sigsB m.sigs) && ((decide ((1 : Int) ≤ m.states) && decide (m.states ≤ 6)) && (decide ((m.burs.length : Int) ≤ 6) && bitsB m.first m.sigs.length)))) := rfl
def burV (s : List Sig) (v : Int) (b : Bur) : Bool := ((decide (0 ≤ b.from_) && decide (b.from_ ≤ v)) && ((decide (0 ≤ b.to_) && decide (b.to_ ≤ v)) && (!decide ((b.inn.length : Int) = 0) && (labsB s b.inn 1 && labsB s b.out 2))))
theorem burB_eq (s : List Sig) (n : Int) (b : Bur) : burB s n b = ((decide (0 ≤ b.from_) && decide (b.from_ ≤ n - 1)) && ((decide (0 ≤ b.to_) && decide (b.to_ ≤ n - 1)) && (!decide ((b.inn.length : Int) = 0) && (labsB s b.inn 1 && labsB s b.out 2)))) := by
  unfold burB inI
  congr 3
  simp
set_option maxHeartbeats 4000000 in
theorem l24Form_spec (m : Mach) (hS : SmM m) : ASpec Try.prog 28 [machA m] [] (Pure1 (aT (formB m))) := by
  have hst := hS.st
  have hfi := hS.f
  have hsl := hS.s
  have hbl := hS.b
  have hF := formB_eq m
  have hKs := l24Kinds_spec m.sigs hS.s hS.sn
  have hX1 := l1In_spec m.states 1 6
  have hC5 := l5Code_spec m.first m.sigs.length (by omega)
  obtain ⟨f1, hf1⟩ : ∃ f, f = (kindsB m.sigs && sigsB m.sigs) := ⟨_, rfl⟩
  obtain ⟨f2, hf2⟩ : ∃ f, f = (decide ((1 : Int) ≤ m.states) && decide (m.states ≤ 6)) := ⟨_, rfl⟩
  obtain ⟨f4, hf4⟩ : ∃ f, f = bitsB m.first m.sigs.length := ⟨_, rfl⟩
  change ASpec Try.prog 41 _ _ (Pure1 (aT (kindsB m.sigs && sigsB m.sigs))) at hKs
  rw [← hf1] at hF hKs
  rw [← hf2] at hF hX1
  rw [← hf4] at hF hC5
  have hst2 : f2 = true → 1 ≤ m.states ∧ m.states ≤ 6 := by rw [hf2]; simp
  obtain ⟨v, hv⟩ : ∃ v, IntKind.i64.wrap (m.states - 1) = v := ⟨_, rfl⟩
  have hv2 : f2 = true → v = m.states - 1 := fun h => by have := hst2 h; rw [← hv]; exact wrap_i64 (by omega)
  have hbv : f2 = true → ∀ b, burB m.sigs m.states b = burV m.sigs v b := fun h b => by rw [hv2 h]; exact burB_eq _ _ _
  clear hf1 hf2 hf4
  refine ASpec.of Try.func28 rfl rfl fun C hC => ?_
  refine AC.seq ?_
  refine AC.region ?_
  refine AL.q (by exact h_boxF rfl rfl) rfl ?_
  refine AL.p (by exact as1 rfl) rfl ?_
  refine AL.nil ?_
  refine th_n ?_
  refine AC.seq ?_
  refine AC.seq ?_
  refine AC.region ?_
  refine AL.p (by exact g_fa_ref rfl rfl rfl rfl rfl rfl) rfl ?_
  refine AL.p (by exact g_load_ref rfl rfl rfl) rfl ?_
  refine AL.p (by exact g_len_view rfl rfl (by exact List.length_map _)) rfl ?_
  refine AL.p (by exact mv1 rfl) rfl ?_
  refine AL.nil ?_
  refine th_n ?_
  refine AC.block ?_
  refine AC.loop (ι := Nat) (fun k => ⟨71, 0, [(1, .d (.ref (machD m))), (6, .d (vBurs m.burs)), (7, aI m.burs.length), (8, aI k)], []⟩) (fun k => k ≤ m.burs.length ∧ ∀ j (hj : j < m.burs.length), j < k → burV m.sigs v m.burs[j] = true) (fun k => m.burs.length - k) (0) ?_ (⟨Nat.zero_le _, fun j _ hj => by omega⟩) ?_
  · refine Weak.ren _ [] hC rfl ?_ ?_ rfl rfl rfl <;> repeat (first | exact True.intro | refine And.intro ?_ ?_ | exact DLead.same)
  · intro k ⟨hk, hall⟩
    refine AC.seq ?_
    refine AC.region ?_
    refine AL.p (by exact g_cmp rfl rfl rfl) rfl ?_
    refine AL.nil ?_
    refine th_n ?_
    refine AC.seq ?_
    refine AC.condD rfl (fun h0 => ?_) (fun h0 => ?_)
    · refine AC.skip ?_
      refine th_n ?_
      refine AC.seq ?_
      refine AC.block ?_
      refine AC.seq ?_
      have hk1 : k < m.burs.length := by omega
      have hget := bursL_get hk1
      have hmem := List.getElem_mem hk1
      have hbl2 := hS.bl _ hmem
      refine AC.region ?_
      refine AL.p (by exact g_ia_view rfl rfl rfl rfl rfl (by rfl) (by assumption)) rfl ?_
      refine AL.p (by exact g_load_refN rfl rfl rfl rfl) rfl ?_
      refine AL.q (by exact h_alloc rfl) rfl ?_
      refine AL.q (by exact h_store rfl rfl rfl rfl rfl rfl) rfl ?_
      refine AL.nil ?_
      refine th_n ?_
      refine AC.seq ?_
      refine AC.weak (Weak.freezeRef (ds := burD m.burs[k]) 4 rfl rfl) ?_
      have hB : burV m.sigs v m.burs[k] = _ := rfl
      unfold burV at hB
      have hW1 := l1In_spec m.burs[k].from_ 0 v
      have hW2 := l1In_spec m.burs[k].to_ 0 v
      have hL1 := l24Labels_spec m m.burs[k].inn 1 hS.s hbl2.1
      have hL2 := l24Labels_spec m m.burs[k].out 2 hS.s hbl2.2
      obtain ⟨b1, hb1⟩ : ∃ f, f = (decide (0 ≤ m.burs[k].from_) && decide (m.burs[k].from_ ≤ v)) := ⟨_, rfl⟩
      obtain ⟨b2, hb2⟩ : ∃ f, f = (decide (0 ≤ m.burs[k].to_) && decide (m.burs[k].to_ ≤ v)) := ⟨_, rfl⟩
      obtain ⟨b3, hb3⟩ : ∃ f, f = labsB m.sigs m.burs[k].inn 1 := ⟨_, rfl⟩
      obtain ⟨b4, hb4⟩ : ∃ f, f = labsB m.sigs m.burs[k].out 2 := ⟨_, rfl⟩
      change burV m.sigs v m.burs[k] = _ at hB
      rw [← hb1] at hB hW1
      rw [← hb2] at hB hW2
      rw [← hb3] at hB hL1
      rw [← hb4] at hB hL2
      clear hb1 hb2 hb3 hb4
      refine AC.region ?_
      refine AL.p (by exact g_fa_ref rfl rfl rfl rfl rfl rfl) rfl ?_
      refine AL.p (by exact g_load_ref rfl rfl rfl) rfl ?_
      refine AL.p (by exact g_fa_ref rfl rfl rfl rfl rfl rfl) rfl ?_
      refine AL.p (by exact g_load_ref rfl rfl rfl) rfl ?_
      refine AL.p (by exact g_arith rfl rfl rfl hv) rfl ?_
      refine AL.q (by exact h_pure en_l1In rfl rfl (by repeat (first | exact rfl | exact DLead.same | refine ⟨_, _, rfl, ?_, ?_⟩)) hW1 rfl) rfl ?_
      refine AL.p (by exact g_not rfl) rfl ?_
      refine AL.p (by exact mv1 rfl) rfl ?_
      refine AL.caseGB rfl rfl (fun h1 => ?_) (fun h1 => ?_)
      · refine AL.not rfl rfl rfl rfl rfl ?_
        refine AL.not rfl rfl rfl rfl rfl ?_
        refine AL.not rfl rfl rfl rfl rfl ?_
        refine AL.not rfl rfl rfl rfl rfl ?_
        refine AL.not rfl rfl rfl rfl rfl ?_
        refine AL.not rfl rfl rfl rfl rfl ?_
        refine AL.not rfl rfl rfl rfl rfl ?_
        refine AL.p (by exact g_pickT (r := .d _) rfl rfl) rfl ?_
        refine AL.p (by exact mv1 rfl) rfl ?_
        refine AL.not rfl rfl rfl rfl rfl ?_
        refine AL.not rfl rfl rfl rfl rfl ?_
        refine AL.not rfl rfl rfl rfl rfl ?_
        refine AL.not rfl rfl rfl rfl rfl ?_
        refine AL.p (by exact g_pickT (r := .d _) rfl rfl) rfl ?_
        refine AL.p (by exact mv1 rfl) rfl ?_
        refine AL.not rfl rfl rfl rfl rfl ?_
        refine AL.not rfl rfl rfl rfl rfl ?_
        refine AL.not rfl rfl rfl rfl rfl ?_
        refine AL.not rfl rfl rfl rfl rfl ?_
        refine AL.not rfl rfl rfl rfl rfl ?_
        refine AL.p (by exact g_pickT (r := .d _) rfl rfl) rfl ?_
        refine AL.p (by exact mv1 rfl) rfl ?_
        refine AL.not rfl rfl rfl rfl rfl ?_
        refine AL.not rfl rfl rfl rfl rfl ?_
        refine AL.not rfl rfl rfl rfl rfl ?_
        refine AL.not rfl rfl rfl rfl rfl ?_
        refine AL.not rfl rfl rfl rfl rfl ?_
        refine AL.p (by exact g_pickT (r := .d _) rfl rfl) rfl ?_
        refine AL.nil ?_
        refine th_n ?_
        refine AC.condT rfl ?_
        refine AC.seq ?_
        refine AC.region ?_
        refine AL.p (by exact as1 rfl) rfl ?_
        refine AL.nil ?_
        refine th_n ?_
        refine AC.ret ?_
        refine ib_r ?_
        refine th_r ?_
        refine th_r ?_
        refine ib_r ?_
        refine th_r ?_
        refine bq_r ?_
        have hbad : burV m.sigs v m.burs[k] = false := by clear hall hF hS hL1 hL2 hW1 hW2 hX1 hKs hC5 hget hbv hv2 hst2; rw [hB]; simp_all
        have hno : formB m = false := by { cases f2 with | false => rw [hF]; simp | true => rw [hF, List.all_eq_false.2 ⟨_, hmem, by rw [hbv rfl, hbad]; exact Bool.false_ne_true⟩]; rfl }
        exact ret1 rfl (by rw [hno])
      · refine AL.yes rfl rfl rfl ?_
        refine AL.p (by exact g_fa_ref rfl rfl rfl rfl rfl rfl) rfl ?_
        refine AL.yes rfl rfl rfl ?_
        refine AL.p (by exact g_load_ref rfl rfl rfl) rfl ?_
        refine AL.yes rfl rfl rfl ?_
        refine AL.p (by exact g_fa_ref rfl rfl rfl rfl rfl rfl) rfl ?_
        refine AL.yes rfl rfl rfl ?_
        refine AL.p (by exact g_load_ref rfl rfl rfl) rfl ?_
        refine AL.yes rfl rfl rfl ?_
        refine AL.p (by exact g_arith rfl rfl rfl hv) rfl ?_
        refine AL.yes rfl rfl rfl ?_
        refine AL.q (by exact h_pure en_l1In rfl rfl (by repeat (first | exact rfl | exact DLead.same | refine ⟨_, _, rfl, ?_, ?_⟩)) hW2 rfl) rfl ?_
        refine AL.yes rfl rfl rfl ?_
        refine AL.p (by exact g_not rfl) rfl ?_
        refine AL.p (by exact g_pickF (r := .d _) rfl rfl) rfl ?_
        refine AL.p (by exact mv1 rfl) rfl ?_
        refine AL.caseGB rfl rfl (fun h2 => ?_) (fun h2 => ?_)
        · refine AL.not rfl rfl rfl rfl rfl ?_
          refine AL.not rfl rfl rfl rfl rfl ?_
          refine AL.not rfl rfl rfl rfl rfl ?_
          refine AL.not rfl rfl rfl rfl rfl ?_
          refine AL.p (by exact g_pickT (r := .d _) rfl rfl) rfl ?_
          refine AL.p (by exact mv1 rfl) rfl ?_
          refine AL.not rfl rfl rfl rfl rfl ?_
          refine AL.not rfl rfl rfl rfl rfl ?_
          refine AL.not rfl rfl rfl rfl rfl ?_
          refine AL.not rfl rfl rfl rfl rfl ?_
          refine AL.not rfl rfl rfl rfl rfl ?_
          refine AL.p (by exact g_pickT (r := .d _) rfl rfl) rfl ?_
          refine AL.p (by exact mv1 rfl) rfl ?_
          refine AL.not rfl rfl rfl rfl rfl ?_
          refine AL.not rfl rfl rfl rfl rfl ?_
          refine AL.not rfl rfl rfl rfl rfl ?_
          refine AL.not rfl rfl rfl rfl rfl ?_
          refine AL.not rfl rfl rfl rfl rfl ?_
          refine AL.p (by exact g_pickT (r := .d _) rfl rfl) rfl ?_
          refine AL.nil ?_
          refine th_n ?_
          refine AC.condT rfl ?_
          refine AC.seq ?_
          refine AC.region ?_
          refine AL.p (by exact as1 rfl) rfl ?_
          refine AL.nil ?_
          refine th_n ?_
          refine AC.ret ?_
          refine ib_r ?_
          refine th_r ?_
          refine th_r ?_
          refine ib_r ?_
          refine th_r ?_
          refine bq_r ?_
          have hbad : burV m.sigs v m.burs[k] = false := by clear hall hF hS hL1 hL2 hW1 hW2 hX1 hKs hC5 hget hbv hv2 hst2; rw [hB]; simp_all
          have hno : formB m = false := by { cases f2 with | false => rw [hF]; simp | true => rw [hF, List.all_eq_false.2 ⟨_, hmem, by rw [hbv rfl, hbad]; exact Bool.false_ne_true⟩]; rfl }
          exact ret1 rfl (by rw [hno])
        · refine AL.yes rfl rfl rfl ?_
          refine AL.p (by exact g_fa_ref rfl rfl rfl rfl rfl rfl) rfl ?_
          refine AL.yes rfl rfl rfl ?_
          refine AL.p (by exact g_load_ref rfl rfl rfl) rfl ?_
          refine AL.yes rfl rfl rfl ?_
          refine AL.p (by exact g_len_view rfl rfl (by exact List.length_map _)) rfl ?_
          refine AL.yes rfl rfl rfl ?_
          refine AL.p (by exact g_cmp rfl rfl rfl) rfl ?_
          refine AL.p (by exact g_pickF (r := .d _) rfl rfl) rfl ?_
          refine AL.p (by exact mv1 rfl) rfl ?_
          refine AL.caseG rfl rfl (fun h3 => ?_) (fun h3 => ?_)
          · refine AL.not rfl rfl rfl rfl rfl ?_
            refine AL.not rfl rfl rfl rfl rfl ?_
            refine AL.not rfl rfl rfl rfl rfl ?_
            refine AL.not rfl rfl rfl rfl rfl ?_
            refine AL.not rfl rfl rfl rfl rfl ?_
            refine AL.p (by exact g_pickT (r := .d _) rfl rfl) rfl ?_
            refine AL.p (by exact mv1 rfl) rfl ?_
            refine AL.not rfl rfl rfl rfl rfl ?_
            refine AL.not rfl rfl rfl rfl rfl ?_
            refine AL.not rfl rfl rfl rfl rfl ?_
            refine AL.not rfl rfl rfl rfl rfl ?_
            refine AL.not rfl rfl rfl rfl rfl ?_
            refine AL.p (by exact g_pickT (r := .d _) rfl rfl) rfl ?_
            refine AL.nil ?_
            refine th_n ?_
            refine AC.condT rfl ?_
            refine AC.seq ?_
            refine AC.region ?_
            refine AL.p (by exact as1 rfl) rfl ?_
            refine AL.nil ?_
            refine th_n ?_
            refine AC.ret ?_
            refine ib_r ?_
            refine th_r ?_
            refine th_r ?_
            refine ib_r ?_
            refine th_r ?_
            refine bq_r ?_
            have hbad : burV m.sigs v m.burs[k] = false := by clear hall hF hS hL1 hL2 hW1 hW2 hX1 hKs hC5 hget hbv hv2 hst2; rw [hB]; simp_all
            have hno : formB m = false := by { cases f2 with | false => rw [hF]; simp | true => rw [hF, List.all_eq_false.2 ⟨_, hmem, by rw [hbv rfl, hbad]; exact Bool.false_ne_true⟩]; rfl }
            exact ret1 rfl (by rw [hno])
          · refine AL.yes rfl rfl rfl ?_
            refine AL.p (by exact g_load_refN rfl rfl rfl rfl) rfl ?_
            refine AL.yes rfl rfl rfl ?_
            refine AL.p (by exact g_fa_ref rfl rfl rfl rfl rfl rfl) rfl ?_
            refine AL.yes rfl rfl rfl ?_
            refine AL.p (by exact g_load_ref rfl rfl rfl) rfl ?_
            refine AL.yes rfl rfl rfl ?_
            refine AL.q (by exact h_pure en_l24Labels rfl rfl (by repeat (first | exact rfl | exact DLead.same | refine ⟨_, _, rfl, ?_, ?_⟩ | refine ⟨_, rfl, ?_⟩)) hL1 rfl) rfl ?_
            refine AL.yes rfl rfl rfl ?_
            refine AL.p (by exact g_not rfl) rfl ?_
            refine AL.p (by exact g_pickF (r := .d _) rfl rfl) rfl ?_
            refine AL.p (by exact mv1 rfl) rfl ?_
            refine AL.caseGB rfl rfl (fun h4 => ?_) (fun h4 => ?_)
            · refine AL.not rfl rfl rfl rfl rfl ?_
              refine AL.not rfl rfl rfl rfl rfl ?_
              refine AL.not rfl rfl rfl rfl rfl ?_
              refine AL.not rfl rfl rfl rfl rfl ?_
              refine AL.not rfl rfl rfl rfl rfl ?_
              refine AL.p (by exact g_pickT (r := .d _) rfl rfl) rfl ?_
              refine AL.nil ?_
              refine th_n ?_
              refine AC.condT rfl ?_
              refine AC.seq ?_
              refine AC.region ?_
              refine AL.p (by exact as1 rfl) rfl ?_
              refine AL.nil ?_
              refine th_n ?_
              refine AC.ret ?_
              refine ib_r ?_
              refine th_r ?_
              refine th_r ?_
              refine ib_r ?_
              refine th_r ?_
              refine bq_r ?_
              have hbad : burV m.sigs v m.burs[k] = false := by clear hall hF hS hL1 hL2 hW1 hW2 hX1 hKs hC5 hget hbv hv2 hst2; rw [hB]; simp_all
              have hno : formB m = false := by { cases f2 with | false => rw [hF]; simp | true => rw [hF, List.all_eq_false.2 ⟨_, hmem, by rw [hbv rfl, hbad]; exact Bool.false_ne_true⟩]; rfl }
              exact ret1 rfl (by rw [hno])
            · refine AL.yes rfl rfl rfl ?_
              refine AL.p (by exact g_load_refN rfl rfl rfl rfl) rfl ?_
              refine AL.yes rfl rfl rfl ?_
              refine AL.p (by exact g_fa_ref rfl rfl rfl rfl rfl rfl) rfl ?_
              refine AL.yes rfl rfl rfl ?_
              refine AL.p (by exact g_load_ref rfl rfl rfl) rfl ?_
              refine AL.yes rfl rfl rfl ?_
              refine AL.q (by exact h_pure en_l24Labels rfl rfl (by repeat (first | exact rfl | exact DLead.same | refine ⟨_, _, rfl, ?_, ?_⟩ | refine ⟨_, rfl, ?_⟩)) hL2 rfl) rfl ?_
              refine AL.yes rfl rfl rfl ?_
              refine AL.p (by exact g_not rfl) rfl ?_
              refine AL.p (by exact g_pickF (r := .d _) rfl rfl) rfl ?_
              refine AL.nil ?_
              refine th_n ?_
              refine AC.condB rfl (fun h5 => ?_) (fun h5 => ?_)
              · refine AC.seq ?_
                refine AC.region ?_
                refine AL.p (by exact as1 rfl) rfl ?_
                refine AL.nil ?_
                refine th_n ?_
                refine AC.ret ?_
                refine ib_r ?_
                refine th_r ?_
                refine th_r ?_
                refine ib_r ?_
                refine th_r ?_
                refine bq_r ?_
                have hbad : burV m.sigs v m.burs[k] = false := by clear hall hF hS hL1 hL2 hW1 hW2 hX1 hKs hC5 hget hbv hv2 hst2; rw [hB]; simp_all
                have hno : formB m = false := by { cases f2 with | false => rw [hF]; simp | true => rw [hF, List.all_eq_false.2 ⟨_, hmem, by rw [hbv rfl, hbad]; exact Bool.false_ne_true⟩]; rfl }
                exact ret1 rfl (by rw [hno])
              · refine AC.skip ?_
                refine ib_n ?_
                refine th_n ?_
                refine AC.region ?_
                refine AL.p (by exact g_arith rfl rfl rfl (by exact wrap_i64 (by omega))) rfl ?_
                refine AL.p (by exact mv1 rfl) rfl ?_
                refine AL.nil ?_
                refine th_n ?_
                have hgood : burV m.sigs v m.burs[k] = true := by clear hall hF hS hL1 hL2 hW1 hW2 hX1 hKs hC5 hget hbv hv2 hst2; rw [hB]; simp_all
                exact ⟨k + 1, ⟨by omega, fun j hj hj2 => by rcases Nat.lt_succ_iff_lt_or_eq.1 hj2 with h | rfl; exact hall j hj h; exact hgood⟩, by omega, Weak.ren _ [] hC rfl (by repeat (first | exact True.intro | refine And.intro ?_ ?_ | exact DLead.same)) (by repeat (exact True.intro)) rfl rfl rfl⟩
    · refine AC.exit ?_
      refine th_e ?_
      refine th_e ?_
      refine ib_y ?_
      refine th_n ?_
      refine AC.seq ?_
      have hA : f2 = true → m.burs.all (burB m.sigs m.states) = true := fun h => List.all_eq_true.2 (fun x hx => by obtain ⟨j, hj, rfl⟩ := List.getElem_of_mem hx; rw [hbv h]; exact hall j hj (by omega))
      have hF2 : formB m = (f1 && (f2 && (decide ((m.burs.length : Int) ≤ 6) && f4))) := by { cases f2 with | false => rw [hF]; simp | true => rw [hF, hA rfl, Bool.true_and] }
      refine AC.region ?_
      refine AL.p (by exact g_fa_ref rfl rfl rfl rfl rfl rfl) rfl ?_
      refine AL.p (by exact g_load_ref rfl rfl rfl) rfl ?_
      refine AL.q (by exact h_pure en_l24Kinds rfl rfl (by repeat (first | exact rfl | exact DLead.same | refine ⟨_, _, rfl, ?_, ?_⟩)) hKs rfl) rfl ?_
      refine AL.p (by exact mv1 rfl) rfl ?_
      refine AL.caseGB rfl rfl (fun h1 => ?_) (fun h1 => ?_)
      · refine AL.yes rfl rfl rfl ?_
        refine AL.p (by exact g_fa_ref rfl rfl rfl rfl rfl rfl) rfl ?_
        refine AL.yes rfl rfl rfl ?_
        refine AL.p (by exact g_load_ref rfl rfl rfl) rfl ?_
        refine AL.yes rfl rfl rfl ?_
        refine AL.q (by exact h_pure en_l1In rfl rfl (by repeat (first | exact rfl | exact DLead.same | refine ⟨_, _, rfl, ?_, ?_⟩)) hX1 rfl) rfl ?_
        refine AL.p (by exact g_pickT (r := .d _) rfl rfl) rfl ?_
        refine AL.p (by exact mv1 rfl) rfl ?_
        refine AL.caseGB rfl rfl (fun h2 => ?_) (fun h2 => ?_)
        · refine AL.yes rfl rfl rfl ?_
          refine AL.p (by exact g_fa_ref rfl rfl rfl rfl rfl rfl) rfl ?_
          refine AL.yes rfl rfl rfl ?_
          refine AL.p (by exact g_load_ref rfl rfl rfl) rfl ?_
          refine AL.yes rfl rfl rfl ?_
          refine AL.p (by exact g_len_view rfl rfl (by exact List.length_map _)) rfl ?_
          refine AL.yes rfl rfl rfl ?_
          refine AL.p (by exact g_cmp rfl rfl rfl) rfl ?_
          refine AL.p (by exact g_pickT (r := .d _) rfl rfl) rfl ?_
          refine AL.p (by exact mv1 rfl) rfl ?_
          refine AL.caseG rfl rfl (fun h3 => ?_) (fun h3 => ?_)
          · refine AL.yes rfl rfl rfl ?_
            refine AL.p (by exact g_fa_ref rfl rfl rfl rfl rfl rfl) rfl ?_
            refine AL.yes rfl rfl rfl ?_
            refine AL.p (by exact g_load_ref rfl rfl rfl) rfl ?_
            refine AL.yes rfl rfl rfl ?_
            refine AL.p (by exact g_fa_ref rfl rfl rfl rfl rfl rfl) rfl ?_
            refine AL.yes rfl rfl rfl ?_
            refine AL.p (by exact g_load_ref rfl rfl rfl) rfl ?_
            refine AL.yes rfl rfl rfl ?_
            refine AL.p (by exact g_len_view rfl rfl (by exact List.length_map _)) rfl ?_
            refine AL.yes rfl rfl rfl ?_
            refine AL.q (by exact h_pure en_l5Code rfl rfl (by repeat (first | exact rfl | exact DLead.same | refine ⟨_, _, rfl, ?_, ?_⟩)) hC5 rfl) rfl ?_
            refine AL.p (by exact g_pickT (r := .d _) rfl rfl) rfl ?_
            refine AL.p (by exact as1 rfl) rfl ?_
            refine AL.nil ?_
            refine th_n ?_
            refine AC.ret ?_
            refine bq_r ?_
            exact ret1 rfl (by clear hall hS hX1 hKs hC5 hA hF hbv hv2 hst2; rw [hF2]; simp_all <;> intros <;> omega)
          · refine AL.not rfl rfl rfl rfl rfl ?_
            refine AL.not rfl rfl rfl rfl rfl ?_
            refine AL.not rfl rfl rfl rfl rfl ?_
            refine AL.not rfl rfl rfl rfl rfl ?_
            refine AL.not rfl rfl rfl rfl rfl ?_
            refine AL.not rfl rfl rfl rfl rfl ?_
            refine AL.p (by exact g_pickF (r := .d _) rfl rfl) rfl ?_
            refine AL.p (by exact as1 rfl) rfl ?_
            refine AL.nil ?_
            refine th_n ?_
            refine AC.ret ?_
            refine bq_r ?_
            exact ret1 rfl (by clear hall hS hX1 hKs hC5 hA hF hbv hv2 hst2; rw [hF2]; simp_all <;> intros <;> omega)
        · refine AL.not rfl rfl rfl rfl rfl ?_
          refine AL.not rfl rfl rfl rfl rfl ?_
          refine AL.not rfl rfl rfl rfl rfl ?_
          refine AL.not rfl rfl rfl rfl rfl ?_
          refine AL.p (by exact g_pickF (r := .d _) rfl rfl) rfl ?_
          refine AL.p (by exact mv1 rfl) rfl ?_
          refine AL.not rfl rfl rfl rfl rfl ?_
          refine AL.not rfl rfl rfl rfl rfl ?_
          refine AL.not rfl rfl rfl rfl rfl ?_
          refine AL.not rfl rfl rfl rfl rfl ?_
          refine AL.not rfl rfl rfl rfl rfl ?_
          refine AL.not rfl rfl rfl rfl rfl ?_
          refine AL.p (by exact g_pickF (r := .d _) rfl rfl) rfl ?_
          refine AL.p (by exact as1 rfl) rfl ?_
          refine AL.nil ?_
          refine th_n ?_
          refine AC.ret ?_
          refine bq_r ?_
          exact ret1 rfl (by clear hall hS hX1 hKs hC5 hA hF hbv hv2 hst2; rw [hF2]; simp_all <;> intros <;> omega)
      · refine AL.not rfl rfl rfl rfl rfl ?_
        refine AL.not rfl rfl rfl rfl rfl ?_
        refine AL.not rfl rfl rfl rfl rfl ?_
        refine AL.p (by exact g_pickF (r := .d _) rfl rfl) rfl ?_
        refine AL.p (by exact mv1 rfl) rfl ?_
        refine AL.not rfl rfl rfl rfl rfl ?_
        refine AL.not rfl rfl rfl rfl rfl ?_
        refine AL.not rfl rfl rfl rfl rfl ?_
        refine AL.not rfl rfl rfl rfl rfl ?_
        refine AL.p (by exact g_pickF (r := .d _) rfl rfl) rfl ?_
        refine AL.p (by exact mv1 rfl) rfl ?_
        refine AL.not rfl rfl rfl rfl rfl ?_
        refine AL.not rfl rfl rfl rfl rfl ?_
        refine AL.not rfl rfl rfl rfl rfl ?_
        refine AL.not rfl rfl rfl rfl rfl ?_
        refine AL.not rfl rfl rfl rfl rfl ?_
        refine AL.not rfl rfl rfl rfl rfl ?_
        refine AL.p (by exact g_pickF (r := .d _) rfl rfl) rfl ?_
        refine AL.p (by exact as1 rfl) rfl ?_
        refine AL.nil ?_
        refine th_n ?_
        refine AC.ret ?_
        refine bq_r ?_
        exact ret1 rfl (by clear hall hS hX1 hKs hC5 hA hF hbv hv2 hst2; rw [hF2]; simp_all <;> intros <;> omega)
theorem en_l24Form : Enters Try.prog 28 := enters_of Try.func28 rfl rfl
/-- The codes that go with the word. -/
def mcD (m : Mach) : DV := if formB m = true then cdD m else .val (.slice none 0 0)
set_option maxHeartbeats 4000000 in
theorem machCodes_spec (m : Mach) (hS : SmM m) : ASpec Try.prog 34 [machA m] [] (Pure1 (.tup [.d (mcD m), aT (goodM m)])) := by
  have hst := hS.st
  have hfi := hS.f
  have hsl := hS.s
  have hbl := hS.b
  have hF := formB_eq m
  have hKs := areSignals_spec m.sigs hS.s hS.sn
  have hX1 := within_spec m.states 1 6
  have hC5 := isBits_spec m.first m.sigs.length (by omega)
  have hCt := containsSig_spec m.sigs (by omega) 48 [] en_machCodes1 (fun s => decide (s.kind = 3)) (fun t _ => machCodes1_spec t)
  have hka := kinds_any (l := m.sigs)
  have hmx := isMaximal_spec m.burs hS.b hS.bl
  have hcs := fun h => codesOf_spec m hS (formB_iff h)
  have hgm : goodM m = (formB m && (okCodes m && maxB m.burs)) := rfl
  obtain ⟨f0, hf0⟩ : ∃ f, f = kindsB m.sigs := ⟨_, rfl⟩
  obtain ⟨f1, hf1⟩ : ∃ f, f = sigsB m.sigs := ⟨_, rfl⟩
  obtain ⟨f2, hf2⟩ : ∃ f, f = (decide ((1 : Int) ≤ m.states) && decide (m.states ≤ 6)) := ⟨_, rfl⟩
  obtain ⟨f4, hf4⟩ : ∃ f, f = bitsB m.first m.sigs.length := ⟨_, rfl⟩
  obtain ⟨f5, hf5⟩ : ∃ f, f = m.sigs.any (fun s => decide (s.kind = 3)) := ⟨_, rfl⟩
  rw [← hf0] at hF hka
  rw [← hf1] at hF hKs hka
  rw [← hf2] at hF hX1
  rw [← hf4] at hF hC5
  rw [← hf5] at hCt hka
  have hst2 : f2 = true → 1 ≤ m.states ∧ m.states ≤ 6 := by rw [hf2]; simp
  clear hf0 hf1 hf2 hf4 hf5
  refine ASpec.of Try.func34 rfl rfl fun C hC => ?_
  refine AC.seq ?_
  refine AC.region ?_
  refine AL.q (by exact h_boxF rfl rfl) rfl ?_
  refine AL.p (by exact as1 rfl) rfl ?_
  refine AL.p (by exact as1 rfl) rfl ?_
  refine AL.nil ?_
  refine th_n ?_
  refine AC.seq ?_
  refine AC.seq ?_
  refine AC.region ?_
  refine AL.p (by exact g_fa_ref rfl rfl rfl rfl rfl rfl) rfl ?_
  refine AL.p (by exact g_load_ref rfl rfl rfl) rfl ?_
  refine AL.q (by exact h_pure en_areSignals rfl rfl (by repeat (first | exact rfl | exact DLead.same | refine ⟨_, _, rfl, ?_, ?_⟩)) hKs rfl) rfl ?_
  refine AL.p (by exact g_not rfl) rfl ?_
  refine AL.p (by exact mv1 rfl) rfl ?_
  refine AL.caseGB rfl rfl (fun h0 => ?_) (fun h0 => ?_)
  · refine AL.not rfl rfl rfl rfl rfl ?_
    refine AL.not rfl rfl rfl rfl rfl ?_
    refine AL.not rfl rfl rfl rfl rfl ?_
    refine AL.not rfl rfl rfl rfl rfl ?_
    refine AL.p (by exact g_pickT (r := .d _) rfl rfl) rfl ?_
    refine AL.p (by exact mv1 rfl) rfl ?_
    refine AL.not rfl rfl rfl rfl rfl ?_
    refine AL.not rfl rfl rfl rfl rfl ?_
    refine AL.not rfl rfl rfl rfl rfl ?_
    refine AL.not rfl rfl rfl rfl rfl ?_
    refine AL.p (by exact g_pickT (r := .d _) rfl rfl) rfl ?_
    refine AL.p (by exact mv1 rfl) rfl ?_
    refine AL.not rfl rfl rfl rfl rfl ?_
    refine AL.not rfl rfl rfl rfl rfl ?_
    refine AL.not rfl rfl rfl rfl rfl ?_
    refine AL.not rfl rfl rfl rfl rfl ?_
    refine AL.not rfl rfl rfl rfl rfl ?_
    refine AL.not rfl rfl rfl rfl rfl ?_
    refine AL.not rfl rfl rfl rfl rfl ?_
    refine AL.p (by exact g_pickT (r := .d _) rfl rfl) rfl ?_
    refine AL.p (by exact mv1 rfl) rfl ?_
    refine AL.not rfl rfl rfl rfl rfl ?_
    refine AL.not rfl rfl rfl rfl rfl ?_
    refine AL.not rfl rfl rfl rfl rfl ?_
    refine AL.p (by exact g_pickT (r := .d _) rfl rfl) rfl ?_
    refine AL.nil ?_
    refine th_n ?_
    refine AC.condT rfl ?_
    refine AC.seq ?_
    refine AC.region ?_
    refine AL.p (by exact as1 rfl) rfl ?_
    refine AL.p (by exact as1 rfl) rfl ?_
    refine AL.nil ?_
    refine th_n ?_
    refine AC.ret ?_
    refine th_r ?_
    refine bq_r ?_
    have hno : formB m = false := by clear hS hKs hX1 hC5 hCt hmx hcs hgm; rw [hF]; simp_all <;> intros <;> omega
    exact ret2 rfl (by rw [mcD, hno, if_neg Bool.false_ne_true]) (by rw [hgm, hno]; rfl)
  · refine AL.yes rfl rfl rfl ?_
    refine AL.p (by exact g_fa_ref rfl rfl rfl rfl rfl rfl) rfl ?_
    refine AL.yes rfl rfl rfl ?_
    refine AL.p (by exact g_load_ref rfl rfl rfl) rfl ?_
    refine AL.yes rfl rfl rfl ?_
    refine AL.q (by exact h_pure en_within rfl rfl (by repeat (first | exact rfl | exact DLead.same | refine ⟨_, _, rfl, ?_, ?_⟩)) hX1 rfl) rfl ?_
    refine AL.yes rfl rfl rfl ?_
    refine AL.p (by exact g_not rfl) rfl ?_
    refine AL.p (by exact g_pickF (r := .d _) rfl rfl) rfl ?_
    refine AL.p (by exact mv1 rfl) rfl ?_
    refine AL.caseGB rfl rfl (fun h1 => ?_) (fun h1 => ?_)
    · refine AL.not rfl rfl rfl rfl rfl ?_
      refine AL.not rfl rfl rfl rfl rfl ?_
      refine AL.not rfl rfl rfl rfl rfl ?_
      refine AL.not rfl rfl rfl rfl rfl ?_
      refine AL.p (by exact g_pickT (r := .d _) rfl rfl) rfl ?_
      refine AL.p (by exact mv1 rfl) rfl ?_
      refine AL.not rfl rfl rfl rfl rfl ?_
      refine AL.not rfl rfl rfl rfl rfl ?_
      refine AL.not rfl rfl rfl rfl rfl ?_
      refine AL.not rfl rfl rfl rfl rfl ?_
      refine AL.not rfl rfl rfl rfl rfl ?_
      refine AL.not rfl rfl rfl rfl rfl ?_
      refine AL.not rfl rfl rfl rfl rfl ?_
      refine AL.p (by exact g_pickT (r := .d _) rfl rfl) rfl ?_
      refine AL.p (by exact mv1 rfl) rfl ?_
      refine AL.not rfl rfl rfl rfl rfl ?_
      refine AL.not rfl rfl rfl rfl rfl ?_
      refine AL.not rfl rfl rfl rfl rfl ?_
      refine AL.p (by exact g_pickT (r := .d _) rfl rfl) rfl ?_
      refine AL.nil ?_
      refine th_n ?_
      refine AC.condT rfl ?_
      refine AC.seq ?_
      refine AC.region ?_
      refine AL.p (by exact as1 rfl) rfl ?_
      refine AL.p (by exact as1 rfl) rfl ?_
      refine AL.nil ?_
      refine th_n ?_
      refine AC.ret ?_
      refine th_r ?_
      refine bq_r ?_
      have hno : formB m = false := by clear hS hKs hX1 hC5 hCt hmx hcs hgm; rw [hF]; simp_all <;> intros <;> omega
      exact ret2 rfl (by rw [mcD, hno, if_neg Bool.false_ne_true]) (by rw [hgm, hno]; rfl)
    · refine AL.yes rfl rfl rfl ?_
      refine AL.p (by exact g_fa_ref rfl rfl rfl rfl rfl rfl) rfl ?_
      refine AL.yes rfl rfl rfl ?_
      refine AL.p (by exact g_load_ref rfl rfl rfl) rfl ?_
      refine AL.yes rfl rfl rfl ?_
      refine AL.p (by exact g_len_view rfl rfl (by exact List.length_map _)) rfl ?_
      refine AL.yes rfl rfl rfl ?_
      refine AL.p (by exact g_cmp rfl rfl rfl) rfl ?_
      refine AL.p (by exact g_pickF (r := .d _) rfl rfl) rfl ?_
      refine AL.p (by exact mv1 rfl) rfl ?_
      refine AL.caseG rfl rfl (fun h2 => ?_) (fun h2 => ?_)
      · refine AL.not rfl rfl rfl rfl rfl ?_
        refine AL.not rfl rfl rfl rfl rfl ?_
        refine AL.not rfl rfl rfl rfl rfl ?_
        refine AL.not rfl rfl rfl rfl rfl ?_
        refine AL.not rfl rfl rfl rfl rfl ?_
        refine AL.not rfl rfl rfl rfl rfl ?_
        refine AL.not rfl rfl rfl rfl rfl ?_
        refine AL.p (by exact g_pickT (r := .d _) rfl rfl) rfl ?_
        refine AL.p (by exact mv1 rfl) rfl ?_
        refine AL.not rfl rfl rfl rfl rfl ?_
        refine AL.not rfl rfl rfl rfl rfl ?_
        refine AL.not rfl rfl rfl rfl rfl ?_
        refine AL.p (by exact g_pickT (r := .d _) rfl rfl) rfl ?_
        refine AL.nil ?_
        refine th_n ?_
        refine AC.condT rfl ?_
        refine AC.seq ?_
        refine AC.region ?_
        refine AL.p (by exact as1 rfl) rfl ?_
        refine AL.p (by exact as1 rfl) rfl ?_
        refine AL.nil ?_
        refine th_n ?_
        refine AC.ret ?_
        refine th_r ?_
        refine bq_r ?_
        have hno : formB m = false := by clear hS hKs hX1 hC5 hCt hmx hcs hgm; rw [hF]; simp_all <;> intros <;> omega
        exact ret2 rfl (by rw [mcD, hno, if_neg Bool.false_ne_true]) (by rw [hgm, hno]; rfl)
      · refine AL.yes rfl rfl rfl ?_
        refine AL.p (by exact g_fa_ref rfl rfl rfl rfl rfl rfl) rfl ?_
        refine AL.yes rfl rfl rfl ?_
        refine AL.p (by exact g_load_ref rfl rfl rfl) rfl ?_
        refine AL.yes rfl rfl rfl ?_
        refine AL.p (by exact g_fa_ref rfl rfl rfl rfl rfl rfl) rfl ?_
        refine AL.yes rfl rfl rfl ?_
        refine AL.p (by exact g_load_ref rfl rfl rfl) rfl ?_
        refine AL.yes rfl rfl rfl ?_
        refine AL.p (by exact g_len_view rfl rfl (by exact List.length_map _)) rfl ?_
        refine AL.yes rfl rfl rfl ?_
        refine AL.q (by exact h_pure en_isBits rfl rfl (by repeat (first | exact rfl | exact DLead.same | refine ⟨_, _, rfl, ?_, ?_⟩)) hC5 rfl) rfl ?_
        refine AL.yes rfl rfl rfl ?_
        refine AL.p (by exact g_not rfl) rfl ?_
        refine AL.p (by exact g_pickF (r := .d _) rfl rfl) rfl ?_
        refine AL.p (by exact mv1 rfl) rfl ?_
        refine AL.caseGB rfl rfl (fun h3 => ?_) (fun h3 => ?_)
        · refine AL.not rfl rfl rfl rfl rfl ?_
          refine AL.not rfl rfl rfl rfl rfl ?_
          refine AL.not rfl rfl rfl rfl rfl ?_
          refine AL.p (by exact g_pickT (r := .d _) rfl rfl) rfl ?_
          refine AL.nil ?_
          refine th_n ?_
          refine AC.condT rfl ?_
          refine AC.seq ?_
          refine AC.region ?_
          refine AL.p (by exact as1 rfl) rfl ?_
          refine AL.p (by exact as1 rfl) rfl ?_
          refine AL.nil ?_
          refine th_n ?_
          refine AC.ret ?_
          refine th_r ?_
          refine bq_r ?_
          have hno : formB m = false := by clear hS hKs hX1 hC5 hCt hmx hcs hgm; rw [hF]; simp_all <;> intros <;> omega
          exact ret2 rfl (by rw [mcD, hno, if_neg Bool.false_ne_true]) (by rw [hgm, hno]; rfl)
        · refine AL.yes rfl rfl rfl ?_
          refine AL.p (by exact g_fa_ref rfl rfl rfl rfl rfl rfl) rfl ?_
          refine AL.yes rfl rfl rfl ?_
          refine AL.p (by exact g_load_ref rfl rfl rfl) rfl ?_
          refine AL.yes rfl rfl rfl ?_
          refine AL.q (by exact h_pure en_containsSig rfl rfl (by exact ⟨_, _, rfl, .same, _, _, rfl, ⟨_, rfl, leadsL_data _ []⟩, rfl⟩) hCt rfl) rfl ?_
          refine AL.p (by exact g_pickF (r := .d _) rfl rfl) rfl ?_
          refine AL.nil ?_
          refine th_n ?_
          refine AC.condB rfl (fun h4 => ?_) (fun h4 => ?_)
          · refine AC.seq ?_
            refine AC.region ?_
            refine AL.p (by exact as1 rfl) rfl ?_
            refine AL.p (by exact as1 rfl) rfl ?_
            refine AL.nil ?_
            refine th_n ?_
            refine AC.ret ?_
            refine th_r ?_
            refine bq_r ?_
            have hno : formB m = false := by clear hS hKs hX1 hC5 hCt hmx hcs hgm; rw [hF]; simp_all <;> intros <;> omega
            exact ret2 rfl (by rw [mcD, hno, if_neg Bool.false_ne_true]) (by rw [hgm, hno]; rfl)
          · refine AC.skip ?_
            refine th_n ?_
            refine AC.seq ?_
            refine AC.seq ?_
            have hs2 := hst2 ((Bool.not_eq_false' _).mp h1)
            refine AC.region ?_
            refine AL.p (by exact g_fa_ref rfl rfl rfl rfl rfl rfl) rfl ?_
            refine AL.p (by exact g_load_ref rfl rfl rfl) rfl ?_
            refine AL.p (by exact g_len_view rfl rfl (by exact List.length_map _)) rfl ?_
            refine AL.p (by exact mv1 rfl) rfl ?_
            refine AL.nil ?_
            refine th_n ?_
            refine AC.block ?_
            refine AC.loop (ι := Nat) (fun k => ⟨96, 0, [(1, .d (.ref (machD m))), (39, .d (vBurs m.burs)), (40, aI m.burs.length), (41, aI k)], []⟩) (fun k => k ≤ m.burs.length ∧ ∀ j (hj : j < m.burs.length), j < k → burB m.sigs m.states m.burs[j] = true) (fun k => m.burs.length - k) (0) ?_ (⟨Nat.zero_le _, fun j _ hj => by omega⟩) ?_
            · refine Weak.ren _ [] hC rfl ?_ ?_ rfl rfl rfl <;> repeat (first | exact True.intro | refine And.intro ?_ ?_ | exact DLead.same)
            · intro k ⟨hk, hall⟩
              refine AC.seq ?_
              refine AC.region ?_
              refine AL.p (by exact g_cmp rfl rfl rfl) rfl ?_
              refine AL.nil ?_
              refine th_n ?_
              refine AC.seq ?_
              refine AC.condD rfl (fun h5 => ?_) (fun h5 => ?_)
              · refine AC.skip ?_
                refine th_n ?_
                refine AC.seq ?_
                refine AC.block ?_
                refine AC.seq ?_
                have hk1 : k < m.burs.length := by omega
                have hget := bursL_get hk1
                have hmem := List.getElem_mem hk1
                have hbl2 := hS.bl _ hmem
                refine AC.region ?_
                refine AL.p (by exact g_ia_view rfl rfl rfl rfl rfl (by rfl) (by assumption)) rfl ?_
                refine AL.p (by exact g_load_refN rfl rfl rfl rfl) rfl ?_
                refine AL.q (by exact h_alloc rfl) rfl ?_
                refine AL.q (by exact h_store rfl rfl rfl rfl rfl rfl) rfl ?_
                refine AL.nil ?_
                refine th_n ?_
                refine AC.seq ?_
                refine AC.weak (Weak.freezeRef (ds := burD m.burs[k]) 5 rfl rfl) ?_
                have hB := burB_eq m.sigs m.states m.burs[k]
                have hW1 := within_spec m.burs[k].from_ 0 (m.states - 1)
                have hW2 := within_spec m.burs[k].to_ 0 (m.states - 1)
                have hL1 := areLabels_spec m.sigs m.burs[k].inn 1 hS.s hbl2.1
                have hL2 := areLabels_spec m.sigs m.burs[k].out 2 hS.s hbl2.2
                obtain ⟨b1, hb1⟩ : ∃ f, f = (decide (0 ≤ m.burs[k].from_) && decide (m.burs[k].from_ ≤ m.states - 1)) := ⟨_, rfl⟩
                obtain ⟨b2, hb2⟩ : ∃ f, f = (decide (0 ≤ m.burs[k].to_) && decide (m.burs[k].to_ ≤ m.states - 1)) := ⟨_, rfl⟩
                obtain ⟨b3, hb3⟩ : ∃ f, f = labsB m.sigs m.burs[k].inn 1 := ⟨_, rfl⟩
                obtain ⟨b4, hb4⟩ : ∃ f, f = labsB m.sigs m.burs[k].out 2 := ⟨_, rfl⟩
                rw [← hb1] at hB hW1
                rw [← hb2] at hB hW2
                rw [← hb3] at hB hL1
                rw [← hb4] at hB hL2
                clear hb1 hb2 hb3 hb4
                refine AC.region ?_
                refine AL.p (by exact g_fa_ref rfl rfl rfl rfl rfl rfl) rfl ?_
                refine AL.p (by exact g_load_ref rfl rfl rfl) rfl ?_
                refine AL.p (by exact g_fa_ref rfl rfl rfl rfl rfl rfl) rfl ?_
                refine AL.p (by exact g_load_ref rfl rfl rfl) rfl ?_
                refine AL.p (by exact g_arith rfl rfl rfl (by exact wrap_i64 (by omega))) rfl ?_
                refine AL.q (by exact h_pure en_within rfl rfl (by repeat (first | exact rfl | exact DLead.same | refine ⟨_, _, rfl, ?_, ?_⟩)) hW1 rfl) rfl ?_
                refine AL.p (by exact g_not rfl) rfl ?_
                refine AL.p (by exact mv1 rfl) rfl ?_
                refine AL.caseGB rfl rfl (fun h6 => ?_) (fun h6 => ?_)
                · refine AL.not rfl rfl rfl rfl rfl ?_
                  refine AL.not rfl rfl rfl rfl rfl ?_
                  refine AL.not rfl rfl rfl rfl rfl ?_
                  refine AL.not rfl rfl rfl rfl rfl ?_
                  refine AL.not rfl rfl rfl rfl rfl ?_
                  refine AL.not rfl rfl rfl rfl rfl ?_
                  refine AL.not rfl rfl rfl rfl rfl ?_
                  refine AL.p (by exact g_pickT (r := .d _) rfl rfl) rfl ?_
                  refine AL.p (by exact mv1 rfl) rfl ?_
                  refine AL.not rfl rfl rfl rfl rfl ?_
                  refine AL.not rfl rfl rfl rfl rfl ?_
                  refine AL.not rfl rfl rfl rfl rfl ?_
                  refine AL.not rfl rfl rfl rfl rfl ?_
                  refine AL.p (by exact g_pickT (r := .d _) rfl rfl) rfl ?_
                  refine AL.p (by exact mv1 rfl) rfl ?_
                  refine AL.not rfl rfl rfl rfl rfl ?_
                  refine AL.not rfl rfl rfl rfl rfl ?_
                  refine AL.not rfl rfl rfl rfl rfl ?_
                  refine AL.not rfl rfl rfl rfl rfl ?_
                  refine AL.not rfl rfl rfl rfl rfl ?_
                  refine AL.not rfl rfl rfl rfl rfl ?_
                  refine AL.p (by exact g_pickT (r := .d _) rfl rfl) rfl ?_
                  refine AL.p (by exact mv1 rfl) rfl ?_
                  refine AL.not rfl rfl rfl rfl rfl ?_
                  refine AL.not rfl rfl rfl rfl rfl ?_
                  refine AL.not rfl rfl rfl rfl rfl ?_
                  refine AL.not rfl rfl rfl rfl rfl ?_
                  refine AL.not rfl rfl rfl rfl rfl ?_
                  refine AL.not rfl rfl rfl rfl rfl ?_
                  refine AL.p (by exact g_pickT (r := .d _) rfl rfl) rfl ?_
                  refine AL.nil ?_
                  refine th_n ?_
                  refine AC.condT rfl ?_
                  refine AC.seq ?_
                  refine AC.region ?_
                  refine AL.p (by exact as1 rfl) rfl ?_
                  refine AL.p (by exact as1 rfl) rfl ?_
                  refine AL.nil ?_
                  refine th_n ?_
                  refine AC.ret ?_
                  refine ib_r ?_
                  refine th_r ?_
                  refine th_r ?_
                  refine ib_r ?_
                  refine th_r ?_
                  refine bq_r ?_
                  have hbad : burB m.sigs m.states m.burs[k] = false := by clear hall hF hS hL1 hL2 hW1 hW2 hX1 hKs hC5 hCt hmx hcs hgm hka hget; rw [hB]; simp_all
                  have hno : formB m = false := by rw [hF, List.all_eq_false.2 ⟨_, hmem, by rw [hbad]; exact Bool.false_ne_true⟩]; rfl
                  exact ret2 rfl (by rw [mcD, hno, if_neg Bool.false_ne_true]) (by rw [hgm, hno]; rfl)
                · refine AL.yes rfl rfl rfl ?_
                  refine AL.p (by exact g_fa_ref rfl rfl rfl rfl rfl rfl) rfl ?_
                  refine AL.yes rfl rfl rfl ?_
                  refine AL.p (by exact g_load_ref rfl rfl rfl) rfl ?_
                  refine AL.yes rfl rfl rfl ?_
                  refine AL.p (by exact g_fa_ref rfl rfl rfl rfl rfl rfl) rfl ?_
                  refine AL.yes rfl rfl rfl ?_
                  refine AL.p (by exact g_load_ref rfl rfl rfl) rfl ?_
                  refine AL.yes rfl rfl rfl ?_
                  refine AL.p (by exact g_arith rfl rfl rfl (by exact wrap_i64 (by omega))) rfl ?_
                  refine AL.yes rfl rfl rfl ?_
                  refine AL.q (by exact h_pure en_within rfl rfl (by repeat (first | exact rfl | exact DLead.same | refine ⟨_, _, rfl, ?_, ?_⟩)) hW2 rfl) rfl ?_
                  refine AL.yes rfl rfl rfl ?_
                  refine AL.p (by exact g_not rfl) rfl ?_
                  refine AL.p (by exact g_pickF (r := .d _) rfl rfl) rfl ?_
                  refine AL.p (by exact mv1 rfl) rfl ?_
                  refine AL.caseGB rfl rfl (fun h7 => ?_) (fun h7 => ?_)
                  · refine AL.not rfl rfl rfl rfl rfl ?_
                    refine AL.not rfl rfl rfl rfl rfl ?_
                    refine AL.not rfl rfl rfl rfl rfl ?_
                    refine AL.not rfl rfl rfl rfl rfl ?_
                    refine AL.p (by exact g_pickT (r := .d _) rfl rfl) rfl ?_
                    refine AL.p (by exact mv1 rfl) rfl ?_
                    refine AL.not rfl rfl rfl rfl rfl ?_
                    refine AL.not rfl rfl rfl rfl rfl ?_
                    refine AL.not rfl rfl rfl rfl rfl ?_
                    refine AL.not rfl rfl rfl rfl rfl ?_
                    refine AL.not rfl rfl rfl rfl rfl ?_
                    refine AL.not rfl rfl rfl rfl rfl ?_
                    refine AL.p (by exact g_pickT (r := .d _) rfl rfl) rfl ?_
                    refine AL.p (by exact mv1 rfl) rfl ?_
                    refine AL.not rfl rfl rfl rfl rfl ?_
                    refine AL.not rfl rfl rfl rfl rfl ?_
                    refine AL.not rfl rfl rfl rfl rfl ?_
                    refine AL.not rfl rfl rfl rfl rfl ?_
                    refine AL.not rfl rfl rfl rfl rfl ?_
                    refine AL.not rfl rfl rfl rfl rfl ?_
                    refine AL.p (by exact g_pickT (r := .d _) rfl rfl) rfl ?_
                    refine AL.nil ?_
                    refine th_n ?_
                    refine AC.condT rfl ?_
                    refine AC.seq ?_
                    refine AC.region ?_
                    refine AL.p (by exact as1 rfl) rfl ?_
                    refine AL.p (by exact as1 rfl) rfl ?_
                    refine AL.nil ?_
                    refine th_n ?_
                    refine AC.ret ?_
                    refine ib_r ?_
                    refine th_r ?_
                    refine th_r ?_
                    refine ib_r ?_
                    refine th_r ?_
                    refine bq_r ?_
                    have hbad : burB m.sigs m.states m.burs[k] = false := by clear hall hF hS hL1 hL2 hW1 hW2 hX1 hKs hC5 hCt hmx hcs hgm hka hget; rw [hB]; simp_all
                    have hno : formB m = false := by rw [hF, List.all_eq_false.2 ⟨_, hmem, by rw [hbad]; exact Bool.false_ne_true⟩]; rfl
                    exact ret2 rfl (by rw [mcD, hno, if_neg Bool.false_ne_true]) (by rw [hgm, hno]; rfl)
                  · refine AL.yes rfl rfl rfl ?_
                    refine AL.p (by exact g_fa_ref rfl rfl rfl rfl rfl rfl) rfl ?_
                    refine AL.yes rfl rfl rfl ?_
                    refine AL.p (by exact g_load_ref rfl rfl rfl) rfl ?_
                    refine AL.yes rfl rfl rfl ?_
                    refine AL.p (by exact g_len_view rfl rfl (by exact List.length_map _)) rfl ?_
                    refine AL.yes rfl rfl rfl ?_
                    refine AL.p (by exact g_cmp rfl rfl rfl) rfl ?_
                    refine AL.p (by exact g_pickF (r := .d _) rfl rfl) rfl ?_
                    refine AL.p (by exact mv1 rfl) rfl ?_
                    refine AL.caseG rfl rfl (fun h8 => ?_) (fun h8 => ?_)
                    · refine AL.not rfl rfl rfl rfl rfl ?_
                      refine AL.not rfl rfl rfl rfl rfl ?_
                      refine AL.not rfl rfl rfl rfl rfl ?_
                      refine AL.not rfl rfl rfl rfl rfl ?_
                      refine AL.not rfl rfl rfl rfl rfl ?_
                      refine AL.not rfl rfl rfl rfl rfl ?_
                      refine AL.p (by exact g_pickT (r := .d _) rfl rfl) rfl ?_
                      refine AL.p (by exact mv1 rfl) rfl ?_
                      refine AL.not rfl rfl rfl rfl rfl ?_
                      refine AL.not rfl rfl rfl rfl rfl ?_
                      refine AL.not rfl rfl rfl rfl rfl ?_
                      refine AL.not rfl rfl rfl rfl rfl ?_
                      refine AL.not rfl rfl rfl rfl rfl ?_
                      refine AL.not rfl rfl rfl rfl rfl ?_
                      refine AL.p (by exact g_pickT (r := .d _) rfl rfl) rfl ?_
                      refine AL.nil ?_
                      refine th_n ?_
                      refine AC.condT rfl ?_
                      refine AC.seq ?_
                      refine AC.region ?_
                      refine AL.p (by exact as1 rfl) rfl ?_
                      refine AL.p (by exact as1 rfl) rfl ?_
                      refine AL.nil ?_
                      refine th_n ?_
                      refine AC.ret ?_
                      refine ib_r ?_
                      refine th_r ?_
                      refine th_r ?_
                      refine ib_r ?_
                      refine th_r ?_
                      refine bq_r ?_
                      have hbad : burB m.sigs m.states m.burs[k] = false := by clear hall hF hS hL1 hL2 hW1 hW2 hX1 hKs hC5 hCt hmx hcs hgm hka hget; rw [hB]; simp_all
                      have hno : formB m = false := by rw [hF, List.all_eq_false.2 ⟨_, hmem, by rw [hbad]; exact Bool.false_ne_true⟩]; rfl
                      exact ret2 rfl (by rw [mcD, hno, if_neg Bool.false_ne_true]) (by rw [hgm, hno]; rfl)
                    · refine AL.yes rfl rfl rfl ?_
                      refine AL.p (by exact g_fa_ref rfl rfl rfl rfl rfl rfl) rfl ?_
                      refine AL.yes rfl rfl rfl ?_
                      refine AL.p (by exact g_load_ref rfl rfl rfl) rfl ?_
                      refine AL.yes rfl rfl rfl ?_
                      refine AL.p (by exact g_fa_ref rfl rfl rfl rfl rfl rfl) rfl ?_
                      refine AL.yes rfl rfl rfl ?_
                      refine AL.p (by exact g_load_ref rfl rfl rfl) rfl ?_
                      refine AL.yes rfl rfl rfl ?_
                      refine AL.q (by exact h_pure en_areLabels rfl rfl (by repeat (first | exact rfl | exact DLead.same | refine ⟨_, _, rfl, ?_, ?_⟩)) hL1 rfl) rfl ?_
                      refine AL.yes rfl rfl rfl ?_
                      refine AL.p (by exact g_not rfl) rfl ?_
                      refine AL.p (by exact g_pickF (r := .d _) rfl rfl) rfl ?_
                      refine AL.p (by exact mv1 rfl) rfl ?_
                      refine AL.caseGB rfl rfl (fun h9 => ?_) (fun h9 => ?_)
                      · refine AL.not rfl rfl rfl rfl rfl ?_
                        refine AL.not rfl rfl rfl rfl rfl ?_
                        refine AL.not rfl rfl rfl rfl rfl ?_
                        refine AL.not rfl rfl rfl rfl rfl ?_
                        refine AL.not rfl rfl rfl rfl rfl ?_
                        refine AL.not rfl rfl rfl rfl rfl ?_
                        refine AL.p (by exact g_pickT (r := .d _) rfl rfl) rfl ?_
                        refine AL.nil ?_
                        refine th_n ?_
                        refine AC.condT rfl ?_
                        refine AC.seq ?_
                        refine AC.region ?_
                        refine AL.p (by exact as1 rfl) rfl ?_
                        refine AL.p (by exact as1 rfl) rfl ?_
                        refine AL.nil ?_
                        refine th_n ?_
                        refine AC.ret ?_
                        refine ib_r ?_
                        refine th_r ?_
                        refine th_r ?_
                        refine ib_r ?_
                        refine th_r ?_
                        refine bq_r ?_
                        have hbad : burB m.sigs m.states m.burs[k] = false := by clear hall hF hS hL1 hL2 hW1 hW2 hX1 hKs hC5 hCt hmx hcs hgm hka hget; rw [hB]; simp_all
                        have hno : formB m = false := by rw [hF, List.all_eq_false.2 ⟨_, hmem, by rw [hbad]; exact Bool.false_ne_true⟩]; rfl
                        exact ret2 rfl (by rw [mcD, hno, if_neg Bool.false_ne_true]) (by rw [hgm, hno]; rfl)
                      · refine AL.yes rfl rfl rfl ?_
                        refine AL.p (by exact g_fa_ref rfl rfl rfl rfl rfl rfl) rfl ?_
                        refine AL.yes rfl rfl rfl ?_
                        refine AL.p (by exact g_load_ref rfl rfl rfl) rfl ?_
                        refine AL.yes rfl rfl rfl ?_
                        refine AL.p (by exact g_fa_ref rfl rfl rfl rfl rfl rfl) rfl ?_
                        refine AL.yes rfl rfl rfl ?_
                        refine AL.p (by exact g_load_ref rfl rfl rfl) rfl ?_
                        refine AL.yes rfl rfl rfl ?_
                        refine AL.q (by exact h_pure en_areLabels rfl rfl (by repeat (first | exact rfl | exact DLead.same | refine ⟨_, _, rfl, ?_, ?_⟩)) hL2 rfl) rfl ?_
                        refine AL.yes rfl rfl rfl ?_
                        refine AL.p (by exact g_not rfl) rfl ?_
                        refine AL.p (by exact g_pickF (r := .d _) rfl rfl) rfl ?_
                        refine AL.nil ?_
                        refine th_n ?_
                        refine AC.condB rfl (fun h10 => ?_) (fun h10 => ?_)
                        · refine AC.seq ?_
                          refine AC.region ?_
                          refine AL.p (by exact as1 rfl) rfl ?_
                          refine AL.p (by exact as1 rfl) rfl ?_
                          refine AL.nil ?_
                          refine th_n ?_
                          refine AC.ret ?_
                          refine ib_r ?_
                          refine th_r ?_
                          refine th_r ?_
                          refine ib_r ?_
                          refine th_r ?_
                          refine bq_r ?_
                          have hbad : burB m.sigs m.states m.burs[k] = false := by clear hall hF hS hL1 hL2 hW1 hW2 hX1 hKs hC5 hCt hmx hcs hgm hka hget; rw [hB]; simp_all
                          have hno : formB m = false := by rw [hF, List.all_eq_false.2 ⟨_, hmem, by rw [hbad]; exact Bool.false_ne_true⟩]; rfl
                          exact ret2 rfl (by rw [mcD, hno, if_neg Bool.false_ne_true]) (by rw [hgm, hno]; rfl)
                        · refine AC.skip ?_
                          refine ib_n ?_
                          refine th_n ?_
                          refine AC.region ?_
                          refine AL.p (by exact g_arith rfl rfl rfl (by exact wrap_i64 (by omega))) rfl ?_
                          refine AL.p (by exact mv1 rfl) rfl ?_
                          refine AL.nil ?_
                          refine th_n ?_
                          have hgood : burB m.sigs m.states m.burs[k] = true := by clear hall hF hS hL1 hL2 hW1 hW2 hX1 hKs hC5 hCt hmx hcs hgm hka hget; rw [hB]; simp_all
                          exact ⟨k + 1, ⟨by omega, fun j hj hj2 => by rcases Nat.lt_succ_iff_lt_or_eq.1 hj2 with h | rfl; exact hall j hj h; exact hgood⟩, by omega, Weak.ren _ [] hC rfl (by repeat (first | exact True.intro | refine And.intro ?_ ?_ | exact DLead.same)) (by repeat (exact True.intro)) rfl rfl rfl⟩
              · refine AC.exit ?_
                refine th_e ?_
                refine th_e ?_
                refine ib_y ?_
                refine th_n ?_
                refine AC.seq ?_
                have hA : m.burs.all (burB m.sigs m.states) = true := List.all_eq_true.2 (fun x hx => by obtain ⟨j, hj, rfl⟩ := List.getElem_of_mem hx; exact hall j hj (by omega))
                rw [hA, Bool.true_and] at hF
                have hyes : formB m = true := by clear hall hS hX1 hKs hC5 hCt hmx hcs hgm hA; rw [hF]; simp_all
                have hCo := hcs hyes
                have hmc : mcD m = cdD m := by rw [mcD, if_pos hyes]
                rw [hyes, Bool.true_and] at hgm
                obtain ⟨oc, hoc⟩ : ∃ f, f = okCodes m := ⟨_, rfl⟩
                rw [← hoc] at hCo hgm
                obtain ⟨mx, hmxe⟩ : ∃ f, f = maxB m.burs := ⟨_, rfl⟩
                rw [← hmxe] at hmx hgm
                refine AC.region ?_
                refine AL.p (by exact g_load_refN rfl rfl rfl rfl) rfl ?_
                refine AL.q (by exact h_pure en_codesOf rfl rfl (by repeat (first | exact rfl | exact DLead.same | refine ⟨_, _, rfl, ?_, ?_⟩ | refine ⟨_, rfl, ?_⟩)) hCo rfl) rfl ?_
                refine AL.p (by exact mv5 rfl) rfl ?_
                refine AL.p (by exact g_extract (r := .d _) rfl rfl) rfl ?_
                refine AL.p (by exact g_extract (r := .d _) rfl rfl) rfl ?_
                refine AL.p (by exact as1 rfl) rfl ?_
                refine AL.p (by exact as1 rfl) rfl ?_
                refine AL.nil ?_
                refine th_n ?_
                refine AC.seq ?_
                refine AC.region ?_
                refine AL.p (by exact mv1 rfl) rfl ?_
                refine AL.p (by exact mv1 rfl) rfl ?_
                refine AL.p (by exact mv1 rfl) rfl ?_
                refine AL.caseGB rfl rfl (fun h6 => ?_) (fun h6 => ?_)
                · refine AL.yes rfl rfl rfl ?_
                  refine AL.p (by exact g_fa_ref rfl rfl rfl rfl rfl rfl) rfl ?_
                  refine AL.yes rfl rfl rfl ?_
                  refine AL.p (by exact g_load_ref rfl rfl rfl) rfl ?_
                  refine AL.yes rfl rfl rfl ?_
                  refine AL.q (by exact h_pure en_isMaximal rfl rfl (by repeat (first | exact rfl | exact DLead.same | refine ⟨_, _, rfl, ?_, ?_⟩)) hmx rfl) rfl ?_
                  refine AL.p (by exact g_pickT (r := .d _) rfl rfl) rfl ?_
                  refine AL.p (by exact as1 rfl) rfl ?_
                  refine AL.p (by exact as1 rfl) rfl ?_
                  refine AL.nil ?_
                  refine th_n ?_
                  refine AC.ret ?_
                  refine bq_r ?_
                  exact ret2 rfl (by rw [hmc]) (by rw [hgm]; clear hS hF hKs hX1 hC5 hCt hmx hcs hCo; simp_all)
                · refine AL.not rfl rfl rfl rfl rfl ?_
                  refine AL.not rfl rfl rfl rfl rfl ?_
                  refine AL.not rfl rfl rfl rfl rfl ?_
                  refine AL.p (by exact g_pickF (r := .d _) rfl rfl) rfl ?_
                  refine AL.p (by exact as1 rfl) rfl ?_
                  refine AL.p (by exact as1 rfl) rfl ?_
                  refine AL.nil ?_
                  refine th_n ?_
                  refine AC.ret ?_
                  refine bq_r ?_
                  exact ret2 rfl (by rw [hmc]) (by rw [hgm]; clear hS hF hKs hX1 hC5 hCt hmx hcs hCo; simp_all)
theorem en_machCodes : Enters Try.prog 34 := enters_of Try.func34 rfl rfl
theorem iIsValidMach_spec (m : Mach) (hS : SmM m) : ASpec Try.prog 19 [machA m] [] (Pure1 (aT (goodM m))) := by
  have hMc := machCodes_spec m hS
  refine ASpec.of Try.func19 rfl rfl fun C hC => ?_
  refine AC.seq ?_
  refine AC.region ?_
  refine AL.q (by exact h_boxF rfl rfl) rfl ?_
  refine AL.p (by exact as1 rfl) rfl ?_
  refine AL.nil ?_
  refine th_n ?_
  refine AC.seq ?_
  refine AC.region ?_
  refine AL.p (by exact g_load_refN rfl rfl rfl rfl) rfl ?_
  refine AL.q (by exact h_pure en_machCodes rfl rfl (by repeat (first | exact rfl | exact DLead.same | refine ⟨_, _, rfl, ?_, ?_⟩ | refine ⟨_, rfl, ?_⟩)) hMc rfl) rfl ?_
  refine AL.p (by exact mv5 rfl) rfl ?_
  refine AL.p (by exact g_extract (r := .d _) rfl rfl) rfl ?_
  refine AL.p (by exact g_extract (r := .d _) rfl rfl) rfl ?_
  refine AL.p (by exact as1 rfl) rfl ?_
  refine AL.p (by exact as1 rfl) rfl ?_
  refine AL.nil ?_
  refine th_n ?_
  refine AC.seq ?_
  refine AC.region ?_
  refine AL.p (by exact mv1 rfl) rfl ?_
  refine AL.p (by exact as1 rfl) rfl ?_
  refine AL.nil ?_
  refine th_n ?_
  refine AC.ret ?_
  refine bq_r ?_
  exact ret1 rfl rfl
theorem en_iIsValidMach : Enters Try.prog 19 := enters_of Try.func19 rfl rfl
theorem CodesOk.pass {n k : Nat} : ∀ {bs : List Bur} {cs cs' : List (List UInt8)}, CodesOk n k cs → passB bs cs = some cs' → CodesOk n k cs'
  | [], cs, cs', h, e => by simp only [passB, Option.some.injEq] at e; subst e; exact h
  | b :: bs, cs, cs', h, e => by
    simp only [passB] at e
    split at e
    · cases e
    · rename_i c2 h2; exact CodesOk.pass (h.step h2) e
theorem CodesOk.runs {n k : Nat} {bs : List Bur} : ∀ {q : Nat} {cs cs' : List (List UInt8)}, CodesOk n k cs → runB bs q cs = some cs' → CodesOk n k cs'
  | 0, cs, cs', h, e => by simp only [runB, Option.some.injEq] at e; subst e; exact h
  | q + 1, cs, cs', h, e => by
    simp only [runB] at e
    split at e
    · cases e
    · rename_i c2 h2; exact CodesOk.runs (h.pass h2) e
theorem codes_len {m : Mach} (h : FormM m) {cs : List (List UInt8)} (e : codesB m = some cs) : cs.length ≤ 2000000 := by
  have := (CodesOk.beg h).runs e
  have h2 := h.st
  rw [this.l]; omega
theorem okRun_some {m : Mach} (h : okRun m = true) : ∃ cs, codesB m = some cs := by
  unfold okRun at h
  cases e : codesB m with
  | none => rw [e] at h; cases h
  | some cs => exact ⟨cs, rfl⟩
theorem okRun_no {m : Mach} (h : okRun m = false) : okCodes m = false := by
  unfold okRun at h
  unfold okCodes
  cases e : codesB m with
  | none => rfl
  | some cs => rw [e] at h; cases h
set_option maxHeartbeats 4000000 in
theorem l24Good_spec (m : Mach) (hS : SmM m) : ASpec Try.prog 15 [machA m] [] (Pure1 (aT (goodM m))) := by
  have hFs := l24Form_spec m hS
  have hCs := fun h => l24Codes_spec m hS (formB_iff h)
  have hgm : goodM m = (formB m && (okCodes m && maxB m.burs)) := rfl
  have hbl0 := hS.b
  obtain ⟨fm, hfm⟩ : ∃ f, f = formB m := ⟨_, rfl⟩
  rw [← hfm] at hFs hgm hCs
  obtain ⟨ok, hok⟩ : ∃ f, f = okRun m := ⟨_, rfl⟩
  rw [← hok] at hCs
  refine ASpec.of Try.func15 rfl rfl fun C hC => ?_
  refine AC.seq ?_
  refine AC.region ?_
  refine AL.q (by exact h_boxF rfl rfl) rfl ?_
  refine AL.p (by exact as1 rfl) rfl ?_
  refine AL.nil ?_
  refine th_n ?_
  refine AC.seq ?_
  refine AC.seq ?_
  refine AC.region ?_
  refine AL.p (by exact g_load_refN rfl rfl rfl rfl) rfl ?_
  refine AL.q (by exact h_pure en_l24Form rfl rfl (by repeat (first | exact rfl | exact DLead.same | refine ⟨_, _, rfl, ?_, ?_⟩ | refine ⟨_, rfl, ?_⟩)) hFs rfl) rfl ?_
  refine AL.p (by exact g_not rfl) rfl ?_
  refine AL.nil ?_
  refine th_n ?_
  refine AC.condB rfl (fun h0 => ?_) (fun h0 => ?_)
  · refine AC.seq ?_
    refine AC.region ?_
    refine AL.p (by exact as1 rfl) rfl ?_
    refine AL.nil ?_
    refine th_n ?_
    refine AC.ret ?_
    refine th_r ?_
    refine bq_r ?_
    exact ret1 rfl (by rw [hgm, (Bool.not_eq_true' _).mp h0]; rfl)
  · refine AC.skip ?_
    refine th_n ?_
    refine AC.seq ?_
    have hft : fm = true := (Bool.not_eq_false' _).mp h0
    have hCo := hCs hft
    rw [hft, Bool.true_and] at hgm
    refine AC.region ?_
    refine AL.p (by exact g_load_refN rfl rfl rfl rfl) rfl ?_
    refine AL.q (by exact h_pure en_l24Codes rfl rfl (by repeat (first | exact rfl | exact DLead.same | refine ⟨_, _, rfl, ?_, ?_⟩ | refine ⟨_, rfl, ?_⟩)) hCo rfl) rfl ?_
    refine AL.p (by exact mv5 rfl) rfl ?_
    refine AL.p (by exact g_extract (r := .d _) rfl rfl) rfl ?_
    refine AL.p (by exact g_extract (r := .d _) rfl rfl) rfl ?_
    refine AL.p (by exact as1 rfl) rfl ?_
    refine AL.p (by exact as1 rfl) rfl ?_
    refine AL.nil ?_
    refine th_n ?_
    refine AC.seq ?_
    refine AC.seq ?_
    refine AC.region ?_
    refine AL.p (by exact mv1 rfl) rfl ?_
    refine AL.p (by exact g_not rfl) rfl ?_
    refine AL.p (by exact mv1 rfl) rfl ?_
    refine AL.caseGB rfl rfl (fun h1 => ?_) (fun h1 => ?_)
    · refine AL.not rfl rfl rfl rfl rfl ?_
      refine AL.not rfl rfl rfl rfl rfl ?_
      refine AL.p (by exact g_pickT (r := .d _) rfl rfl) rfl ?_
      refine AL.nil ?_
      refine th_n ?_
      refine AC.condT rfl ?_
      refine AC.seq ?_
      refine AC.region ?_
      refine AL.p (by exact as1 rfl) rfl ?_
      refine AL.nil ?_
      refine th_n ?_
      refine AC.ret ?_
      refine th_r ?_
      refine bq_r ?_
      exact ret1 rfl (by rw [hgm, okRun_no (hok.symm.trans ((Bool.not_eq_true' _).mp h1))]; rfl)
    · refine AL.yes rfl rfl rfl ?_
      have hok1 : ok = true := (Bool.not_eq_false' _).mp h1
      obtain ⟨cs, hcd⟩ := okRun_some (hok.symm.trans hok1)
      have hd : cdD m = vStr cs := by rw [cdD, hcd]
      rw [hd]
      have hH := l1HasS_spec cs (codes_len (formB_iff (hfm.symm.trans hft)) hcd) []
      obtain ⟨ha, hha⟩ : ∃ a, a = cs.any (fun x => decide (x = [])) := ⟨_, rfl⟩
      have hoc : okCodes m = !ha := by rw [okCodes, hcd, hha]
      rw [← hha] at hH
      rw [hoc] at hgm
      refine AL.p (by exact mv1 rfl) rfl ?_
      refine AL.yes rfl rfl rfl ?_
      refine AL.q (by exact h_pure en_l1HasS rfl rfl (by repeat (first | exact rfl | exact DLead.same | refine ⟨_, _, rfl, ?_, ?_⟩)) hH rfl) rfl ?_
      refine AL.p (by exact g_pickF (r := .d _) rfl rfl) rfl ?_
      refine AL.nil ?_
      refine th_n ?_
      refine AC.condB rfl (fun h2 => ?_) (fun h2 => ?_)
      · refine AC.seq ?_
        refine AC.region ?_
        refine AL.p (by exact as1 rfl) rfl ?_
        refine AL.nil ?_
        refine th_n ?_
        refine AC.ret ?_
        refine th_r ?_
        refine bq_r ?_
        exact ret1 rfl (by rw [hgm, h2]; rfl)
      · refine AC.skip ?_
        refine th_n ?_
        refine AC.seq ?_
        refine AC.seq ?_
        have hgm2 : goodM m = maxB m.burs := by rw [hgm, h2]; rfl
        refine AC.region ?_
        refine AL.p (by exact g_fa_ref rfl rfl rfl rfl rfl rfl) rfl ?_
        refine AL.p (by exact g_load_ref rfl rfl rfl) rfl ?_
        refine AL.p (by exact g_len_view rfl rfl (by exact List.length_map _)) rfl ?_
        refine AL.p (by exact mv1 rfl) rfl ?_
        refine AL.nil ?_
        refine th_n ?_
        refine AC.block ?_
        refine AC.loop (ι := Nat) (fun i => ⟨58, 0, [(1, .d (.ref (machD m))), (24, .d (vBurs m.burs)), (25, aI m.burs.length), (26, aI i)], []⟩) (fun i => i ≤ m.burs.length ∧ ∀ j, j < i → allK (pairB m.burs j) m.burs.length = true) (fun i => m.burs.length - i) (0) ?_ (⟨Nat.zero_le _, fun j hj => by omega⟩) ?_
        · refine Weak.ren _ [] hC rfl ?_ ?_ rfl rfl rfl <;> repeat (first | exact True.intro | refine And.intro ?_ ?_ | exact DLead.same)
        · intro i ⟨hi, hall⟩
          refine AC.seq ?_
          refine AC.region ?_
          refine AL.p (by exact g_cmp rfl rfl rfl) rfl ?_
          refine AL.nil ?_
          refine th_n ?_
          refine AC.seq ?_
          refine AC.condD rfl (fun h3 => ?_) (fun h3 => ?_)
          · refine AC.skip ?_
            refine th_n ?_
            refine AC.seq ?_
            refine AC.block ?_
            refine AC.seq ?_
            have hi1 : i < m.burs.length := by omega
            have hget := bursL_get hi1
            refine AC.region ?_
            refine AL.p (by exact mv1 rfl) rfl ?_
            refine AL.p (by exact g_ia_view rfl rfl rfl rfl rfl (by rfl) (by assumption)) rfl ?_
            refine AL.p (by exact g_load_refN rfl rfl rfl rfl) rfl ?_
            refine AL.q (by exact h_alloc rfl) rfl ?_
            refine AL.p (by exact as1 rfl) rfl ?_
            refine AL.q (by exact h_store rfl rfl rfl rfl rfl rfl) rfl ?_
            refine AL.nil ?_
            refine th_n ?_
            refine AC.seq ?_
            refine AC.weak (Weak.freezeRef (ds := burD m.burs[i]) 6 rfl rfl) ?_
            refine AC.region ?_
            refine AL.p (by exact g_fa_ref rfl rfl rfl rfl rfl rfl) rfl ?_
            refine AL.p (by exact g_load_ref rfl rfl rfl) rfl ?_
            refine AL.p (by exact g_len_view rfl rfl (by exact List.length_map _)) rfl ?_
            refine AL.p (by exact mv1 rfl) rfl ?_
            refine AL.nil ?_
            refine th_n ?_
            refine AC.block ?_
            refine AC.loop (ι := Nat) (fun k => ⟨58, 0, [(1, .d (.ref (machD m))), (24, .d (vBurs m.burs)), (25, aI m.burs.length), (26, aI i), (5, aI i), (6, .d (.ref (burD m.burs[i]))), (32, .d (vBurs m.burs)), (33, aI m.burs.length), (34, aI k)], []⟩) (fun k => k ≤ m.burs.length ∧ ∀ j, j < k → pairB m.burs i j = true) (fun k => m.burs.length - k) (0) ?_ (⟨Nat.zero_le _, fun j hj => by omega⟩) ?_
            · refine Weak.ren _ [] hC rfl ?_ ?_ rfl rfl rfl <;> repeat (first | exact True.intro | refine And.intro ?_ ?_ | exact DLead.same)
            · intro k ⟨hk, hal2⟩
              refine AC.seq ?_
              refine AC.region ?_
              refine AL.p (by exact g_cmp rfl rfl rfl) rfl ?_
              refine AL.nil ?_
              refine th_n ?_
              refine AC.seq ?_
              refine AC.condD rfl (fun h4 => ?_) (fun h4 => ?_)
              · refine AC.skip ?_
                refine th_n ?_
                refine AC.seq ?_
                refine AC.block ?_
                refine AC.seq ?_
                have hk1 : k < m.burs.length := by omega
                have hget2 := bursL_get hk1
                refine AC.region ?_
                refine AL.p (by exact mv1 rfl) rfl ?_
                refine AL.p (by exact g_ia_view rfl rfl rfl rfl rfl (by rfl) (by assumption)) rfl ?_
                refine AL.p (by exact g_load_refN rfl rfl rfl rfl) rfl ?_
                refine AL.q (by exact h_alloc rfl) rfl ?_
                refine AL.p (by exact as1 rfl) rfl ?_
                refine AL.q (by exact h_store rfl rfl rfl rfl rfl rfl) rfl ?_
                refine AL.nil ?_
                refine th_n ?_
                refine AC.seq ?_
                refine AC.weak (Weak.freezeRef (ds := burD m.burs[k]) 8 rfl rfl) ?_
                have hP := pairB_at hi1 hk1
                have hbi := (hS.bl _ (List.getElem_mem hi1)).1
                have hbk := (hS.bl _ (List.getElem_mem hk1)).1
                have hA := l24Among_spec m.burs[i].inn m.burs[k].inn (by omega) (by omega)
                obtain ⟨c, hc⟩ : ∃ c, c = amongB m.burs[i].inn m.burs[k].inn := ⟨_, rfl⟩
                rw [← hc] at hA hP
                clear hc
                refine AC.region ?_
                refine AL.p (by exact mv1 rfl) rfl ?_
                refine AL.p (by exact mv1 rfl) rfl ?_
                refine AL.p (by exact g_cmp rfl rfl rfl) rfl ?_
                refine AL.p (by exact mv1 rfl) rfl ?_
                refine AL.caseGN rfl rfl (fun h5 => ?_) (fun h5 => ?_)
                · refine AL.yes rfl rfl rfl ?_
                  refine AL.p (by exact g_fa_ref rfl rfl rfl rfl rfl rfl) rfl ?_
                  refine AL.yes rfl rfl rfl ?_
                  refine AL.p (by exact g_load_ref rfl rfl rfl) rfl ?_
                  refine AL.yes rfl rfl rfl ?_
                  refine AL.p (by exact g_fa_ref rfl rfl rfl rfl rfl rfl) rfl ?_
                  refine AL.yes rfl rfl rfl ?_
                  refine AL.p (by exact g_load_ref rfl rfl rfl) rfl ?_
                  refine AL.yes rfl rfl rfl ?_
                  refine AL.p (by exact g_cmp rfl rfl rfl) rfl ?_
                  refine AL.p (by exact g_pickT (r := .d _) rfl rfl) rfl ?_
                  refine AL.p (by exact mv1 rfl) rfl ?_
                  refine AL.caseG rfl rfl (fun h6 => ?_) (fun h6 => ?_)
                  · refine AL.yes rfl rfl rfl ?_
                    refine AL.p (by exact g_fa_ref rfl rfl rfl rfl rfl rfl) rfl ?_
                    refine AL.yes rfl rfl rfl ?_
                    refine AL.p (by exact g_load_ref rfl rfl rfl) rfl ?_
                    refine AL.yes rfl rfl rfl ?_
                    refine AL.p (by exact g_fa_ref rfl rfl rfl rfl rfl rfl) rfl ?_
                    refine AL.yes rfl rfl rfl ?_
                    refine AL.p (by exact g_load_ref rfl rfl rfl) rfl ?_
                    refine AL.yes rfl rfl rfl ?_
                    refine AL.q (by exact h_pure en_l24Among rfl rfl (by repeat (first | exact rfl | exact DLead.same | refine ⟨_, _, rfl, ?_, ?_⟩)) hA rfl) rfl ?_
                    refine AL.p (by exact g_pickT (r := .d _) rfl rfl) rfl ?_
                    refine AL.nil ?_
                    refine th_n ?_
                    refine AC.condB rfl (fun h7 => ?_) (fun h7 => ?_)
                    · refine AC.seq ?_
                      refine AC.region ?_
                      refine AL.p (by exact as1 rfl) rfl ?_
                      refine AL.nil ?_
                      refine th_n ?_
                      refine AC.ret ?_
                      refine ib_r ?_
                      refine th_r ?_
                      refine th_r ?_
                      refine ib_r ?_
                      refine ib_r ?_
                      refine th_r ?_
                      refine th_r ?_
                      refine ib_r ?_
                      refine th_r ?_
                      refine bq_r ?_
                      have hno : pairB m.burs i k = false := by clear hS hFs hCs hCo hA hH hall hal2; rw [hP]; simp_all
                      exact ret1 rfl (by rw [hgm2, maxB, allK_no (f := fun i => allK (pairB m.burs i) m.burs.length) hi1 (allK_no hk1 hno)])
                    · refine AC.skip ?_
                      refine ib_n ?_
                      refine th_n ?_
                      refine AC.region ?_
                      refine AL.p (by exact g_arith rfl rfl rfl (by exact wrap_i64 (by omega))) rfl ?_
                      refine AL.p (by exact mv1 rfl) rfl ?_
                      refine AL.nil ?_
                      refine th_n ?_
                      have hyes : pairB m.burs i k = true := by clear hS hFs hCs hCo hA hH hall hal2; rw [hP]; simp_all
                      exact ⟨k + 1, ⟨by omega, fun j hj2 => by rcases Nat.lt_succ_iff_lt_or_eq.1 hj2 with h | rfl; exact hal2 j h; exact hyes⟩, by omega, Weak.ren _ [] hC rfl (by repeat (first | exact True.intro | refine And.intro ?_ ?_ | exact DLead.same)) (by repeat (exact True.intro)) rfl rfl rfl⟩
                  · refine AL.not rfl rfl rfl rfl rfl ?_
                    refine AL.not rfl rfl rfl rfl rfl ?_
                    refine AL.not rfl rfl rfl rfl rfl ?_
                    refine AL.not rfl rfl rfl rfl rfl ?_
                    refine AL.not rfl rfl rfl rfl rfl ?_
                    refine AL.p (by exact g_pickF (r := .d _) rfl rfl) rfl ?_
                    refine AL.nil ?_
                    refine th_n ?_
                    refine AC.condF rfl ?_
                    refine AC.skip ?_
                    refine ib_n ?_
                    refine th_n ?_
                    refine AC.region ?_
                    refine AL.p (by exact g_arith rfl rfl rfl (by exact wrap_i64 (by omega))) rfl ?_
                    refine AL.p (by exact mv1 rfl) rfl ?_
                    refine AL.nil ?_
                    refine th_n ?_
                    have hyes : pairB m.burs i k = true := by clear hS hFs hCs hCo hA hH hall hal2; rw [hP]; simp_all
                    exact ⟨k + 1, ⟨by omega, fun j hj2 => by rcases Nat.lt_succ_iff_lt_or_eq.1 hj2 with h | rfl; exact hal2 j h; exact hyes⟩, by omega, Weak.ren _ [] hC rfl (by repeat (first | exact True.intro | refine And.intro ?_ ?_ | exact DLead.same)) (by repeat (exact True.intro)) rfl rfl rfl⟩
                · refine AL.not rfl rfl rfl rfl rfl ?_
                  refine AL.not rfl rfl rfl rfl rfl ?_
                  refine AL.not rfl rfl rfl rfl rfl ?_
                  refine AL.not rfl rfl rfl rfl rfl ?_
                  refine AL.not rfl rfl rfl rfl rfl ?_
                  refine AL.p (by exact g_pickF (r := .d _) rfl rfl) rfl ?_
                  refine AL.p (by exact mv1 rfl) rfl ?_
                  refine AL.not rfl rfl rfl rfl rfl ?_
                  refine AL.not rfl rfl rfl rfl rfl ?_
                  refine AL.not rfl rfl rfl rfl rfl ?_
                  refine AL.not rfl rfl rfl rfl rfl ?_
                  refine AL.not rfl rfl rfl rfl rfl ?_
                  refine AL.p (by exact g_pickF (r := .d _) rfl rfl) rfl ?_
                  refine AL.nil ?_
                  refine th_n ?_
                  refine AC.condF rfl ?_
                  refine AC.skip ?_
                  refine ib_n ?_
                  refine th_n ?_
                  refine AC.region ?_
                  refine AL.p (by exact g_arith rfl rfl rfl (by exact wrap_i64 (by omega))) rfl ?_
                  refine AL.p (by exact mv1 rfl) rfl ?_
                  refine AL.nil ?_
                  refine th_n ?_
                  have hyes : pairB m.burs i k = true := by clear hS hFs hCs hCo hA hH hall hal2; rw [hP]; simp_all
                  exact ⟨k + 1, ⟨by omega, fun j hj2 => by rcases Nat.lt_succ_iff_lt_or_eq.1 hj2 with h | rfl; exact hal2 j h; exact hyes⟩, by omega, Weak.ren _ [] hC rfl (by repeat (first | exact True.intro | refine And.intro ?_ ?_ | exact DLead.same)) (by repeat (exact True.intro)) rfl rfl rfl⟩
              · refine AC.exit ?_
                refine th_e ?_
                refine th_e ?_
                refine ib_y ?_
                refine ib_n ?_
                refine th_n ?_
                refine AC.region ?_
                refine AL.p (by exact g_arith rfl rfl rfl (by exact wrap_i64 (by omega))) rfl ?_
                refine AL.p (by exact mv1 rfl) rfl ?_
                refine AL.nil ?_
                refine th_n ?_
                exact ⟨i + 1, ⟨by omega, fun j hj2 => by rcases Nat.lt_succ_iff_lt_or_eq.1 hj2 with h | rfl; exact hall j h; exact allK_yes (fun q hq => hal2 q (by omega))⟩, by omega, Weak.ren _ [] hC rfl (by repeat (first | exact True.intro | refine And.intro ?_ ?_ | exact DLead.same)) (by repeat (exact True.intro)) rfl rfl rfl⟩
          · refine AC.exit ?_
            refine th_e ?_
            refine th_e ?_
            refine ib_y ?_
            refine th_n ?_
            refine AC.seq ?_
            refine AC.region ?_
            refine AL.p (by exact as1 rfl) rfl ?_
            refine AL.nil ?_
            refine th_n ?_
            refine AC.ret ?_
            refine bq_r ?_
            exact ret1 rfl (by rw [hgm2, maxB, allK_yes (f := fun i => allK (pairB m.burs i) m.burs.length) (fun q hq => hall q (by omega))])
theorem en_l24Good : Enters Try.prog 15 := enters_of Try.func15 rfl rfl
end Go.Proofs.Ytbmlfcjoeieibaa

set_option linter.all false
set_option maxRecDepth 20000
namespace Go.Proofs.Ytbmlfcjoeieibaa
open Go.RowKit

/-- A number's digits, and the text that stands for it. -/
def digs : Nat → Nat → List UInt8 → List UInt8
  | 0, _, acc => acc
  | f + 1, k, acc => if k = 0 then acc else digs f (k / 10) (UInt8.ofNat (48 + k % 10) :: acc)
def mtx (k : Int) : List UInt8 := if k ≤ 0 then [109, 48] else 109 :: digs k.toNat k.toNat []
theorem digs_zero (f : Nat) (acc : List UInt8) : digs f 0 acc = acc := by cases f <;> simp [digs]
theorem digs_step {f k : Nat} (hf : k ≤ f) (hk : 0 < k) (acc : List UInt8) : digs (f - 1) (k / 10) (UInt8.ofNat (48 + k % 10) :: acc) = digs f k acc := by
  obtain ⟨g, rfl⟩ : ∃ g, f = g + 1 := ⟨f - 1, by omega⟩
  rw [Nat.add_sub_cancel]
  conv => rhs; unfold digs
  rw [if_neg (by omega)]
set_option maxHeartbeats 2000000 in
theorem markText_spec (k : Int) (hk : k ≤ 1073741824) : ASpec Try.prog 37 [aI k] [] (Pure1 (aS (bstr (mtx k)))) := by
  refine ASpec.of Try.func37 rfl rfl fun C hC => ?_
  refine AC.seq ?_
  refine AC.region ?_
  refine AL.p (by exact as1 rfl) rfl ?_
  refine AL.nil ?_
  refine th_n ?_
  refine AC.seq ?_
  refine AC.seq ?_
  refine AC.region ?_
  refine AL.p (by exact mv1 rfl) rfl ?_
  refine AL.p (by exact g_cmp rfl rfl rfl) rfl ?_
  refine AL.nil ?_
  refine th_n ?_
  refine AC.condD rfl (fun h0 => ?_) (fun h0 => ?_)
  · refine AC.seq ?_
    refine AC.region ?_
    refine AL.p (by exact as1 rfl) rfl ?_
    refine AL.nil ?_
    refine th_n ?_
    refine AC.ret ?_
    refine th_r ?_
    refine bq_r ?_
    exact ret1 rfl (by rw [mtx, if_pos h0]; rfl)
  · refine AC.skip ?_
    refine th_n ?_
    refine AC.seq ?_
    obtain ⟨n, rfl⟩ : ∃ n : Nat, k = n := ⟨k.toNat, by omega⟩
    refine AC.region ?_
    refine AL.p (by exact as1 rfl) rfl ?_
    refine AL.nil ?_
    refine th_n ?_
    refine AC.seq ?_
    refine AC.block ?_
    refine AC.loop (ι := Nat × Nat × List UInt8) (fun x => ⟨20, 0, [(0, aI x.2.1), (3, aS (bstr x.2.2))], []⟩) (fun x => x.2.1 ≤ x.1 ∧ digs x.1 x.2.1 x.2.2 = digs n n [] ∧ x.2.2.length + x.2.1 ≤ n) (fun x => x.2.1) ((n, n, [])) ?_ (⟨Nat.le_refl _, rfl, by show 0 + n ≤ n; omega⟩) ?_
    · refine Weak.ren _ [] hC rfl ?_ ?_ rfl rfl rfl <;> repeat (first | exact True.intro | refine And.intro ?_ ?_ | exact DLead.same)
    · rintro ⟨f, q, acc⟩ ⟨hf, hd, hl⟩
      dsimp only at hf hd hl ⊢
      refine AC.seq ?_
      refine AC.seq ?_
      refine AC.region ?_
      refine AL.p (by exact mv1 rfl) rfl ?_
      refine AL.p (by exact g_cmp rfl rfl rfl) rfl ?_
      refine AL.nil ?_
      refine th_n ?_
      refine AC.condD rfl (fun h1 => ?_) (fun h1 => ?_)
      · refine AC.skip ?_
        refine th_n ?_
        refine AC.block ?_
        refine AC.seq ?_
        have hq : 0 < q := by omega
        have hsz := bstr_size acc
        have hst := digs_step hf hq acc
        have hrm : ((q : Nat) : Int).tmod 10 = ((q % 10 : Nat) : Int) := by rw [Int.tmod_eq_emod_of_nonneg (by omega)]; omega
        have hqo : ((q : Nat) : Int).tdiv 10 = ((q / 10 : Nat) : Int) := by rw [Int.tdiv_eq_ediv_of_nonneg (by omega)]; omega
        have hu8 : ((UInt8.ofNat (48 + q % 10)).toNat : Int) = 48 + ((q % 10 : Nat) : Int) := by rw [UInt8.toNat_ofNat']; have : q % 10 < 10 := Nat.mod_lt _ (by omega); omega
        refine AC.region ?_
        refine AL.p (by exact mv1 rfl) rfl ?_
        refine AL.p (by exact g_rem rfl rfl (by decide) hrm) rfl ?_
        refine AL.p (by exact g_arith (e := 48 + ((q % 10 : Nat) : Int)) rfl rfl rfl (wrap_i64 (by omega))) rfl ?_
        refine AL.p (by exact g_convI (c := 48 + ((q % 10 : Nat) : Int)) rfl rfl rfl (wrap_u8 (by omega))) rfl ?_
        refine AL.q (by exact h_lit rfl rfl rfl rfl rfl rfl rfl rfl) rfl ?_
        refine AL.p (by exact g_strOfBytes (l := [UInt8.ofNat (48 + q % 10)]) rfl rfl rfl rfl rfl (by show _ = [[DV.val (.int .u8 ((UInt8.ofNat (48 + q % 10)).toNat : Int))]]; rw [hu8]) rfl) rfl ?_
        refine AL.p (by exact mv1 rfl) rfl ?_
        refine AL.p (by exact g_sadd rfl rfl (by (simp only [ByteArray.size_append, bstr_size, List.length_take, List.length_drop, List.length_cons, List.length_nil]; omega))) rfl ?_
        refine AL.p (by exact as1 rfl) rfl ?_
        refine AL.nil ?_
        refine th_n ?_
        refine AC.region ?_
        refine AL.p (by exact mv1 rfl) rfl ?_
        refine AL.p (by exact g_quo (c := ((q / 10 : Nat) : Int)) rfl rfl (by decide) (by rw [hqo]; exact wrap_i64 (by omega))) rfl ?_
        refine AL.p (by exact as1 rfl) rfl ?_
        refine AL.nil ?_
        refine ib_n ?_
        refine th_n ?_
        exact ⟨(f - 1, q / 10, UInt8.ofNat (48 + q % 10) :: acc), ⟨by show q / 10 ≤ f - 1; omega, hst.trans hd, by show acc.length + 1 + q / 10 ≤ n; omega⟩, by show q / 10 < q; omega, Weak.ren _ [] hC rfl (by rw [show bstr (UInt8.ofNat (48 + q % 10) :: acc) = bstr [UInt8.ofNat (48 + q % 10)] ++ bstr acc from (bstr_append [UInt8.ofNat (48 + q % 10)] acc).symm]; repeat (first | exact True.intro | refine And.intro ?_ ?_ | exact DLead.same)) (by repeat (exact True.intro)) rfl rfl rfl⟩
      · refine AC.exit ?_
        refine th_e ?_
        refine th_e ?_
        refine ib_y ?_
        refine th_n ?_
        refine AC.seq ?_
        have hq : q = 0 := by omega
        subst hq
        rw [digs_zero] at hd
        have hsz := bstr_size acc
        refine AC.region ?_
        refine AL.p (by exact mv1 rfl) rfl ?_
        refine AL.p (by exact g_sadd (a := bstr [109]) rfl rfl (by rw [show (bstr [109]).size = 1 from rfl]; omega)) rfl ?_
        refine AL.p (by exact as1 rfl) rfl ?_
        refine AL.nil ?_
        refine th_n ?_
        refine AC.ret ?_
        refine bq_r ?_
        have e : mtx (n : Int) = [109] ++ acc := by rw [mtx, if_neg h0, Int.toNat_natCast, ← hd]; rfl
        exact ret1 rfl (by rw [e, ← bstr_append])
theorem en_markText : Enters Try.prog 37 := enters_of Try.func37 rfl rfl
theorem rows2 {n : Nat} {V : List Value} (hV : V.length = n * 2) : ∀ j, j < n → ∃ a b, (rowsV 2 n V)[j]? = some [a, b] := fun j hj => by
  refine ⟨_, _, rowsV_get hj⟩
theorem set_get2 {E : List (List DV)} {i : Nat} {c c' : List DV} (h : E[i]? = some c) : (E.set i c')[i]? = some c' := List.getElem?_set_self (List.getElem?_eq_some_iff.1 h).1
theorem rows2_set {E : List (List DV)} {n i : Nat} {a b : DV} (h : ∀ j, j < n → ∃ a b, E[j]? = some [a, b]) : ∀ j, j < n → ∃ x y, (E.set i [a, b])[j]? = some [x, y] := fun j hj => by
  obtain ⟨x, y, hxy⟩ := h j hj
  by_cases e : i = j
  · subst e; exact ⟨a, b, set_get2 hxy⟩
  · exact ⟨x, y, by rw [List.getElem?_set_ne e]; exact hxy⟩
set_option maxHeartbeats 2000000 in
theorem markSigS_T (l : List Sig) (k : Int) (hl : l.length ≤ 1048576) (hk : 0 ≤ k ∧ k + 2 * l.length ≤ 1073741824) (v : Value) (S : Nat → Prop) : ASpec Try.prog 24 [.d (.val v), aI k] [(0, .pred S fun w => TRep w S (vSigs l) v)] (Fun1 (aI (k + 2 * l.length)) []) := by
  refine ASpec.of Try.func24 rfl rfl fun C hC => ?_
  refine AC.seq ?_
  refine AC.weakR (WeakR.openT (els := sigsL l) 0 0 rfl rfl (fun w h => h) rfl rfl) ?_
  rintro _ ⟨p, V, S', ⟨hv, hp, hV, hrow, hS, hx⟩, rfl⟩
  rw [sigsL_len] at *
  have hR0 := rows2 hV
  refine AC.region ?_
  refine AL.p (by exact as1 rfl) rfl ?_
  refine AL.nil ?_
  refine th_n ?_
  refine AC.seq ?_
  refine AC.seq ?_
  refine AC.region ?_
  refine AL.p (by exact as1 rfl) rfl ?_
  refine AL.nil ?_
  refine th_n ?_
  refine AC.block ?_
  refine AC.loop (ι := Nat × List (List DV)) (fun ⟨i, E⟩ => ⟨28, 108, [(0, .own 100 l.length), (1, aI (k + 2 * i)), (5, aI i)], [(100, some (.arr 66 2 E))]⟩) (fun x => x.1 ≤ l.length ∧ x.2.length = l.length ∧ ∀ j, j < l.length → ∃ a b, x.2[j]? = some [a, b]) (fun x => l.length - x.1) ((0, rowsV 2 l.length V)) ?_ (⟨Nat.zero_le _, rowsV_len _ _ _, hR0⟩) ?_
  · exact Weak.ren _ [(100, 1)] hC rfl (by dsimp only; repeat (first | exact True.intro | refine And.intro ?_ ?_ | exact DLead.same | exact DLead.eqI (by omega) | exact rfl | refine ⟨_, rfl, ?_⟩)) (by dsimp only; repeat (first | exact True.intro | refine And.intro ?_ ?_ | exact rfl | refine ⟨_, _, rfl, rfl, ?_⟩)) rfl rfl rfl
  · rintro ⟨i, E⟩ ⟨hi, hE, hR⟩
    refine AC.seq ?_
    refine AC.seq ?_
    refine AC.region ?_
    refine AL.p (by exact mv1 rfl) rfl ?_
    refine AL.p (by exact mv2 rfl) rfl ?_
    refine AL.p (by exact g_len_own (sz := 1) (els := []) (e' := 0) rfl rfl (by simp only [maxLen]; omega)) rfl ?_
    refine AL.p (by exact g_cmp rfl rfl rfl) rfl ?_
    refine AL.nil ?_
    refine th_n ?_
    refine AC.condD rfl (fun h0 => ?_) (fun h0 => ?_)
    · refine AC.skip ?_
      refine th_n ?_
      refine AC.seq ?_
      refine AC.block ?_
      refine AC.seq ?_
      dsimp only at hi hE hR
      have hi1 : i < l.length := by omega
      obtain ⟨a, b, hget⟩ := hR i hi1
      have hget2 := set_get2 (c' := [dS (bstr (mtx (k + 2 * i))), b]) hget
      have hR1 := rows2_set (i := i) (a := dS (bstr (mtx (k + 2 * i)))) (b := b) hR
      have hR2 := rows2_set (i := i) (a := dS (bstr (mtx (k + 2 * i)))) (b := dI (k + 2 * i + 1)) hR1
      have hM := markText_spec (k + 2 * i) (by omega)
      refine AC.region ?_
      refine AL.p (by exact mv2 rfl) rfl ?_
      refine AL.p (by exact mv1 rfl) rfl ?_
      refine AL.p (by exact mv1 rfl) rfl ?_
      refine AL.q (by exact h_pure en_markText rfl rfl (by repeat (first | exact rfl | exact DLead.same | refine ⟨_, _, rfl, ?_, ?_⟩)) hM rfl) rfl ?_
      refine AL.p (by exact g_ia_own rfl rfl rfl rfl rfl (by rfl) (by omega) (by rfl)) rfl ?_
      refine AL.p (by exact g_fa_ptr rfl rfl rfl rfl rfl) rfl ?_
      refine AL.q (by exact h_store_arr (i := i) (j := 0) (cs := [a, b]) (d := dS (bstr (mtx (k + 2 * i)))) rfl rfl rfl rfl .same rfl hget (by simp)) rfl ?_
      refine AL.nil ?_
      refine th_n ?_
      refine AC.seq ?_
      refine AC.region ?_
      refine AL.p (by exact mv1 rfl) rfl ?_
      refine AL.p (by exact g_arith rfl rfl rfl (by exact wrap_i64 (by omega))) rfl ?_
      refine AL.p (by exact as1 rfl) rfl ?_
      refine AL.nil ?_
      refine th_n ?_
      refine AC.seq ?_
      refine AC.region ?_
      refine AL.p (by exact mv2 rfl) rfl ?_
      refine AL.p (by exact mv1 rfl) rfl ?_
      refine AL.p (by exact mv1 rfl) rfl ?_
      refine AL.p (by exact g_ia_own rfl rfl rfl rfl rfl (by rfl) (by omega) (by rfl)) rfl ?_
      refine AL.p (by exact g_fa_ptr rfl rfl rfl rfl rfl) rfl ?_
      refine AL.q (by exact h_store_arr (i := i) (j := 1) (cs := [dS (bstr (mtx (k + 2 * i))), b]) (d := dI (k + 2 * i + 1)) rfl rfl rfl rfl .same rfl hget2 (by simp)) rfl ?_
      refine AL.nil ?_
      refine th_n ?_
      refine AC.region ?_
      refine AL.p (by exact mv1 rfl) rfl ?_
      refine AL.p (by exact g_arith rfl rfl rfl (by exact wrap_i64 (by omega))) rfl ?_
      refine AL.p (by exact as1 rfl) rfl ?_
      refine AL.nil ?_
      refine ib_n ?_
      refine th_n ?_
      refine AC.region ?_
      refine AL.p (by exact mv1 rfl) rfl ?_
      refine AL.p (by exact g_arith rfl rfl rfl (by exact wrap_i64 (by omega))) rfl ?_
      refine AL.p (by exact as1 rfl) rfl ?_
      refine AL.nil ?_
      refine th_n ?_
      exact ⟨(i + 1, (E.set i [dS (bstr (mtx (k + 2 * i))), b]).set i [dS (bstr (mtx (k + 2 * i))), dI (k + 2 * i + 1)]), ⟨hi1, by rw [List.length_set, List.length_set]; exact hE, hR2⟩, by dsimp only; omega, Weak.ren _ [(100, 100)] hC rfl (by dsimp only; repeat (first | exact True.intro | refine And.intro ?_ ?_ | exact DLead.same | exact DLead.eqI (by omega) | exact rfl | refine ⟨_, rfl, ?_⟩)) (by dsimp only; repeat (first | exact True.intro | refine And.intro ?_ ?_ | exact rfl | refine ⟨_, _, rfl, rfl, ?_⟩)) rfl rfl rfl⟩
    · refine AC.exit ?_
      refine th_e ?_
      refine th_e ?_
      refine ib_y ?_
      refine th_n ?_
      refine AC.seq ?_
      refine AC.region ?_
      refine AL.p (by exact mv1 rfl) rfl ?_
      refine AL.p (by exact as1 rfl) rfl ?_
      refine AL.nil ?_
      refine th_n ?_
      refine AC.ret ?_
      refine bq_r ?_
      dsimp only at hi
      obtain rfl : i = l.length := by omega
      exact retX [] rfl ⟨rfl, rfl⟩ (by repeat (exact DLead.same)) (by repeat (exact True.intro)) rfl rfl
theorem en_markSigS : Enters Try.prog 24 := enters_of Try.func24 rfl rfl
set_option maxHeartbeats 2000000 in
theorem markLabS_T (l : List Lab) (k : Int) (hl : l.length ≤ 1048576) (hk : 0 ≤ k ∧ k + 2 * l.length ≤ 1073741824) (v : Value) (S : Nat → Prop) : ASpec Try.prog 38 [.d (.val v), aI k] [(0, .pred S fun w => TRep w S (vLabs l) v)] (Fun1 (aI (k + 2 * l.length)) []) := by
  refine ASpec.of Try.func38 rfl rfl fun C hC => ?_
  refine AC.seq ?_
  refine AC.weakR (WeakR.openT (els := labsL l) 0 0 rfl rfl (fun w h => h) rfl rfl) ?_
  rintro _ ⟨p, V, S', ⟨hv, hp, hV, hrow, hS, hx⟩, rfl⟩
  rw [labsL_len] at *
  have hR0 := rows2 hV
  refine AC.region ?_
  refine AL.p (by exact as1 rfl) rfl ?_
  refine AL.nil ?_
  refine th_n ?_
  refine AC.seq ?_
  refine AC.seq ?_
  refine AC.region ?_
  refine AL.p (by exact as1 rfl) rfl ?_
  refine AL.nil ?_
  refine th_n ?_
  refine AC.block ?_
  refine AC.loop (ι := Nat × List (List DV)) (fun ⟨i, E⟩ => ⟨29, 108, [(0, .own 100 l.length), (1, aI (k + 2 * i)), (5, aI i)], [(100, some (.arr 80 2 E))]⟩) (fun x => x.1 ≤ l.length ∧ x.2.length = l.length ∧ ∀ j, j < l.length → ∃ a b, x.2[j]? = some [a, b]) (fun x => l.length - x.1) ((0, rowsV 2 l.length V)) ?_ (⟨Nat.zero_le _, rowsV_len _ _ _, hR0⟩) ?_
  · exact Weak.ren _ [(100, 1)] hC rfl (by dsimp only; repeat (first | exact True.intro | refine And.intro ?_ ?_ | exact DLead.same | exact DLead.eqI (by omega) | exact rfl | refine ⟨_, rfl, ?_⟩)) (by dsimp only; repeat (first | exact True.intro | refine And.intro ?_ ?_ | exact rfl | refine ⟨_, _, rfl, rfl, ?_⟩)) rfl rfl rfl
  · rintro ⟨i, E⟩ ⟨hi, hE, hR⟩
    refine AC.seq ?_
    refine AC.seq ?_
    refine AC.region ?_
    refine AL.p (by exact mv1 rfl) rfl ?_
    refine AL.p (by exact mv2 rfl) rfl ?_
    refine AL.p (by exact g_len_own (sz := 1) (els := []) (e' := 0) rfl rfl (by simp only [maxLen]; omega)) rfl ?_
    refine AL.p (by exact g_cmp rfl rfl rfl) rfl ?_
    refine AL.nil ?_
    refine th_n ?_
    refine AC.condD rfl (fun h0 => ?_) (fun h0 => ?_)
    · refine AC.skip ?_
      refine th_n ?_
      refine AC.seq ?_
      refine AC.block ?_
      refine AC.seq ?_
      dsimp only at hi hE hR
      have hi1 : i < l.length := by omega
      obtain ⟨a, b, hget⟩ := hR i hi1
      have hget2 := set_get2 (c' := [dI (k + 2 * i), b]) hget
      have hR1 := rows2_set (i := i) (a := dI (k + 2 * i)) (b := b) hR
      have hR2 := rows2_set (i := i) (a := dI (k + 2 * i)) (b := dT (decide ((k + 2 * i + 1).tmod 3 = 0))) hR1
      refine AC.region ?_
      refine AL.p (by exact mv2 rfl) rfl ?_
      refine AL.p (by exact mv1 rfl) rfl ?_
      refine AL.p (by exact mv1 rfl) rfl ?_
      refine AL.p (by exact g_ia_own rfl rfl rfl rfl rfl (by rfl) (by omega) (by rfl)) rfl ?_
      refine AL.p (by exact g_fa_ptr rfl rfl rfl rfl rfl) rfl ?_
      refine AL.q (by exact h_store_arr (i := i) (j := 0) (cs := [a, b]) (d := dI (k + 2 * i)) rfl rfl rfl rfl .same rfl hget (by simp)) rfl ?_
      refine AL.nil ?_
      refine th_n ?_
      refine AC.seq ?_
      refine AC.region ?_
      refine AL.p (by exact mv1 rfl) rfl ?_
      refine AL.p (by exact g_arith rfl rfl rfl (by exact wrap_i64 (by omega))) rfl ?_
      refine AL.p (by exact as1 rfl) rfl ?_
      refine AL.nil ?_
      refine th_n ?_
      refine AC.seq ?_
      refine AC.region ?_
      refine AL.p (by exact mv2 rfl) rfl ?_
      refine AL.p (by exact mv1 rfl) rfl ?_
      refine AL.p (by exact mv1 rfl) rfl ?_
      refine AL.p (by exact g_rem rfl rfl (by decide) rfl) rfl ?_
      refine AL.p (by exact g_cmp rfl rfl rfl) rfl ?_
      refine AL.p (by exact g_ia_own rfl rfl rfl rfl rfl (by rfl) (by omega) (by rfl)) rfl ?_
      refine AL.p (by exact g_fa_ptr rfl rfl rfl rfl rfl) rfl ?_
      refine AL.q (by exact h_store_arr (i := i) (j := 1) (cs := [dI (k + 2 * i), b]) (d := dT (decide ((k + 2 * i + 1).tmod 3 = 0))) rfl rfl rfl rfl .same rfl hget2 (by simp)) rfl ?_
      refine AL.nil ?_
      refine th_n ?_
      refine AC.region ?_
      refine AL.p (by exact mv1 rfl) rfl ?_
      refine AL.p (by exact g_arith rfl rfl rfl (by exact wrap_i64 (by omega))) rfl ?_
      refine AL.p (by exact as1 rfl) rfl ?_
      refine AL.nil ?_
      refine ib_n ?_
      refine th_n ?_
      refine AC.region ?_
      refine AL.p (by exact mv1 rfl) rfl ?_
      refine AL.p (by exact g_arith rfl rfl rfl (by exact wrap_i64 (by omega))) rfl ?_
      refine AL.p (by exact as1 rfl) rfl ?_
      refine AL.nil ?_
      refine th_n ?_
      exact ⟨(i + 1, (E.set i [dI (k + 2 * i), b]).set i [dI (k + 2 * i), dT (decide ((k + 2 * i + 1).tmod 3 = 0))]), ⟨hi1, by rw [List.length_set, List.length_set]; exact hE, hR2⟩, by dsimp only; omega, Weak.ren _ [(100, 100)] hC rfl (by dsimp only; repeat (first | exact True.intro | refine And.intro ?_ ?_ | exact DLead.same | exact DLead.eqI (by omega) | exact rfl | refine ⟨_, rfl, ?_⟩)) (by dsimp only; repeat (first | exact True.intro | refine And.intro ?_ ?_ | exact rfl | refine ⟨_, _, rfl, rfl, ?_⟩)) rfl rfl rfl⟩
    · refine AC.exit ?_
      refine th_e ?_
      refine th_e ?_
      refine ib_y ?_
      refine th_n ?_
      refine AC.seq ?_
      refine AC.region ?_
      refine AL.p (by exact mv1 rfl) rfl ?_
      refine AL.p (by exact as1 rfl) rfl ?_
      refine AL.nil ?_
      refine th_n ?_
      refine AC.ret ?_
      refine bq_r ?_
      dsimp only at hi
      obtain rfl : i = l.length := by omega
      exact retX [] rfl ⟨rfl, rfl⟩ (by repeat (exact DLead.same)) (by repeat (exact True.intro)) rfl rfl
theorem en_markLabS : Enters Try.prog 38 := enters_of Try.func38 rfl rfl
def wBu (b : Bur) : Nat := 2 + 2 * b.inn.length + 2 * b.out.length
theorem wBu_sum : ∀ l : List Bur, sumL wBu l = 2 * szBrs l
  | [] => rfl
  | b :: l => by
    have := wBu_sum l
    unfold szBrs at this ⊢
    simp only [sumL, List.length_cons, this, wBu, szBr]
    omega
theorem rows4 {n i : Nat} {V : List Value} {v0 v1 v2 v3 : Value} (hi : i < n) (h0 : V[i * 4]? = some v0) (h1 : V[i * 4 + 1]? = some v1) (h2 : V[i * 4 + 2]? = some v2) (h3 : V[i * 4 + 3]? = some v3) : (rowsV 4 n V)[i]? = some [.val v0, .val v1, .val v2, .val v3] := by
  rw [rowsV_get hi]
  simp [List.range_succ, h0, h1, h2, h3]
set_option maxHeartbeats 4000000 in
theorem markBurS_T (l : List Bur) (k : Int) (hl : l.length ≤ 1048576) (hb : ∀ t, t ∈ l → t.inn.length ≤ 1048576 ∧ t.out.length ≤ 1048576) (hk : 0 ≤ k ∧ k + (sumL wBu l : Nat) ≤ 1073741824) (v : Value) (S : Nat → Prop) : ASpec Try.prog 25 [.d (.val v), aI k] [(0, .pred S fun w => TRep w S (vBurs l) v)] (Fun1 (aI (k + (sumL wBu l : Nat))) []) := by
  refine ASpec.of Try.func25 rfl rfl fun C hC => ?_
  refine AC.seq ?_
  refine AC.weakR (WeakR.openT (els := bursL l) 0 0 rfl rfl (fun w h => h) rfl rfl) ?_
  rintro _ ⟨p, V, S', ⟨hv, hp, hV, hrow, hS, hx⟩, rfl⟩
  rw [bursL_len] at *
  refine AC.region ?_
  refine AL.p (by exact as1 rfl) rfl ?_
  refine AL.nil ?_
  refine th_n ?_
  refine AC.seq ?_
  refine AC.seq ?_
  refine AC.region ?_
  refine AL.p (by exact as1 rfl) rfl ?_
  refine AL.nil ?_
  refine th_n ?_
  refine AC.block ?_
  refine AC.loop (ι := Nat × List (List DV) × List DV × (Nat → Prop)) (fun ⟨i, E, L, T⟩ => ⟨41, 108, [(0, .own 100 l.length), (1, aI (k + (sumL wBu (l.take i) : Nat))), (5, aI i)], [(100, some (.arr 46 4 E)), (101, some (.pred T fun w => TL w T L V))]⟩) (fun x => x.1 ≤ l.length ∧ x.2.1.length = l.length ∧ (∀ j, x.1 ≤ j → x.2.1[j]? = (rowsV 4 l.length V)[j]?) ∧ ∀ j, x.1 * 4 ≤ j → x.2.2.1[j]? = (bursL l).flatten[j]?) (fun x => l.length - x.1) ((0, rowsV 4 l.length V, (bursL l).flatten, S')) ?_ (⟨Nat.zero_le _, rowsV_len _ _ _, fun _ _ => rfl, fun _ _ => rfl⟩) ?_
  · have hs0 : sumL wBu (l.take 0) = 0 := rfl
    exact Weak.ren _ [(100, 1), (101, 0)] hC rfl (by dsimp only; repeat (first | exact True.intro | refine And.intro ?_ ?_ | exact DLead.same | exact DLead.eqI (by omega) | exact rfl | refine ⟨_, rfl, ?_⟩)) (by dsimp only; repeat (first | exact True.intro | refine And.intro ?_ ?_ | exact rfl | refine ⟨_, _, rfl, rfl, ?_⟩)) rfl rfl rfl
  · rintro ⟨i, E, L, T⟩ ⟨hi, hE, hR, hL⟩
    refine AC.seq ?_
    refine AC.seq ?_
    refine AC.region ?_
    refine AL.p (by exact mv1 rfl) rfl ?_
    refine AL.p (by exact mv2 rfl) rfl ?_
    refine AL.p (by exact g_len_own (sz := 1) (els := []) (e' := 0) rfl rfl (by simp only [maxLen]; omega)) rfl ?_
    refine AL.p (by exact g_cmp rfl rfl rfl) rfl ?_
    refine AL.nil ?_
    refine th_n ?_
    refine AC.condD rfl (fun h0 => ?_) (fun h0 => ?_)
    · refine AC.skip ?_
      refine th_n ?_
      refine AC.seq ?_
      refine AC.block ?_
      refine AC.seq ?_
      dsimp only at hi hE hR hL ⊢
      have hi1 : i < l.length := by omega
      obtain ⟨v0, hv0⟩ : ∃ v, V[i * 4]? = some v := ⟨_, List.getElem?_eq_getElem (by omega)⟩
      obtain ⟨v1, hv1⟩ : ∃ v, V[i * 4 + 1]? = some v := ⟨_, List.getElem?_eq_getElem (by omega)⟩
      obtain ⟨v2, hv2⟩ : ∃ v, V[i * 4 + 2]? = some v := ⟨_, List.getElem?_eq_getElem (by omega)⟩
      obtain ⟨v3, hv3⟩ : ∃ v, V[i * 4 + 3]? = some v := ⟨_, List.getElem?_eq_getElem (by omega)⟩
      have hget : E[i]? = some [.val v0, .val v1, .val v2, .val v3] := (hR i (Nat.le_refl _)).trans (rows4 hi1 hv0 hv1 hv2 hv3)
      have hb1 := (hb _ (List.getElem_mem hi1)).1
      have hb2 := (hb _ (List.getElem_mem hi1)).2
      have hM := bursL_get hi1
      have hrM := bursL_row l
      have hL1 : L[i * 4 + 1]? = some (vLabs l[i].inn) := (hL _ (by omega)).trans (flat_get hrM hM (j := 1) rfl)
      have hL2 : L[i * 4 + 2]? = some (vLabs l[i].out) := (hL _ (by omega)).trans (flat_get hrM hM (j := 2) rfl)
      have hLl := (List.getElem?_eq_some_iff.1 hL2).1
      have hs1 := sumL_take (wt := wBu) hi1
      have hs2 := sumL_le wBu l (i + 1)
      have hw : wBu l[i] = 2 + 2 * l[i].inn.length + 2 * l[i].out.length := rfl
      obtain ⟨kk, hkk⟩ : ∃ kk : Int, kk = k + (sumL wBu (l.take i) : Nat) := ⟨_, rfl⟩
      rw [← hkk]
      have hget2 := set_get2 (c' := [dI kk, .val v1, .val v2, .val v3]) hget
      have hL2' : (L.set (i * 4 + 1) (.val v1))[i * 4 + 2]? = some (vLabs l[i].out) := by rw [List.getElem?_set_ne (by omega)]; exact hL2
      refine AC.region ?_
      refine AL.p (by exact mv2 rfl) rfl ?_
      refine AL.p (by exact mv1 rfl) rfl ?_
      refine AL.p (by exact mv1 rfl) rfl ?_
      refine AL.p (by exact g_ia_own rfl rfl rfl rfl rfl (by rfl) (by omega) (by rfl)) rfl ?_
      refine AL.p (by exact g_fa_ptr rfl rfl rfl rfl rfl) rfl ?_
      refine AL.q (by exact h_store_arr (i := i) (j := 0) (cs := [.val v0, .val v1, .val v2, .val v3]) (d := dI kk) rfl rfl rfl rfl .same rfl hget (by simp)) rfl ?_
      refine AL.nil ?_
      refine th_n ?_
      refine AC.seq ?_
      refine AC.region ?_
      refine AL.p (by exact mv1 rfl) rfl ?_
      refine AL.p (by exact g_arith rfl rfl rfl (by exact wrap_i64 (by omega))) rfl ?_
      refine AL.p (by exact as1 rfl) rfl ?_
      refine AL.nil ?_
      refine th_n ?_
      refine AC.seq ?_
      refine AC.region ?_
      refine AL.p (by exact mv2 rfl) rfl ?_
      refine AL.p (by exact mv1 rfl) rfl ?_
      refine AL.p (by exact g_ia_own rfl rfl rfl rfl rfl (by rfl) (by omega) (by rfl)) rfl ?_
      refine AL.p (by exact g_fa_ptr rfl rfl rfl rfl rfl) rfl ?_
      refine AL.p (by exact g_load_arr (i := i) (j := 1) (cs := [dI kk, .val v1, .val v2, .val v3]) rfl rfl rfl rfl rfl hget2 rfl) rfl ?_
      refine AL.p (by exact mv1 rfl) rfl ?_
      refine AL.weakR (WeakR.fact 101 (p := okV v1) rfl (fun w h => h.okAt hL1 hv1)) ?_
      rintro _ ⟨hok1, rfl⟩
      refine AL.weakR (WeakR.splitT 101 (i * 4 + 1) (d := vLabs l[i].inn) (v := v1) rfl (fun w h => h) hL1 hv1 rfl) ?_
      rintro _ ⟨S1, S2, hSS, rfl⟩
      refine AL.q (by exact h_fun (cs := [116]) en_markLabS rfl rfl (by repeat (first | exact rfl | exact DLead.same | refine ⟨_, _, rfl, ?_, ?_⟩)) (by repeat (first | exact True.intro | refine And.intro ?_ ?_ | exact rfl | refine ⟨_, _, rfl, rfl, ?_⟩)) (markLabS_T _ _ hb1 (by omega) v1 S1) rfl rfl rfl rfl) rfl ?_
      refine AL.weak (Weak.goneT 101 (i * 4 + 1) rfl (by omega) hv1 hok1) ?_
      refine AL.p (by exact as1 rfl) rfl ?_
      refine AL.nil ?_
      refine th_n ?_
      refine AC.seq ?_
      refine AC.region ?_
      refine AL.p (by exact mv2 rfl) rfl ?_
      refine AL.p (by exact mv1 rfl) rfl ?_
      refine AL.p (by exact g_ia_own rfl rfl rfl rfl rfl (by rfl) (by omega) (by rfl)) rfl ?_
      refine AL.p (by exact g_fa_ptr rfl rfl rfl rfl rfl) rfl ?_
      refine AL.p (by exact g_load_arr (i := i) (j := 2) (cs := [dI kk, .val v1, .val v2, .val v3]) rfl rfl rfl rfl rfl hget2 rfl) rfl ?_
      refine AL.p (by exact mv1 rfl) rfl ?_
      refine AL.weakR (WeakR.fact 101 (p := okV v2) rfl (fun w h => h.okAt hL2' hv2)) ?_
      rintro _ ⟨hok2, rfl⟩
      refine AL.weakR (WeakR.splitT 101 (i * 4 + 2) (d := vLabs l[i].out) (v := v2) rfl (fun w h => h) hL2' hv2 rfl) ?_
      rintro _ ⟨S3, S4, hSS2, rfl⟩
      refine AL.q (by exact h_fun (cs := [132]) en_markLabS rfl rfl (by repeat (first | exact rfl | exact DLead.same | refine ⟨_, _, rfl, ?_, ?_⟩)) (by repeat (first | exact True.intro | refine And.intro ?_ ?_ | exact rfl | refine ⟨_, _, rfl, rfl, ?_⟩)) (markLabS_T _ _ hb2 (by omega) v2 S3) rfl rfl rfl rfl) rfl ?_
      refine AL.weak (Weak.goneT 101 (i * 4 + 2) rfl (by rw [List.length_set]; omega) hv2 hok2) ?_
      refine AL.p (by exact as1 rfl) rfl ?_
      refine AL.nil ?_
      refine th_n ?_
      refine AC.seq ?_
      refine AC.region ?_
      refine AL.p (by exact mv2 rfl) rfl ?_
      refine AL.p (by exact mv1 rfl) rfl ?_
      refine AL.p (by exact mv1 rfl) rfl ?_
      refine AL.p (by exact g_ia_own rfl rfl rfl rfl rfl (by rfl) (by omega) (by rfl)) rfl ?_
      refine AL.p (by exact g_fa_ptr rfl rfl rfl rfl rfl) rfl ?_
      refine AL.q (by exact h_store_arr (i := i) (j := 3) (cs := [dI kk, .val v1, .val v2, .val v3]) (d := dI (kk + 1 + 2 * l[i].inn.length + 2 * l[i].out.length)) rfl rfl rfl rfl .same rfl hget2 (by simp)) rfl ?_
      refine AL.nil ?_
      refine th_n ?_
      refine AC.region ?_
      refine AL.p (by exact mv1 rfl) rfl ?_
      refine AL.p (by exact g_arith rfl rfl rfl (by exact wrap_i64 (by omega))) rfl ?_
      refine AL.p (by exact as1 rfl) rfl ?_
      refine AL.nil ?_
      refine ib_n ?_
      refine th_n ?_
      refine AC.region ?_
      refine AL.p (by exact mv1 rfl) rfl ?_
      refine AL.p (by exact g_arith rfl rfl rfl (by exact wrap_i64 (by omega))) rfl ?_
      refine AL.p (by exact as1 rfl) rfl ?_
      refine AL.nil ?_
      refine th_n ?_
      exact ⟨(i + 1, (E.set i [dI kk, .val v1, .val v2, .val v3]).set i [dI kk, .val v1, .val v2, dI (kk + 1 + 2 * l[i].inn.length + 2 * l[i].out.length)], (L.set (i * 4 + 1) (.val v1)).set (i * 4 + 2) (.val v2), S4), ⟨hi1, by rw [List.length_set, List.length_set]; exact hE, fun j hj => by rw [List.getElem?_set_ne (by dsimp only at hj; omega), List.getElem?_set_ne (by dsimp only at hj; omega)]; exact hR j (by dsimp only at hj; omega), fun j hj => by rw [List.getElem?_set_ne (by dsimp only at hj; omega), List.getElem?_set_ne (by dsimp only at hj; omega)]; exact hL j (by dsimp only at hj; omega)⟩, by dsimp only; omega, Weak.ren _ [(100, 100), (101, 101)] hC rfl (by dsimp only; repeat (first | exact True.intro | refine And.intro ?_ ?_ | exact DLead.same | exact DLead.eqI (by omega) | exact rfl | refine ⟨_, rfl, ?_⟩)) (by dsimp only; repeat (first | exact True.intro | refine And.intro ?_ ?_ | exact rfl | refine ⟨_, _, rfl, rfl, ?_⟩)) rfl rfl rfl⟩
    · refine AC.exit ?_
      refine th_e ?_
      refine th_e ?_
      refine ib_y ?_
      refine th_n ?_
      refine AC.seq ?_
      refine AC.region ?_
      refine AL.p (by exact mv1 rfl) rfl ?_
      refine AL.p (by exact as1 rfl) rfl ?_
      refine AL.nil ?_
      refine th_n ?_
      refine AC.ret ?_
      refine bq_r ?_
      dsimp only at hi
      obtain rfl : i = l.length := by omega
      rw [List.take_length]
      exact retX [] rfl ⟨rfl, rfl⟩ (by repeat (exact DLead.same)) (by repeat (exact True.intro)) rfl rfl
theorem en_markBurS : Enters Try.prog 25 := enters_of Try.func25 rfl rfl
theorem markMach_T (m : Mach) (k : Int) (hS : SmM m) (hk : 0 ≤ k ∧ k + 2 * m.sigs.length + (sumL wBu m.burs : Nat) ≤ 1073741824) (v1 v2 v3 v4 : Value) (S : Nat → Prop) : ASpec Try.prog 10 [.agg [.d (.val v1), .d (.val v2), .d (.val v3), .d (.val v4)], aI k] [(0, .pred S fun w => TL w S [vSigs m.sigs, dI m.states, vBurs m.burs, dS (bstr m.first)] [v1, v2, v3, v4])] (Fun1 (aI (k + 2 * m.sigs.length + (sumL wBu m.burs : Nat))) []) := by
  refine ASpec.of Try.func10 rfl rfl fun C hC => ?_
  refine AC.seq ?_
  refine AC.region ?_
  refine AL.q (by exact h_boxF rfl rfl) rfl ?_
  refine AL.p (by exact as1 rfl) rfl ?_
  refine AL.nil ?_
  refine th_n ?_
  refine AC.seq ?_
  refine AC.region ?_
  refine AL.p (by exact g_fa_ref rfl rfl rfl rfl rfl rfl) rfl ?_
  refine AL.p (by exact g_load_ref rfl rfl rfl) rfl ?_
  refine AL.p (by exact mv1 rfl) rfl ?_
  refine AL.weakR (WeakR.fact 0 (p := okV v1) rfl (fun w h => h.okAt (i := 0) rfl rfl)) ?_
  rintro _ ⟨hok1, rfl⟩
  refine AL.weakR (WeakR.splitT 0 0 (d := vSigs m.sigs) (v := v1) rfl (fun w h => h) rfl rfl rfl) ?_
  rintro _ ⟨S1, S2, hSS, rfl⟩
  refine AL.q (by exact h_fun (cs := [9]) en_markSigS rfl rfl (by repeat (first | exact rfl | exact DLead.same | refine ⟨_, _, rfl, ?_, ?_⟩)) (by repeat (first | exact True.intro | refine And.intro ?_ ?_ | exact rfl | refine ⟨_, _, rfl, rfl, ?_⟩)) (markSigS_T m.sigs k hS.s (by omega) v1 S1) rfl rfl rfl rfl) rfl ?_
  refine AL.weak (Weak.goneT 0 0 rfl (by simp) rfl hok1) ?_
  refine AL.p (by exact as1 rfl) rfl ?_
  refine AL.nil ?_
  refine th_n ?_
  refine AC.seq ?_
  refine AC.region ?_
  refine AL.p (by exact g_fa_ref rfl rfl rfl rfl rfl rfl) rfl ?_
  refine AL.p (by exact g_load_ref rfl rfl rfl) rfl ?_
  refine AL.p (by exact mv1 rfl) rfl ?_
  refine AL.weakR (WeakR.splitT 0 2 (d := vBurs m.burs) (v := v3) rfl (fun w h => h) rfl rfl rfl) ?_
  rintro _ ⟨S3, S4, hSS2, rfl⟩
  refine AL.q (by exact h_fun (cs := [25]) en_markBurS rfl rfl (by repeat (first | exact rfl | exact DLead.same | refine ⟨_, _, rfl, ?_, ?_⟩)) (by repeat (first | exact True.intro | refine And.intro ?_ ?_ | exact rfl | refine ⟨_, _, rfl, rfl, ?_⟩)) (markBurS_T m.burs _ hS.b hS.bl (by omega) v3 S3) rfl rfl rfl rfl) rfl ?_
  refine AL.p (by exact as1 rfl) rfl ?_
  refine AL.nil ?_
  refine th_n ?_
  refine AC.seq ?_
  refine AC.region ?_
  refine AL.p (by exact mv1 rfl) rfl ?_
  refine AL.p (by exact as1 rfl) rfl ?_
  refine AL.nil ?_
  refine th_n ?_
  refine AC.ret ?_
  refine bq_r ?_
  exact retX [] rfl ⟨rfl, rfl⟩ (by repeat (exact DLead.same)) (by repeat (exact True.intro)) rfl rfl
theorem en_markMach : Enters Try.prog 10 := enters_of Try.func10 rfl rfl
/-- The bursts that leave a state, by number. -/
def outK (l : List Bur) (st : Int) (k : Nat) : List Int := ((List.range k).filter (fun i => decide ((bAt l i).from_ = st))).map fun (i : Nat) => (i : Int)
theorem outK_len (l : List Bur) (st : Int) (k : Nat) : (outK l st k).length ≤ k := by
  unfold outK
  rw [List.length_map]
  exact Nat.le_trans (List.length_filter_le _ _) (by simp)
theorem outK_t {l : List Bur} {st : Int} {k : Nat} (hk : k < l.length) (h : l[k].from_ = st) : outK l st (k + 1) = outK l st k ++ [(k : Int)] := by
  unfold outK
  rw [List.range_succ, List.filter_append, List.map_append]
  simp [bAt_nat hk, h]
theorem outK_f {l : List Bur} {st : Int} {k : Nat} (hk : k < l.length) (h : ¬ l[k].from_ = st) : outK l st (k + 1) = outK l st k := by
  unfold outK
  rw [List.range_succ, List.filter_append, List.map_append]
  simp [bAt_nat hk, h]
def inS (m : Mach) (st : Int) : Bool := decide (0 ≤ st) && decide (st ≤ m.states - 1)
def askM (m : Mach) (st : Int) : Bool := goodM m && inS m st
def obR (m : Mach) (st : Int) : List Int := if askM m st = true then outK m.burs st m.burs.length else []
set_option maxHeartbeats 2000000 in
theorem outgoing_T (m : Mach) (st : Int) (hS : SmM m) (hF : FormM m) : ASpec Try.prog 21 [machA m, aI st] [] (OneT (vI (outK m.burs st m.burs.length))) := by
  have hbl := hF.bl
  refine ASpec.of Try.func21 rfl rfl fun C hC => ?_
  refine AC.seq ?_
  refine AC.region ?_
  refine AL.q (by exact h_boxF rfl rfl) rfl ?_
  refine AL.p (by exact as1 rfl) rfl ?_
  refine AL.nil ?_
  refine th_n ?_
  refine AC.seq ?_
  refine AC.region ?_
  refine AL.q (by exact h_lit rfl rfl rfl rfl rfl rfl rfl rfl) rfl ?_
  refine AL.p (by exact as2 rfl) rfl ?_
  refine AL.nil ?_
  refine th_n ?_
  refine AC.seq ?_
  refine AC.seq ?_
  refine AC.region ?_
  refine AL.p (by exact g_fa_ref rfl rfl rfl rfl rfl rfl) rfl ?_
  refine AL.p (by exact g_load_ref rfl rfl rfl) rfl ?_
  refine AL.p (by exact g_len_view rfl rfl (by exact List.length_map _)) rfl ?_
  refine AL.p (by exact mv1 rfl) rfl ?_
  refine AL.nil ?_
  refine th_n ?_
  refine AC.block ?_
  refine AC.loop (ι := Nat) (fun k => ⟨27, 108, [(1, aI st), (2, .d (.ref (machD m))), (5, .own 100 (outK m.burs st k).length), (10, .d (vBurs m.burs)), (11, aI m.burs.length), (12, aI k)], [(100, some (.arr 3 1 (ints (outK m.burs st k))))]⟩) (fun k => k ≤ m.burs.length) (fun k => m.burs.length - k) (0) ?_ (Nat.zero_le _) ?_
  · exact Weak.ren _ [(100, 8)] hC rfl (by repeat (first | exact True.intro | refine And.intro ?_ ?_ | exact DLead.same | exact rfl | refine ⟨_, rfl, ?_⟩)) (by repeat (first | exact True.intro | refine And.intro ?_ ?_ | exact rfl | refine ⟨_, _, rfl, rfl, ?_⟩)) rfl rfl rfl
  · intro k hk
    refine AC.seq ?_
    refine AC.region ?_
    refine AL.p (by exact g_cmp rfl rfl rfl) rfl ?_
    refine AL.nil ?_
    refine th_n ?_
    refine AC.seq ?_
    refine AC.condD rfl (fun h0 => ?_) (fun h0 => ?_)
    · refine AC.skip ?_
      refine th_n ?_
      refine AC.seq ?_
      refine AC.block ?_
      refine AC.seq ?_
      have hk1 : k < m.burs.length := by omega
      have hget := bursL_get hk1
      have hln := outK_len m.burs st k
      refine AC.region ?_
      refine AL.p (by exact mv1 rfl) rfl ?_
      refine AL.p (by exact g_ia_view rfl rfl rfl rfl rfl (by rfl) (by assumption)) rfl ?_
      refine AL.p (by exact g_load_refN rfl rfl rfl rfl) rfl ?_
      refine AL.q (by exact h_alloc rfl) rfl ?_
      refine AL.p (by exact as1 rfl) rfl ?_
      refine AL.q (by exact h_store rfl rfl rfl rfl rfl rfl) rfl ?_
      refine AL.nil ?_
      refine th_n ?_
      refine AC.seq ?_
      refine AC.weak (Weak.freezeRef (ds := burD m.burs[k]) 7 rfl rfl) ?_
      refine AC.region ?_
      refine AL.p (by exact g_fa_ref rfl rfl rfl rfl rfl rfl) rfl ?_
      refine AL.p (by exact g_load_ref rfl rfl rfl) rfl ?_
      refine AL.p (by exact mv1 rfl) rfl ?_
      refine AL.p (by exact g_cmp rfl rfl rfl) rfl ?_
      refine AL.nil ?_
      refine th_n ?_
      refine AC.condD rfl (fun h1 => ?_) (fun h1 => ?_)
      · refine AC.region ?_
        refine AL.p (by exact mv2 rfl) rfl ?_
        refine AL.p (by exact mv1 rfl) rfl ?_
        refine AL.q (by exact h_litF rfl rfl rfl rfl rfl rfl rfl rfl) rfl ?_
        refine AL.q (by exact h_appendI (outK m.burs st k) [(k : Int)] (.own rfl rfl (ints_len _).symm) (.view rfl) (by simp; omega) (by simp)) rfl ?_
        refine AL.p (by exact as2 rfl) rfl ?_
        refine AL.nil ?_
        refine ib_n ?_
        refine th_n ?_
        refine AC.region ?_
        refine AL.p (by exact g_arith rfl rfl rfl (by exact wrap_i64 (by omega))) rfl ?_
        refine AL.p (by exact mv1 rfl) rfl ?_
        refine AL.nil ?_
        refine th_n ?_
        have e := outK_t hk1 h1
        exact ⟨k + 1, by omega, by omega, Weak.ren _ [(100, _)] hC rfl (by rw [e]; repeat (first | exact True.intro | refine And.intro ?_ ?_ | exact DLead.same | exact rfl | refine ⟨_, rfl, ?_⟩)) (by rw [e]; repeat (first | exact True.intro | refine And.intro ?_ ?_ | exact rfl | refine ⟨_, _, rfl, rfl, ?_⟩)) rfl rfl rfl⟩
      · refine AC.skip ?_
        refine ib_n ?_
        refine th_n ?_
        refine AC.region ?_
        refine AL.p (by exact g_arith rfl rfl rfl (by exact wrap_i64 (by omega))) rfl ?_
        refine AL.p (by exact mv1 rfl) rfl ?_
        refine AL.nil ?_
        refine th_n ?_
        have e := outK_f hk1 h1
        exact ⟨k + 1, by omega, by omega, Weak.ren _ [(100, _)] hC rfl (by rw [e]; repeat (first | exact True.intro | refine And.intro ?_ ?_ | exact DLead.same | exact rfl | refine ⟨_, rfl, ?_⟩)) (by rw [e]; repeat (first | exact True.intro | refine And.intro ?_ ?_ | exact rfl | refine ⟨_, _, rfl, rfl, ?_⟩)) rfl rfl rfl⟩
    · refine AC.exit ?_
      refine th_e ?_
      refine th_e ?_
      refine ib_y ?_
      refine th_n ?_
      refine AC.seq ?_
      have hkk : k = m.burs.length := by omega
      subst hkk
      refine AC.weakR (WeakR.raw (id := 100) 5 rfl rfl (Nat.le_of_eq (ints_len _).symm) (ints_all _) (ints_flat _)) ?_
      rintro _ ⟨v, S, rfl⟩
      refine AC.region ?_
      refine AL.p (by exact mv1 rfl) rfl ?_
      refine AL.p (by exact as1 rfl) rfl ?_
      refine AL.nil ?_
      refine th_n ?_
      refine AC.ret ?_
      refine bq_r ?_
      exact retX [(0, 108)] rfl ⟨v, S, rfl, rfl⟩ (by repeat (exact DLead.same)) (by repeat (first | exact True.intro | refine And.intro ?_ ?_ | exact rfl | refine ⟨_, _, rfl, rfl, ?_⟩)) rfl rfl
theorem en_outgoing : Enters Try.prog 21 := enters_of Try.func21 rfl rfl
theorem goodM_form {m : Mach} (h : goodM m = true) : FormM m := by
  unfold goodM at h
  rw [Bool.and_eq_true] at h
  exact formB_iff h.1
set_option maxHeartbeats 2000000 in
theorem iOutB_T (m : Mach) (st : Int) (hS : SmM m) (hst : okI st) : ASpec Try.prog 7 [machA m, aI st] [] (TupT (obR m st) (askM m st)) := by
  have hG := iIsValidMach_spec m hS
  have hms := hS.st
  obtain ⟨g, hg⟩ : ∃ g, g = goodM m := ⟨_, rfl⟩
  obtain ⟨b, hb⟩ : ∃ b, b = inS m st := ⟨_, rfl⟩
  have hE : askM m st = (g && b) := by unfold askM; rw [hg, hb]
  have hR : obR m st = if (g && b) = true then outK m.burs st m.burs.length else [] := by rw [← hE]; rfl
  have hfm : g = true → FormM m := fun q => goodM_form (hg.symm.trans q)
  rw [← hg] at hG
  rw [hE, hR]
  refine ASpec.of Try.func7 rfl rfl fun C hC => ?_
  refine AC.seq ?_
  refine AC.region ?_
  refine AL.q (by exact h_boxF rfl rfl) rfl ?_
  refine AL.p (by exact as1 rfl) rfl ?_
  refine AL.p (by exact as1 rfl) rfl ?_
  refine AL.nil ?_
  refine th_n ?_
  refine AC.seq ?_
  refine AC.seq ?_
  refine AC.region ?_
  refine AL.p (by exact g_load_refN rfl rfl rfl rfl) rfl ?_
  refine AL.q (by exact h_pure en_iIsValidMach rfl rfl (by repeat (first | exact rfl | exact DLead.same | refine ⟨_, _, rfl, ?_, ?_⟩ | refine ⟨_, rfl, ?_⟩)) hG rfl) rfl ?_
  refine AL.p (by exact g_not rfl) rfl ?_
  refine AL.p (by exact mv1 rfl) rfl ?_
  refine AL.caseGB rfl rfl (fun h0 => ?_) (fun h0 => ?_)
  · refine AL.not rfl rfl rfl rfl rfl ?_
    refine AL.not rfl rfl rfl rfl rfl ?_
    refine AL.not rfl rfl rfl rfl rfl ?_
    refine AL.not rfl rfl rfl rfl rfl ?_
    refine AL.not rfl rfl rfl rfl rfl ?_
    refine AL.not rfl rfl rfl rfl rfl ?_
    refine AL.p (by exact g_pickT (r := .d _) rfl rfl) rfl ?_
    refine AL.nil ?_
    refine th_n ?_
    refine AC.condT rfl ?_
    refine AC.seq ?_
    refine AC.weak Weak.nilT ?_
    refine AC.region ?_
    refine AL.p (by exact as1 rfl) rfl ?_
    refine AL.p (by exact as1 rfl) rfl ?_
    refine AL.nil ?_
    refine th_n ?_
    refine AC.ret ?_
    refine th_r ?_
    refine bq_r ?_
    (have q : g = false := (Bool.not_eq_true' _).mp h0; rw [q, Bool.false_and, if_neg Bool.false_ne_true]; exact retX [(0, 16)] rfl ⟨_, _, rfl, rfl⟩ (by repeat (first | exact DLead.same | exact rfl | refine ⟨_, rfl, ?_⟩ | refine ⟨_, _, rfl, ?_, ?_⟩)) (by repeat (first | exact True.intro | refine And.intro ?_ ?_ | exact rfl | refine ⟨_, _, rfl, rfl, ?_⟩)) rfl rfl)
  · refine AL.yes rfl rfl rfl ?_
    have hgt : g = true := (Bool.not_eq_false' _).mp h0
    have hfs := (hfm hgt).st
    have hX := within_spec st 0 (m.states - 1)
    change ASpec Try.prog 20 _ _ (Pure1 (aT (inS m st))) at hX
    rw [← hb] at hX
    refine AL.p (by exact mv1 rfl) rfl ?_
    refine AL.yes rfl rfl rfl ?_
    refine AL.p (by exact g_fa_ref rfl rfl rfl rfl rfl rfl) rfl ?_
    refine AL.yes rfl rfl rfl ?_
    refine AL.p (by exact g_load_ref rfl rfl rfl) rfl ?_
    refine AL.yes rfl rfl rfl ?_
    refine AL.p (by exact g_arith rfl rfl rfl (by exact wrap_i64 (by omega))) rfl ?_
    refine AL.yes rfl rfl rfl ?_
    refine AL.q (by exact h_pure en_within rfl rfl (by repeat (first | exact rfl | exact DLead.same | refine ⟨_, _, rfl, ?_, ?_⟩)) hX rfl) rfl ?_
    refine AL.yes rfl rfl rfl ?_
    refine AL.p (by exact g_not rfl) rfl ?_
    refine AL.p (by exact g_pickF (r := .d _) rfl rfl) rfl ?_
    refine AL.nil ?_
    refine th_n ?_
    refine AC.condB rfl (fun h1 => ?_) (fun h1 => ?_)
    · refine AC.seq ?_
      refine AC.weak Weak.nilT ?_
      refine AC.region ?_
      refine AL.p (by exact as1 rfl) rfl ?_
      refine AL.p (by exact as1 rfl) rfl ?_
      refine AL.nil ?_
      refine th_n ?_
      refine AC.ret ?_
      refine th_r ?_
      refine bq_r ?_
      (have q : b = false := (Bool.not_eq_true' _).mp h1; rw [q, Bool.and_false, if_neg Bool.false_ne_true]; exact retX [(0, 24)] rfl ⟨_, _, rfl, rfl⟩ (by repeat (first | exact DLead.same | exact rfl | refine ⟨_, rfl, ?_⟩ | refine ⟨_, _, rfl, ?_, ?_⟩)) (by repeat (first | exact True.intro | refine And.intro ?_ ?_ | exact rfl | refine ⟨_, _, rfl, rfl, ?_⟩)) rfl rfl)
    · refine AC.skip ?_
      refine th_n ?_
      refine AC.seq ?_
      have q := (Bool.not_eq_false' _).mp h1
      have hO := outgoing_T m st hS (hfm hgt)
      refine AC.region ?_
      refine AL.p (by exact g_load_refN rfl rfl rfl rfl) rfl ?_
      refine AL.p (by exact mv1 rfl) rfl ?_
      refine AL.r (by exact h_funR (cs := []) en_outgoing rfl rfl (by repeat (first | exact rfl | exact DLead.same | refine ⟨_, _, rfl, ?_, ?_⟩ | refine ⟨_, rfl, ?_⟩)) (by repeat (exact True.intro)) hO rfl rfl rfl) rfl ?_
      rintro _ ⟨_, _, ⟨v, S, rfl, rfl⟩, rfl⟩
      refine AL.p (by exact as1 rfl) rfl ?_
      refine AL.p (by exact as1 rfl) rfl ?_
      refine AL.nil ?_
      refine th_n ?_
      refine AC.ret ?_
      refine bq_r ?_
      rw [hgt, q, Bool.and_true, if_pos rfl]
      exact retX [(0, 24)] rfl ⟨v, S, rfl, rfl⟩ (by repeat (first | exact DLead.same | exact rfl | refine ⟨_, rfl, ?_⟩ | refine ⟨_, _, rfl, ?_, ?_⟩)) (by repeat (first | exact True.intro | refine And.intro ?_ ?_ | exact rfl | refine ⟨_, _, rfl, rfl, ?_⟩)) rfl rfl
theorem en_iOutB : Enters Try.prog 7 := enters_of Try.func7 rfl rfl
set_option maxHeartbeats 2000000 in
theorem sOutB_spec (m : Mach) (st : Int) (hS : SmM m) (hst : okI st) : ASpec Try.prog 5 [machA m, aI st] [] (Pure1 (.tup [.d (vI (obR m st)), aT (askM m st)])) := by
  have hG := l24Good_spec m hS
  have hms := hS.st
  obtain ⟨g, hg⟩ : ∃ g, g = goodM m := ⟨_, rfl⟩
  obtain ⟨b, hb⟩ : ∃ b, b = inS m st := ⟨_, rfl⟩
  have hE : askM m st = (g && b) := by unfold askM; rw [hg, hb]
  have hR : obR m st = if (g && b) = true then outK m.burs st m.burs.length else [] := by rw [← hE]; rfl
  have hfm : g = true → FormM m := fun q => goodM_form (hg.symm.trans q)
  rw [← hg] at hG
  rw [hE, hR]
  refine ASpec.of Try.func5 rfl rfl fun C hC => ?_
  refine AC.seq ?_
  refine AC.region ?_
  refine AL.q (by exact h_boxF rfl rfl) rfl ?_
  refine AL.p (by exact as1 rfl) rfl ?_
  refine AL.p (by exact as1 rfl) rfl ?_
  refine AL.nil ?_
  refine th_n ?_
  refine AC.seq ?_
  refine AC.seq ?_
  refine AC.region ?_
  refine AL.p (by exact g_load_refN rfl rfl rfl rfl) rfl ?_
  refine AL.q (by exact h_pure en_l24Good rfl rfl (by repeat (first | exact rfl | exact DLead.same | refine ⟨_, _, rfl, ?_, ?_⟩ | refine ⟨_, rfl, ?_⟩)) hG rfl) rfl ?_
  refine AL.p (by exact g_not rfl) rfl ?_
  refine AL.p (by exact mv1 rfl) rfl ?_
  refine AL.caseGB rfl rfl (fun h0 => ?_) (fun h0 => ?_)
  · refine AL.not rfl rfl rfl rfl rfl ?_
    refine AL.not rfl rfl rfl rfl rfl ?_
    refine AL.not rfl rfl rfl rfl rfl ?_
    refine AL.not rfl rfl rfl rfl rfl ?_
    refine AL.not rfl rfl rfl rfl rfl ?_
    refine AL.not rfl rfl rfl rfl rfl ?_
    refine AL.p (by exact g_pickT (r := .d _) rfl rfl) rfl ?_
    refine AL.nil ?_
    refine th_n ?_
    refine AC.condT rfl ?_
    refine AC.seq ?_
    refine AC.region ?_
    refine AL.p (by exact as1 rfl) rfl ?_
    refine AL.p (by exact as1 rfl) rfl ?_
    refine AL.nil ?_
    refine th_n ?_
    refine AC.ret ?_
    refine th_r ?_
    refine bq_r ?_
    (have q : g = false := (Bool.not_eq_true' _).mp h0; exact ret0 rfl (by rw [q, Bool.false_and, if_neg Bool.false_ne_true]; repeat (first | exact DLead.same | exact DLead.nil | exact rfl | refine ⟨_, rfl, ?_⟩ | refine ⟨_, _, rfl, ?_, ?_⟩)))
  · refine AL.yes rfl rfl rfl ?_
    have hgt : g = true := (Bool.not_eq_false' _).mp h0
    have hfs := (hfm hgt).st
    have hbl := (hfm hgt).bl
    have hX := l1In_spec st 0 (m.states - 1)
    change ASpec Try.prog 16 _ _ (Pure1 (aT (inS m st))) at hX
    rw [← hb] at hX
    refine AL.p (by exact mv1 rfl) rfl ?_
    refine AL.yes rfl rfl rfl ?_
    refine AL.p (by exact g_fa_ref rfl rfl rfl rfl rfl rfl) rfl ?_
    refine AL.yes rfl rfl rfl ?_
    refine AL.p (by exact g_load_ref rfl rfl rfl) rfl ?_
    refine AL.yes rfl rfl rfl ?_
    refine AL.p (by exact g_arith rfl rfl rfl (by exact wrap_i64 (by omega))) rfl ?_
    refine AL.yes rfl rfl rfl ?_
    refine AL.q (by exact h_pure en_l1In rfl rfl (by repeat (first | exact rfl | exact DLead.same | refine ⟨_, _, rfl, ?_, ?_⟩)) hX rfl) rfl ?_
    refine AL.yes rfl rfl rfl ?_
    refine AL.p (by exact g_not rfl) rfl ?_
    refine AL.p (by exact g_pickF (r := .d _) rfl rfl) rfl ?_
    refine AL.nil ?_
    refine th_n ?_
    refine AC.condB rfl (fun h1 => ?_) (fun h1 => ?_)
    · refine AC.seq ?_
      refine AC.region ?_
      refine AL.p (by exact as1 rfl) rfl ?_
      refine AL.p (by exact as1 rfl) rfl ?_
      refine AL.nil ?_
      refine th_n ?_
      refine AC.ret ?_
      refine th_r ?_
      refine bq_r ?_
      (have q : b = false := (Bool.not_eq_true' _).mp h1; exact ret0 rfl (by rw [q, Bool.and_false, if_neg Bool.false_ne_true]; repeat (first | exact DLead.same | exact DLead.nil | exact rfl | refine ⟨_, rfl, ?_⟩ | refine ⟨_, _, rfl, ?_, ?_⟩)))
    · refine AC.skip ?_
      refine th_n ?_
      refine AC.seq ?_
      refine AC.region ?_
      refine AL.p (by exact as1 rfl) rfl ?_
      refine AL.nil ?_
      refine th_n ?_
      refine AC.seq ?_
      refine AC.seq ?_
      refine AC.region ?_
      refine AL.p (by exact g_fa_ref rfl rfl rfl rfl rfl rfl) rfl ?_
      refine AL.p (by exact g_load_ref rfl rfl rfl) rfl ?_
      refine AL.p (by exact g_len_view rfl rfl (by exact List.length_map _)) rfl ?_
      refine AL.p (by exact mv1 rfl) rfl ?_
      refine AL.nil ?_
      refine th_n ?_
      refine AC.block ?_
      refine AC.loop (ι := Nat) (fun k => ⟨38, 108, [(1, aI st), (2, .d (.ref (machD m))), (6, .own 100 (outK m.burs st k).length), (21, .d (vBurs m.burs)), (22, aI m.burs.length), (23, aI k)], [(100, some (.arr 3 1 (ints (outK m.burs st k))))]⟩) (fun k => k ≤ m.burs.length) (fun k => m.burs.length - k) (0) ?_ (Nat.zero_le _) ?_
      · exact (Weak.nilOwn (i := 6) (e := 3) (sz := 1) rfl (by decide)).trans (Weak.ren _ [(100, _)] hC rfl (by repeat (first | exact True.intro | refine And.intro ?_ ?_ | exact DLead.same | exact rfl | refine ⟨_, rfl, ?_⟩)) (by repeat (first | exact True.intro | refine And.intro ?_ ?_ | exact rfl | refine ⟨_, _, rfl, rfl, ?_⟩)) rfl rfl rfl)
      · intro k hk
        refine AC.seq ?_
        refine AC.region ?_
        refine AL.p (by exact g_cmp rfl rfl rfl) rfl ?_
        refine AL.nil ?_
        refine th_n ?_
        refine AC.seq ?_
        refine AC.condD rfl (fun h2 => ?_) (fun h2 => ?_)
        · refine AC.skip ?_
          refine th_n ?_
          refine AC.seq ?_
          refine AC.block ?_
          refine AC.seq ?_
          have hk1 : k < m.burs.length := by omega
          have hget := bursL_get hk1
          have hln := outK_len m.burs st k
          refine AC.region ?_
          refine AL.p (by exact mv1 rfl) rfl ?_
          refine AL.p (by exact g_ia_view rfl rfl rfl rfl rfl (by rfl) (by assumption)) rfl ?_
          refine AL.p (by exact g_load_refN rfl rfl rfl rfl) rfl ?_
          refine AL.q (by exact h_alloc rfl) rfl ?_
          refine AL.p (by exact as1 rfl) rfl ?_
          refine AL.q (by exact h_store rfl rfl rfl rfl rfl rfl) rfl ?_
          refine AL.nil ?_
          refine th_n ?_
          refine AC.seq ?_
          refine AC.weak (Weak.freezeRef (ds := burD m.burs[k]) 8 rfl rfl) ?_
          refine AC.region ?_
          refine AL.p (by exact g_fa_ref rfl rfl rfl rfl rfl rfl) rfl ?_
          refine AL.p (by exact g_load_ref rfl rfl rfl) rfl ?_
          refine AL.p (by exact mv1 rfl) rfl ?_
          refine AL.p (by exact g_cmp rfl rfl rfl) rfl ?_
          refine AL.nil ?_
          refine th_n ?_
          refine AC.condD rfl (fun h3 => ?_) (fun h3 => ?_)
          · refine AC.region ?_
            refine AL.p (by exact mv2 rfl) rfl ?_
            refine AL.p (by exact mv1 rfl) rfl ?_
            refine AL.q (by exact h_litF rfl rfl rfl rfl rfl rfl rfl rfl) rfl ?_
            refine AL.q (by exact h_appendI (outK m.burs st k) [(k : Int)] (.own rfl rfl (ints_len _).symm) (.view rfl) (by simp; omega) (by simp)) rfl ?_
            refine AL.p (by exact as2 rfl) rfl ?_
            refine AL.nil ?_
            refine ib_n ?_
            refine th_n ?_
            refine AC.region ?_
            refine AL.p (by exact g_arith rfl rfl rfl (by exact wrap_i64 (by omega))) rfl ?_
            refine AL.p (by exact mv1 rfl) rfl ?_
            refine AL.nil ?_
            refine th_n ?_
            have e := outK_t hk1 h3
            exact ⟨k + 1, by omega, by omega, Weak.ren _ [(100, _)] hC rfl (by rw [e]; repeat (first | exact True.intro | refine And.intro ?_ ?_ | exact DLead.same | exact rfl | refine ⟨_, rfl, ?_⟩)) (by rw [e]; repeat (first | exact True.intro | refine And.intro ?_ ?_ | exact rfl | refine ⟨_, _, rfl, rfl, ?_⟩)) rfl rfl rfl⟩
          · refine AC.skip ?_
            refine ib_n ?_
            refine th_n ?_
            refine AC.region ?_
            refine AL.p (by exact g_arith rfl rfl rfl (by exact wrap_i64 (by omega))) rfl ?_
            refine AL.p (by exact mv1 rfl) rfl ?_
            refine AL.nil ?_
            refine th_n ?_
            have e := outK_f hk1 h3
            exact ⟨k + 1, by omega, by omega, Weak.ren _ [(100, _)] hC rfl (by rw [e]; repeat (first | exact True.intro | refine And.intro ?_ ?_ | exact DLead.same | exact rfl | refine ⟨_, rfl, ?_⟩)) (by rw [e]; repeat (first | exact True.intro | refine And.intro ?_ ?_ | exact rfl | refine ⟨_, _, rfl, rfl, ?_⟩)) rfl rfl rfl⟩
        · refine AC.exit ?_
          refine th_e ?_
          refine th_e ?_
          refine ib_y ?_
          refine th_n ?_
          refine AC.seq ?_
          have hkk : k = m.burs.length := by omega
          subst hkk
          have q := (Bool.not_eq_false' _).mp h1
          refine AC.weak (Weak.freeze (i := 6) rfl rfl (Nat.le_of_eq (ints_len _).symm) (ints_all _)) ?_
          refine AC.region ?_
          refine AL.p (by exact mv1 rfl) rfl ?_
          refine AL.p (by exact as1 rfl) rfl ?_
          refine AL.p (by exact as1 rfl) rfl ?_
          refine AL.nil ?_
          refine th_n ?_
          refine AC.ret ?_
          refine bq_r ?_
          exact ret0 rfl (by rw [hgt, q, Bool.and_true, if_pos rfl]; repeat (first | exact DLead.same | exact rfl | refine ⟨_, rfl, ?_⟩ | refine ⟨_, _, rfl, ?_, ?_⟩))
theorem en_sOutB : Enters Try.prog 5 := enters_of Try.func5 rfl rfl
end Go.Proofs.Ytbmlfcjoeieibaa

