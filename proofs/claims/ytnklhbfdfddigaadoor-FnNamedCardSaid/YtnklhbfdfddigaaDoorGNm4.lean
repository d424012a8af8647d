/- Contracts of the functions of the program and of the reference, each proved by a walk through its code. -/
import Derived.WalkKit
import Derived.WalkSpells
import Derived.WalkLawsBesides
import Derived.Deep.Draws
import Derived.Lib.Hide
import Derived.Maps.AppendAt
import Derived.OwnWalk
import Derived.Deep.MidRow
import Derived.Laws.ResultCell
import Derived.Deep.Upon
import Derived.Great.FillDense
import Derived.Laws.Tables
import Derived.Laws.BytesArg
import Derived.Laws.MakeOwn
import Derived.Great.BuildSlice
import Derived.ArgAppend
import Derived.Deep.AppendSrc
import Derived.Test.YtnklhbfdfddigaaDoorProg
import Derived.KernelRfl
import Derived.Orders
import Derived.Laws.IdiomStrings
import Derived.Lib.AppendZerosOnto
import Derived.ProofKit
import Derived.OpenShut
import Derived.Laws.StructEq
import Derived.ChangeKeysEq
import Derived.Shelf.Strconv.Itoa0
import Derived.Shelf.Strconv.Itoa1
import Derived.Shelf.LaysM
import Derived.Shelf.Strconv.Itoa2
import Derived.Shelf.Strconv.Itoa3
import Derived.Shelf.Slices.Turned
import Derived.Test.YtnklhbfdfddigaaDoorRows
import Derived.Below
import Derived.Test.YtnklhbfdfddigaaDoorGNm3
set_option linter.all false
set_option maxRecDepth 20000
namespace Go.Proofs.YtnklhbfdfddigaaDoor
open Go.RowKit

set_option maxHeartbeats 1000000 in
theorem l2Name_spec (m : List UInt8) (hm : m.length ≤ 2000000) : ASpec Tryd.prog 64 [aS (bstr m)] [] (Pure1 (aT (nameB m))) := by
  have hsz := bstr_size m
  refine ASpec.of Tryd.func64 rfl rfl fun C hC => ?_
  refine AC.seq ?_
  refine AC.region ?_
  refine AL.p (by exact as1 rfl) rfl ?_
  refine AL.nil ?_
  refine th_n ?_
  refine AC.seq ?_
  refine AC.seq ?_
  refine AC.region ?_
  refine AL.p (by exact as1 rfl) rfl ?_
  refine AL.nil ?_
  refine th_n ?_
  refine AC.block ?_
  refine AC.loop (ι := Nat) (fun k => ⟨42, 0, [(0, aS (bstr m)), (3, aI k)], []⟩) (fun k => k ≤ m.length ∧ ∀ j (hj : j < m.length), j < k → nameC j m[j] = true) (fun k => m.length - k) (0) ?_ (⟨Nat.zero_le _, fun j _ hj => by omega⟩) ?_
  · refine Weak.ren _ [] hC rfl ?_ ?_ rfl rfl rfl <;> repeat (first | exact True.intro | refine And.intro ?_ ?_ | exact DLead.same)
  · intro k ⟨hk, hall⟩
    refine AC.seq ?_
    refine AC.seq ?_
    refine AC.region ?_
    refine AL.p (by exact mv1 rfl) rfl ?_
    refine AL.p (by exact mv1 rfl) rfl ?_
    refine AL.p (by exact g_len_str rfl rfl rfl) rfl ?_
    refine AL.p (by exact g_cmp rfl rfl rfl) rfl ?_
    refine AL.nil ?_
    refine th_n ?_
    refine AC.condD rfl (fun h0 => ?_) (fun h0 => ?_)
    · refine AC.skip ?_
      refine th_n ?_
      refine AC.seq ?_
      refine AC.block ?_
      refine AC.seq ?_
      have hk1 : k < m.length := by omega
      have hget := bstr_at hk1
      have hlt := m[k].toNat_lt
      refine AC.region ?_
      refine AL.p (by exact mv1 rfl) rfl ?_
      refine AL.p (by exact mv1 rfl) rfl ?_
      refine AL.p (by exact g_index rfl rfl rfl (by rfl) (by assumption)) rfl ?_
      refine AL.p (by exact g_cmp rfl rfl rfl) rfl ?_
      refine AL.p (by exact mv1 rfl) rfl ?_
      refine AL.caseG rfl rfl (fun h1 => ?_) (fun h1 => ?_)
      · refine AL.yes rfl rfl rfl ?_
        refine AL.p (by exact mv1 rfl) rfl ?_
        refine AL.yes rfl rfl rfl ?_
        refine AL.p (by exact mv1 rfl) rfl ?_
        refine AL.yes rfl rfl rfl ?_
        refine AL.p (by exact g_index rfl rfl rfl (by rfl) (by assumption)) rfl ?_
        refine AL.yes rfl rfl rfl ?_
        refine AL.p (by exact g_cmp rfl rfl rfl) rfl ?_
        refine AL.p (by exact g_pickT (r := .d _) rfl rfl) rfl ?_
        refine AL.p (by exact as1 rfl) rfl ?_
        refine AL.nil ?_
        refine th_n ?_
        refine AC.seq ?_
        refine AC.region ?_
        refine AL.p (by exact mv1 rfl) rfl ?_
        refine AL.p (by exact g_not rfl) rfl ?_
        refine AL.p (by exact mv1 rfl) rfl ?_
        refine AL.caseGN rfl rfl (fun h2 => ?_) (fun h2 => ?_)
        · refine AL.yes rfl rfl rfl ?_
          refine AL.p (by exact mv1 rfl) rfl ?_
          refine AL.yes rfl rfl rfl ?_
          refine AL.p (by exact g_cmp rfl rfl rfl) rfl ?_
          refine AL.yes rfl rfl rfl ?_
          refine AL.p (by exact mv1 rfl) rfl ?_
          refine AL.caseG rfl rfl (fun h3 => ?_) (fun h3 => ?_)
          · refine AL.not rfl rfl rfl rfl rfl ?_
            refine AL.not rfl rfl rfl rfl rfl ?_
            refine AL.not rfl rfl rfl rfl rfl ?_
            refine AL.not rfl rfl rfl rfl rfl ?_
            refine AL.yes rfl rfl rfl ?_
            refine AL.p (by exact g_pickT (r := .d _) rfl rfl) rfl ?_
            refine AL.yes rfl rfl rfl ?_
            refine AL.p (by exact mv1 rfl) rfl ?_
            refine AL.not rfl rfl rfl rfl rfl ?_
            refine AL.not rfl rfl rfl rfl rfl ?_
            refine AL.not rfl rfl rfl rfl rfl ?_
            refine AL.not rfl rfl rfl rfl rfl ?_
            refine AL.yes rfl rfl rfl ?_
            refine AL.p (by exact g_pickT (r := .d _) rfl rfl) rfl ?_
            refine AL.p (by exact g_pickT (r := .d _) rfl rfl) rfl ?_
            refine AL.nil ?_
            refine th_n ?_
            refine AC.condT rfl ?_
            refine AC.seq ?_
            refine AC.region ?_
            refine AL.p (by exact as1 rfl) rfl ?_
            refine AL.nil ?_
            refine th_n ?_
            refine AC.ret ?_
            refine ib_r ?_
            refine th_r ?_
            refine th_r ?_
            refine ib_r ?_
            refine th_r ?_
            refine bq_r ?_
            have hb : nameC k m[k] = false := nameC_no (by simp_all <;> omega)
            exact ret1 rfl (by rw [nameB_no hk1 (by rw [List.getD_eq_getElem?_getD, List.getElem?_eq_getElem hk1]; exact hb)])
          · refine AL.yes rfl rfl rfl ?_
            refine AL.p (by exact mv1 rfl) rfl ?_
            refine AL.yes rfl rfl rfl ?_
            refine AL.p (by exact mv1 rfl) rfl ?_
            refine AL.yes rfl rfl rfl ?_
            refine AL.p (by exact g_index rfl rfl rfl (by rfl) (by assumption)) rfl ?_
            refine AL.yes rfl rfl rfl ?_
            refine AL.p (by exact g_cmp rfl rfl rfl) rfl ?_
            refine AL.yes rfl rfl rfl ?_
            refine AL.p (by exact g_pickF (r := .d _) rfl rfl) rfl ?_
            refine AL.yes rfl rfl rfl ?_
            refine AL.p (by exact mv1 rfl) rfl ?_
            refine AL.caseG rfl rfl (fun h4 => ?_) (fun h4 => ?_)
            · refine AL.not rfl rfl rfl rfl rfl ?_
              refine AL.not rfl rfl rfl rfl rfl ?_
              refine AL.not rfl rfl rfl rfl rfl ?_
              refine AL.not rfl rfl rfl rfl rfl ?_
              refine AL.yes rfl rfl rfl ?_
              refine AL.p (by exact g_pickT (r := .d _) rfl rfl) rfl ?_
              refine AL.p (by exact g_pickT (r := .d _) rfl rfl) rfl ?_
              refine AL.nil ?_
              refine th_n ?_
              refine AC.condT rfl ?_
              refine AC.seq ?_
              refine AC.region ?_
              refine AL.p (by exact as1 rfl) rfl ?_
              refine AL.nil ?_
              refine th_n ?_
              refine AC.ret ?_
              refine ib_r ?_
              refine th_r ?_
              refine th_r ?_
              refine ib_r ?_
              refine th_r ?_
              refine bq_r ?_
              have hb : nameC k m[k] = false := nameC_no (by simp_all <;> omega)
              exact ret1 rfl (by rw [nameB_no hk1 (by rw [List.getD_eq_getElem?_getD, List.getElem?_eq_getElem hk1]; exact hb)])
            · refine AL.yes rfl rfl rfl ?_
              refine AL.p (by exact mv1 rfl) rfl ?_
              refine AL.yes rfl rfl rfl ?_
              refine AL.p (by exact mv1 rfl) rfl ?_
              refine AL.yes rfl rfl rfl ?_
              refine AL.p (by exact g_index rfl rfl rfl (by rfl) (by assumption)) rfl ?_
              refine AL.yes rfl rfl rfl ?_
              refine AL.p (by exact g_cmp rfl rfl rfl) rfl ?_
              refine AL.yes rfl rfl rfl ?_
              refine AL.p (by exact g_pickF (r := .d _) rfl rfl) rfl ?_
              refine AL.p (by exact g_pickT (r := .d _) rfl rfl) rfl ?_
              refine AL.nil ?_
              refine th_n ?_
              refine AC.condD rfl (fun h5 => ?_) (fun h5 => ?_)
              · refine AC.seq ?_
                refine AC.region ?_
                refine AL.p (by exact as1 rfl) rfl ?_
                refine AL.nil ?_
                refine th_n ?_
                refine AC.ret ?_
                refine ib_r ?_
                refine th_r ?_
                refine th_r ?_
                refine ib_r ?_
                refine th_r ?_
                refine bq_r ?_
                have hb : nameC k m[k] = false := nameC_no (by simp_all <;> omega)
                exact ret1 rfl (by rw [nameB_no hk1 (by rw [List.getD_eq_getElem?_getD, List.getElem?_eq_getElem hk1]; exact hb)])
              · refine AC.skip ?_
                refine ib_n ?_
                refine th_n ?_
                refine AC.region ?_
                refine AL.p (by exact mv1 rfl) rfl ?_
                refine AL.p (by exact g_arith rfl rfl rfl (by exact wrap_i64 (by omega))) rfl ?_
                refine AL.p (by exact as1 rfl) rfl ?_
                refine AL.nil ?_
                refine th_n ?_
                have hb : nameC k m[k] = true := nameC_iff.2 (by simp_all <;> omega)
                exact ⟨k + 1, ⟨by omega, fun j hj hj2 => by rcases Nat.lt_succ_iff_lt_or_eq.1 hj2 with h | rfl; exact hall j hj h; exact hb⟩, by omega, Weak.ren _ [] hC rfl (by repeat (first | exact True.intro | refine And.intro ?_ ?_ | exact DLead.same)) (by repeat (exact True.intro)) rfl rfl rfl⟩
        · refine AL.not rfl rfl rfl rfl rfl ?_
          refine AL.not rfl rfl rfl rfl rfl ?_
          refine AL.not rfl rfl rfl rfl rfl ?_
          refine AL.notU rfl rfl rfl ?_
          refine AL.notU rfl rfl rfl ?_
          refine AL.notU rfl rfl rfl ?_
          refine AL.notU rfl rfl rfl ?_
          refine AL.not rfl rfl rfl rfl rfl ?_
          refine AL.not rfl rfl rfl rfl rfl ?_
          refine AL.notU rfl rfl rfl ?_
          refine AL.notU rfl rfl rfl ?_
          refine AL.notU rfl rfl rfl ?_
          refine AL.notU rfl rfl rfl ?_
          refine AL.not rfl rfl rfl rfl rfl ?_
          refine AL.p (by exact g_pickF (r := .d _) rfl rfl) rfl ?_
          refine AL.nil ?_
          refine th_n ?_
          refine AC.condF rfl ?_
          refine AC.skip ?_
          refine ib_n ?_
          refine th_n ?_
          refine AC.region ?_
          refine AL.p (by exact mv1 rfl) rfl ?_
          refine AL.p (by exact g_arith rfl rfl rfl (by exact wrap_i64 (by omega))) rfl ?_
          refine AL.p (by exact as1 rfl) rfl ?_
          refine AL.nil ?_
          refine th_n ?_
          have hb : nameC k m[k] = true := nameC_iff.2 (by simp_all <;> omega)
          exact ⟨k + 1, ⟨by omega, fun j hj hj2 => by rcases Nat.lt_succ_iff_lt_or_eq.1 hj2 with h | rfl; exact hall j hj h; exact hb⟩, by omega, Weak.ren _ [] hC rfl (by repeat (first | exact True.intro | refine And.intro ?_ ?_ | exact DLead.same)) (by repeat (exact True.intro)) rfl rfl rfl⟩
      · refine AL.not rfl rfl rfl rfl rfl ?_
        refine AL.not rfl rfl rfl rfl rfl ?_
        refine AL.not rfl rfl rfl rfl rfl ?_
        refine AL.not rfl rfl rfl rfl rfl ?_
        refine AL.p (by exact g_pickF (r := .d _) rfl rfl) rfl ?_
        refine AL.p (by exact as1 rfl) rfl ?_
        refine AL.nil ?_
        refine th_n ?_
        refine AC.seq ?_
        refine AC.region ?_
        refine AL.p (by exact mv1 rfl) rfl ?_
        refine AL.p (by exact g_not rfl) rfl ?_
        refine AL.p (by exact mv1 rfl) rfl ?_
        refine AL.yes rfl rfl rfl ?_
        refine AL.p (by exact mv1 rfl) rfl ?_
        refine AL.yes rfl rfl rfl ?_
        refine AL.p (by exact g_cmp rfl rfl rfl) rfl ?_
        refine AL.yes rfl rfl rfl ?_
        refine AL.p (by exact mv1 rfl) rfl ?_
        refine AL.caseG rfl rfl (fun h2 => ?_) (fun h2 => ?_)
        · refine AL.not rfl rfl rfl rfl rfl ?_
          refine AL.not rfl rfl rfl rfl rfl ?_
          refine AL.not rfl rfl rfl rfl rfl ?_
          refine AL.not rfl rfl rfl rfl rfl ?_
          refine AL.yes rfl rfl rfl ?_
          refine AL.p (by exact g_pickT (r := .d _) rfl rfl) rfl ?_
          refine AL.yes rfl rfl rfl ?_
          refine AL.p (by exact mv1 rfl) rfl ?_
          refine AL.not rfl rfl rfl rfl rfl ?_
          refine AL.not rfl rfl rfl rfl rfl ?_
          refine AL.not rfl rfl rfl rfl rfl ?_
          refine AL.not rfl rfl rfl rfl rfl ?_
          refine AL.yes rfl rfl rfl ?_
          refine AL.p (by exact g_pickT (r := .d _) rfl rfl) rfl ?_
          refine AL.p (by exact g_pickT (r := .d _) rfl rfl) rfl ?_
          refine AL.nil ?_
          refine th_n ?_
          refine AC.condT rfl ?_
          refine AC.seq ?_
          refine AC.region ?_
          refine AL.p (by exact as1 rfl) rfl ?_
          refine AL.nil ?_
          refine th_n ?_
          refine AC.ret ?_
          refine ib_r ?_
          refine th_r ?_
          refine th_r ?_
          refine ib_r ?_
          refine th_r ?_
          refine bq_r ?_
          have hb : nameC k m[k] = false := nameC_no (by simp_all <;> omega)
          exact ret1 rfl (by rw [nameB_no hk1 (by rw [List.getD_eq_getElem?_getD, List.getElem?_eq_getElem hk1]; exact hb)])
        · refine AL.yes rfl rfl rfl ?_
          refine AL.p (by exact mv1 rfl) rfl ?_
          refine AL.yes rfl rfl rfl ?_
          refine AL.p (by exact mv1 rfl) rfl ?_
          refine AL.yes rfl rfl rfl ?_
          refine AL.p (by exact g_index rfl rfl rfl (by rfl) (by assumption)) rfl ?_
          refine AL.yes rfl rfl rfl ?_
          refine AL.p (by exact g_cmp rfl rfl rfl) rfl ?_
          refine AL.yes rfl rfl rfl ?_
          refine AL.p (by exact g_pickF (r := .d _) rfl rfl) rfl ?_
          refine AL.yes rfl rfl rfl ?_
          refine AL.p (by exact mv1 rfl) rfl ?_
          refine AL.caseG rfl rfl (fun h3 => ?_) (fun h3 => ?_)
          · refine AL.not rfl rfl rfl rfl rfl ?_
            refine AL.not rfl rfl rfl rfl rfl ?_
            refine AL.not rfl rfl rfl rfl rfl ?_
            refine AL.not rfl rfl rfl rfl rfl ?_
            refine AL.yes rfl rfl rfl ?_
            refine AL.p (by exact g_pickT (r := .d _) rfl rfl) rfl ?_
            refine AL.p (by exact g_pickT (r := .d _) rfl rfl) rfl ?_
            refine AL.nil ?_
            refine th_n ?_
            refine AC.condT rfl ?_
            refine AC.seq ?_
            refine AC.region ?_
            refine AL.p (by exact as1 rfl) rfl ?_
            refine AL.nil ?_
            refine th_n ?_
            refine AC.ret ?_
            refine ib_r ?_
            refine th_r ?_
            refine th_r ?_
            refine ib_r ?_
            refine th_r ?_
            refine bq_r ?_
            have hb : nameC k m[k] = false := nameC_no (by simp_all <;> omega)
            exact ret1 rfl (by rw [nameB_no hk1 (by rw [List.getD_eq_getElem?_getD, List.getElem?_eq_getElem hk1]; exact hb)])
          · refine AL.yes rfl rfl rfl ?_
            refine AL.p (by exact mv1 rfl) rfl ?_
            refine AL.yes rfl rfl rfl ?_
            refine AL.p (by exact mv1 rfl) rfl ?_
            refine AL.yes rfl rfl rfl ?_
            refine AL.p (by exact g_index rfl rfl rfl (by rfl) (by assumption)) rfl ?_
            refine AL.yes rfl rfl rfl ?_
            refine AL.p (by exact g_cmp rfl rfl rfl) rfl ?_
            refine AL.yes rfl rfl rfl ?_
            refine AL.p (by exact g_pickF (r := .d _) rfl rfl) rfl ?_
            refine AL.p (by exact g_pickT (r := .d _) rfl rfl) rfl ?_
            refine AL.nil ?_
            refine th_n ?_
            refine AC.condD rfl (fun h4 => ?_) (fun h4 => ?_)
            · refine AC.seq ?_
              refine AC.region ?_
              refine AL.p (by exact as1 rfl) rfl ?_
              refine AL.nil ?_
              refine th_n ?_
              refine AC.ret ?_
              refine ib_r ?_
              refine th_r ?_
              refine th_r ?_
              refine ib_r ?_
              refine th_r ?_
              refine bq_r ?_
              have hb : nameC k m[k] = false := nameC_no (by simp_all <;> omega)
              exact ret1 rfl (by rw [nameB_no hk1 (by rw [List.getD_eq_getElem?_getD, List.getElem?_eq_getElem hk1]; exact hb)])
            · refine AC.skip ?_
              refine ib_n ?_
              refine th_n ?_
              refine AC.region ?_
              refine AL.p (by exact mv1 rfl) rfl ?_
              refine AL.p (by exact g_arith rfl rfl rfl (by exact wrap_i64 (by omega))) rfl ?_
              refine AL.p (by exact as1 rfl) rfl ?_
              refine AL.nil ?_
              refine th_n ?_
              have hb : nameC k m[k] = true := nameC_iff.2 (by simp_all <;> omega)
              exact ⟨k + 1, ⟨by omega, fun j hj hj2 => by rcases Nat.lt_succ_iff_lt_or_eq.1 hj2 with h | rfl; exact hall j hj h; exact hb⟩, by omega, Weak.ren _ [] hC rfl (by repeat (first | exact True.intro | refine And.intro ?_ ?_ | exact DLead.same)) (by repeat (exact True.intro)) rfl rfl rfl⟩
    · refine AC.exit ?_
      refine th_e ?_
      refine th_e ?_
      refine ib_y ?_
      refine th_n ?_
      refine AC.seq ?_
      refine AC.region ?_
      refine AL.p (by exact mv1 rfl) rfl ?_
      refine AL.p (by exact g_len_str rfl rfl rfl) rfl ?_
      refine AL.q (by exact h_pure en_l1In rfl rfl (by repeat (first | exact rfl | exact DLead.same | refine ⟨_, _, rfl, ?_, ?_⟩)) (l1In_spec _ _ _) rfl) rfl ?_
      refine AL.p (by exact as1 rfl) rfl ?_
      refine AL.nil ?_
      refine th_n ?_
      refine AC.ret ?_
      refine bq_r ?_
      exact ret1 rfl (by rw [nameB_yes (fun j hj => by rw [List.getD_eq_getElem?_getD, List.getElem?_eq_getElem hj]; exact hall j hj (by omega)), hsz]; rfl)
theorem en_l2Name : Enters Tryd.prog 64 := enters_of Tryd.func64 rfl rfl
set_option maxHeartbeats 2000000 in
theorem isName_spec (m : List UInt8) (hm : m.length ≤ 2000000) : ASpec Tryd.prog 53 [aS (bstr m)] [] (Pure1 (aT (nameB m))) := by
  have hsz := bstr_size m
  refine ASpec.of Tryd.func53 rfl rfl fun C hC => ?_
  refine AC.seq ?_
  refine AC.region ?_
  refine AL.p (by exact as1 rfl) rfl ?_
  refine AL.nil ?_
  refine th_n ?_
  refine AC.seq ?_
  refine AC.seq ?_
  refine AC.region ?_
  refine AL.p (by exact as1 rfl) rfl ?_
  refine AL.nil ?_
  refine th_n ?_
  refine AC.block ?_
  refine AC.loop (ι := Nat) (fun k => ⟨45, 0, [(0, aS (bstr m)), (3, aI k)], []⟩) (fun k => k ≤ m.length ∧ ∀ j (hj : j < m.length), j < k → nameC j m[j] = true) (fun k => m.length - k) (0) ?_ (⟨Nat.zero_le _, fun j _ hj => by omega⟩) ?_
  · refine Weak.ren _ [] hC rfl ?_ ?_ rfl rfl rfl <;> repeat (first | exact True.intro | refine And.intro ?_ ?_ | exact DLead.same)
  · intro k ⟨hk, hall⟩
    refine AC.seq ?_
    refine AC.seq ?_
    refine AC.region ?_
    refine AL.p (by exact mv1 rfl) rfl ?_
    refine AL.p (by exact mv1 rfl) rfl ?_
    refine AL.p (by exact g_len_str rfl rfl rfl) rfl ?_
    refine AL.p (by exact g_cmp rfl rfl rfl) rfl ?_
    refine AL.nil ?_
    refine th_n ?_
    refine AC.condD rfl (fun h0 => ?_) (fun h0 => ?_)
    · refine AC.skip ?_
      refine th_n ?_
      refine AC.seq ?_
      refine AC.block ?_
      refine AC.seq ?_
      have hk1 : k < m.length := by omega
      have hget := bstr_at hk1
      have hlt := m[k].toNat_lt
      refine AC.drawn' mixed_ok [[], [], [0,1], [0,1,2], [0,1,2,3], [0,1,2,3,4], [0,1,2,3,4], [0,1,2,3,4,5,6], [0,1,2,3,4,5,6,7], [0,1,2,3,4,5,6,7,8], [], [], [10,11], [10,11,12], [0,1,2,3,4,10,11,12,13], [0,1,2,3,4,10,11,12,13,14], [0,1,2,3,4,10,11,12,13,14], [0,1,2,3,4,10,11,12,13,14,15,16], [0,1,2,3,4,10,11,12,13,14,15,16,17], [0,1,2,3,4,10,11,12,13,14,15,16,17,18], [0,1,2,3,4,5,6,7,8,9,10,11,12,13,14], [0,1,2,3,4,5,6,7,8,9,10,11,12,13,14,15,16,17,18,19,20]] (by decide) ?_
      refine DF.op 0 [] 22 rfl rfl rfl (.free rfl (NOp.of (by exact mv1 rfl))) rfl ?_
      refine DF.op 1 [] 22 rfl rfl rfl (.free rfl (NOp.of (by exact mv1 rfl))) rfl ?_
      refine DF.op 2 [0,1] 22 rfl rfl rfl (.free rfl (NOp.of (by exact g_index rfl rfl rfl (by rfl) (by assumption)))) rfl ?_
      refine DF.op 3 [0,1,2] 22 rfl rfl rfl (.free rfl (NOp.of (by exact g_cmp rfl rfl rfl))) rfl ?_
      refine DF.op 4 [0,1,2,3] 22 rfl rfl rfl (.free rfl (NOp.of (by exact mv1 rfl))) rfl ?_
      refine DF.caseD 4 rfl (fun h1 => ?_) (fun h1 => ?_)
      · refine DF.op 5 [0,1,2,3,4] 22 rfl rfl rfl (.yes rfl rfl rfl rfl (NOp.of (by exact mv1 rfl))) rfl ?_
        refine DF.op 6 [0,1,2,3,4] 22 rfl rfl rfl (.yes rfl rfl rfl rfl (NOp.of (by exact mv1 rfl))) rfl ?_
        refine DF.op 7 [0,1,2,3,4,5,6] 22 rfl rfl rfl (.yes rfl rfl rfl rfl (NOp.of (by exact g_index rfl rfl rfl (by rfl) (by assumption)))) rfl ?_
        refine DF.op 8 [0,1,2,3,4,5,6,7] 22 rfl rfl rfl (.yes rfl rfl rfl rfl (NOp.of (by exact g_cmp rfl rfl rfl))) rfl ?_
        refine DF.op 9 [0,1,2,3,4,5,6,7,8] 22 rfl rfl rfl (.free rfl (NOp.of (by exact g_pickT (r := .d _) rfl rfl))) rfl ?_
        refine DF.op 10 [] 22 rfl rfl rfl (.free rfl (NOp.of (by exact mv1 rfl))) rfl ?_
        refine DF.op 11 [] 22 rfl rfl rfl (.free rfl (NOp.of (by exact mv1 rfl))) rfl ?_
        refine DF.op 12 [10,11] 22 rfl rfl rfl (.free rfl (NOp.of (by exact g_index rfl rfl rfl (by rfl) (by assumption)))) rfl ?_
        refine DF.op 13 [10,11,12] 22 rfl rfl rfl (.free rfl (NOp.of (by exact g_cmp rfl rfl rfl))) rfl ?_
        refine DF.op 14 [0,1,2,3,4,10,11,12,13] 22 rfl rfl rfl (.free rfl (NOp.of (by exact mv1 rfl))) rfl ?_
        refine DF.caseD 14 rfl (fun h2 => ?_) (fun h2 => ?_)
        · refine DF.op 15 [0,1,2,3,4,10,11,12,13,14] 22 rfl rfl rfl (.yes rfl rfl rfl rfl (NOp.of (by exact mv1 rfl))) rfl ?_
          refine DF.op 16 [0,1,2,3,4,10,11,12,13,14] 22 rfl rfl rfl (.yes rfl rfl rfl rfl (NOp.of (by exact mv1 rfl))) rfl ?_
          refine DF.op 17 [0,1,2,3,4,10,11,12,13,14,15,16] 22 rfl rfl rfl (.yes rfl rfl rfl rfl (NOp.of (by exact g_index rfl rfl rfl (by rfl) (by assumption)))) rfl ?_
          refine DF.op 18 [0,1,2,3,4,10,11,12,13,14,15,16,17] 22 rfl rfl rfl (.yes rfl rfl rfl rfl (NOp.of (by exact g_cmp rfl rfl rfl))) rfl ?_
          refine DF.op 19 [0,1,2,3,4,10,11,12,13,14,15,16,17,18] 22 rfl rfl rfl (.free rfl (NOp.of (by exact g_pickT (r := .d _) rfl rfl))) rfl ?_
          refine DF.op 20 [0,1,2,3,4,5,6,7,8,9,10,11,12,13,14] 22 rfl rfl rfl (.free rfl (NOp.of (by exact as1 rfl))) rfl ?_
          refine DF.op 21 [0,1,2,3,4,5,6,7,8,9,10,11,12,13,14,15,16,17,18,19,20] 22 rfl rfl rfl (.free rfl (NOp.of (by exact as1 rfl))) rfl ?_
          refine DF.fin (ps := [(0, 1), (0, 10), (0, 11), (0, 12), (0, 13), (1, 0), (1, 10), (1, 11), (1, 12), (1, 13), (2, 10), (2, 11), (2, 12), (2, 13), (3, 10), (3, 11), (3, 12), (3, 13), (4, 10), (4, 11), (4, 12), (4, 13), (5, 6), (5, 10), (5, 11), (5, 12), (5, 13), (5, 14), (5, 15), (5, 16), (5, 17), (5, 18), (5, 19), (6, 5), (6, 10), (6, 11), (6, 12), (6, 13), (6, 14), (6, 15), (6, 16), (6, 17), (6, 18), (6, 19), (7, 10), (7, 11), (7, 12), (7, 13), (7, 14), (7, 15), (7, 16), (7, 17), (7, 18), (7, 19), (8, 10), (8, 11), (8, 12), (8, 13), (8, 14), (8, 15), (8, 16), (8, 17), (8, 18), (8, 19), (9, 10), (9, 11), (9, 12), (9, 13), (9, 14), (9, 15), (9, 16), (9, 17), (9, 18), (9, 19), (10, 0), (10, 1), (10, 2), (10, 3), (10, 4), (10, 5), (10, 6), (10, 7), (10, 8), (10, 9), (10, 11), (11, 0), (11, 1), (11, 2), (11, 3), (11, 4), (11, 5), (11, 6), (11, 7), (11, 8), (11, 9), (11, 10), (12, 0), (12, 1), (12, 2), (12, 3), (12, 4), (12, 5), (12, 6), (12, 7), (12, 8), (12, 9), (13, 0), (13, 1), (13, 2), (13, 3), (13, 4), (13, 5), (13, 6), (13, 7), (13, 8), (13, 9), (14, 5), (14, 6), (14, 7), (14, 8), (14, 9), (15, 5), (15, 6), (15, 7), (15, 8), (15, 9), (15, 16), (15, 20), (16, 5), (16, 6), (16, 7), (16, 8), (16, 9), (16, 15), (16, 20), (17, 5), (17, 6), (17, 7), (17, 8), (17, 9), (17, 20), (18, 5), (18, 6), (18, 7), (18, 8), (18, 9), (18, 20), (19, 5), (19, 6), (19, 7), (19, 8), (19, 9), (19, 20), (20, 15), (20, 16), (20, 17), (20, 18), (20, 19)]) 22 rfl (by decide +kernel) (by decide +kernel) (by rfl) ?_
          refine th_n ?_
          refine AC.seq ?_
          refine AC.region ?_
          refine AL.p (by exact mv1 rfl) rfl ?_
          refine AL.p (by exact g_not rfl) rfl ?_
          refine AL.p (by exact mv1 rfl) rfl ?_
          refine AL.caseGN rfl rfl (fun h3 => ?_) (fun h3 => ?_)
          · refine AL.yes rfl rfl rfl ?_
            refine AL.p (by exact mv1 rfl) rfl ?_
            refine AL.yes rfl rfl rfl ?_
            refine AL.p (by exact g_not rfl) rfl ?_
            refine AL.yes rfl rfl rfl ?_
            refine AL.p (by exact mv1 rfl) rfl ?_
            refine AL.caseGN rfl rfl (fun h4 => ?_) (fun h4 => ?_)
            · refine AL.not rfl rfl rfl rfl rfl ?_
              refine AL.not rfl rfl rfl rfl rfl ?_
              refine AL.yes rfl rfl rfl ?_
              refine AL.p (by exact g_pickT (r := .d _) rfl rfl) rfl ?_
              refine AL.p (by exact g_pickT (r := .d _) rfl rfl) rfl ?_
              refine AL.nil ?_
              refine th_n ?_
              refine AC.condT rfl ?_
              refine AC.seq ?_
              refine AC.region ?_
              refine AL.p (by exact as1 rfl) rfl ?_
              refine AL.nil ?_
              refine th_n ?_
              refine AC.ret ?_
              refine ib_r ?_
              refine th_r ?_
              refine th_r ?_
              refine ib_r ?_
              refine th_r ?_
              refine bq_r ?_
              have hb : nameC k m[k] = false := nameC_no (by simp_all <;> omega)
              exact ret1 rfl (by rw [nameB_no hk1 (by rw [List.getD_eq_getElem?_getD, List.getElem?_eq_getElem hk1]; exact hb)])
            · refine AL.yes rfl rfl rfl ?_
              refine AL.p (by exact mv1 rfl) rfl ?_
              refine AL.yes rfl rfl rfl ?_
              refine AL.p (by exact g_cmp rfl rfl rfl) rfl ?_
              refine AL.yes rfl rfl rfl ?_
              refine AL.p (by exact g_pickF (r := .d _) rfl rfl) rfl ?_
              refine AL.p (by exact g_pickT (r := .d _) rfl rfl) rfl ?_
              refine AL.nil ?_
              refine th_n ?_
              refine AC.condD rfl (fun h5 => ?_) (fun h5 => ?_)
              · refine AC.seq ?_
                refine AC.region ?_
                refine AL.p (by exact as1 rfl) rfl ?_
                refine AL.nil ?_
                refine th_n ?_
                refine AC.ret ?_
                refine ib_r ?_
                refine th_r ?_
                refine th_r ?_
                refine ib_r ?_
                refine th_r ?_
                refine bq_r ?_
                have hb : nameC k m[k] = false := nameC_no (by simp_all <;> omega)
                exact ret1 rfl (by rw [nameB_no hk1 (by rw [List.getD_eq_getElem?_getD, List.getElem?_eq_getElem hk1]; exact hb)])
              · refine AC.skip ?_
                refine ib_n ?_
                refine th_n ?_
                refine AC.region ?_
                refine AL.p (by exact mv1 rfl) rfl ?_
                refine AL.p (by exact g_arith rfl rfl rfl (by exact wrap_i64 (by omega))) rfl ?_
                refine AL.p (by exact as1 rfl) rfl ?_
                refine AL.nil ?_
                refine th_n ?_
                have hb : nameC k m[k] = true := nameC_iff.2 (by simp_all <;> omega)
                exact ⟨k + 1, ⟨by omega, fun j hj hj2 => by rcases Nat.lt_succ_iff_lt_or_eq.1 hj2 with h | rfl; exact hall j hj h; exact hb⟩, by omega, Weak.ren _ [] hC rfl (by repeat (first | exact True.intro | refine And.intro ?_ ?_ | exact DLead.same)) (by repeat (exact True.intro)) rfl rfl rfl⟩
          · refine AL.not rfl rfl rfl rfl rfl ?_
            refine AL.not rfl rfl rfl rfl rfl ?_
            refine AL.not rfl rfl rfl rfl rfl ?_
            refine AL.notU rfl rfl rfl ?_
            refine AL.notU rfl rfl rfl ?_
            refine AL.not rfl rfl rfl rfl rfl ?_
            refine AL.p (by exact g_pickF (r := .d _) rfl rfl) rfl ?_
            refine AL.nil ?_
            refine th_n ?_
            refine AC.condF rfl ?_
            refine AC.skip ?_
            refine ib_n ?_
            refine th_n ?_
            refine AC.region ?_
            refine AL.p (by exact mv1 rfl) rfl ?_
            refine AL.p (by exact g_arith rfl rfl rfl (by exact wrap_i64 (by omega))) rfl ?_
            refine AL.p (by exact as1 rfl) rfl ?_
            refine AL.nil ?_
            refine th_n ?_
            have hb : nameC k m[k] = true := nameC_iff.2 (by simp_all <;> omega)
            exact ⟨k + 1, ⟨by omega, fun j hj hj2 => by rcases Nat.lt_succ_iff_lt_or_eq.1 hj2 with h | rfl; exact hall j hj h; exact hb⟩, by omega, Weak.ren _ [] hC rfl (by repeat (first | exact True.intro | refine And.intro ?_ ?_ | exact DLead.same)) (by repeat (exact True.intro)) rfl rfl rfl⟩
        · refine DF.op (ids := []) 15 [0,1,2,3,4,10,11,12,13,14] 22 rfl rfl rfl (.no rfl rfl rfl rfl rfl rfl) rfl ?_
          refine DF.op (ids := []) 16 [0,1,2,3,4,10,11,12,13,14] 22 rfl rfl rfl (.no rfl rfl rfl rfl rfl rfl) rfl ?_
          refine DF.op (ids := []) 17 [0,1,2,3,4,10,11,12,13,14,15,16] 22 rfl rfl rfl (.no rfl rfl rfl rfl rfl rfl) rfl ?_
          refine DF.op (ids := []) 18 [0,1,2,3,4,10,11,12,13,14,15,16,17] 22 rfl rfl rfl (.no rfl rfl rfl rfl rfl rfl) rfl ?_
          refine DF.op 19 [0,1,2,3,4,10,11,12,13,14,15,16,17,18] 22 rfl rfl rfl (.free rfl (NOp.of (by exact g_pickF (r := .d _) rfl rfl))) rfl ?_
          refine DF.op 20 [0,1,2,3,4,5,6,7,8,9,10,11,12,13,14] 22 rfl rfl rfl (.free rfl (NOp.of (by exact as1 rfl))) rfl ?_
          refine DF.op 21 [0,1,2,3,4,5,6,7,8,9,10,11,12,13,14,15,16,17,18,19,20] 22 rfl rfl rfl (.free rfl (NOp.of (by exact as1 rfl))) rfl ?_
          refine DF.fin (ps := [(0, 1), (0, 10), (0, 11), (0, 12), (0, 13), (1, 0), (1, 10), (1, 11), (1, 12), (1, 13), (2, 10), (2, 11), (2, 12), (2, 13), (3, 10), (3, 11), (3, 12), (3, 13), (4, 10), (4, 11), (4, 12), (4, 13), (5, 6), (5, 10), (5, 11), (5, 12), (5, 13), (5, 14), (5, 15), (5, 16), (5, 17), (5, 18), (5, 19), (6, 5), (6, 10), (6, 11), (6, 12), (6, 13), (6, 14), (6, 15), (6, 16), (6, 17), (6, 18), (6, 19), (7, 10), (7, 11), (7, 12), (7, 13), (7, 14), (7, 15), (7, 16), (7, 17), (7, 18), (7, 19), (8, 10), (8, 11), (8, 12), (8, 13), (8, 14), (8, 15), (8, 16), (8, 17), (8, 18), (8, 19), (9, 10), (9, 11), (9, 12), (9, 13), (9, 14), (9, 15), (9, 16), (9, 17), (9, 18), (9, 19), (10, 0), (10, 1), (10, 2), (10, 3), (10, 4), (10, 5), (10, 6), (10, 7), (10, 8), (10, 9), (10, 11), (11, 0), (11, 1), (11, 2), (11, 3), (11, 4), (11, 5), (11, 6), (11, 7), (11, 8), (11, 9), (11, 10), (12, 0), (12, 1), (12, 2), (12, 3), (12, 4), (12, 5), (12, 6), (12, 7), (12, 8), (12, 9), (13, 0), (13, 1), (13, 2), (13, 3), (13, 4), (13, 5), (13, 6), (13, 7), (13, 8), (13, 9), (14, 5), (14, 6), (14, 7), (14, 8), (14, 9), (15, 5), (15, 6), (15, 7), (15, 8), (15, 9), (15, 16), (15, 20), (16, 5), (16, 6), (16, 7), (16, 8), (16, 9), (16, 15), (16, 20), (17, 5), (17, 6), (17, 7), (17, 8), (17, 9), (17, 20), (18, 5), (18, 6), (18, 7), (18, 8), (18, 9), (18, 20), (19, 5), (19, 6), (19, 7), (19, 8), (19, 9), (19, 20), (20, 15), (20, 16), (20, 17), (20, 18), (20, 19)]) 22 rfl (by decide +kernel) (by decide +kernel) (by rfl) ?_
          refine th_n ?_
          refine AC.seq ?_
          refine AC.region ?_
          refine AL.p (by exact mv1 rfl) rfl ?_
          refine AL.p (by exact g_not rfl) rfl ?_
          refine AL.p (by exact mv1 rfl) rfl ?_
          refine AL.caseGN rfl rfl (fun h3 => ?_) (fun h3 => ?_)
          · refine AL.yes rfl rfl rfl ?_
            refine AL.p (by exact mv1 rfl) rfl ?_
            refine AL.yes rfl rfl rfl ?_
            refine AL.p (by exact g_not rfl) rfl ?_
            refine AL.yes rfl rfl rfl ?_
            refine AL.p (by exact mv1 rfl) rfl ?_
            refine AL.not rfl rfl rfl rfl rfl ?_
            refine AL.not rfl rfl rfl rfl rfl ?_
            refine AL.yes rfl rfl rfl ?_
            refine AL.p (by exact g_pickT (r := .d _) rfl rfl) rfl ?_
            refine AL.p (by exact g_pickT (r := .d _) rfl rfl) rfl ?_
            refine AL.nil ?_
            refine th_n ?_
            refine AC.condT rfl ?_
            refine AC.seq ?_
            refine AC.region ?_
            refine AL.p (by exact as1 rfl) rfl ?_
            refine AL.nil ?_
            refine th_n ?_
            refine AC.ret ?_
            refine ib_r ?_
            refine th_r ?_
            refine th_r ?_
            refine ib_r ?_
            refine th_r ?_
            refine bq_r ?_
            have hb : nameC k m[k] = false := nameC_no (by simp_all <;> omega)
            exact ret1 rfl (by rw [nameB_no hk1 (by rw [List.getD_eq_getElem?_getD, List.getElem?_eq_getElem hk1]; exact hb)])
          · refine AL.not rfl rfl rfl rfl rfl ?_
            refine AL.not rfl rfl rfl rfl rfl ?_
            refine AL.not rfl rfl rfl rfl rfl ?_
            refine AL.notU rfl rfl rfl ?_
            refine AL.notU rfl rfl rfl ?_
            refine AL.not rfl rfl rfl rfl rfl ?_
            refine AL.p (by exact g_pickF (r := .d _) rfl rfl) rfl ?_
            refine AL.nil ?_
            refine th_n ?_
            refine AC.condF rfl ?_
            refine AC.skip ?_
            refine ib_n ?_
            refine th_n ?_
            refine AC.region ?_
            refine AL.p (by exact mv1 rfl) rfl ?_
            refine AL.p (by exact g_arith rfl rfl rfl (by exact wrap_i64 (by omega))) rfl ?_
            refine AL.p (by exact as1 rfl) rfl ?_
            refine AL.nil ?_
            refine th_n ?_
            have hb : nameC k m[k] = true := nameC_iff.2 (by simp_all <;> omega)
            exact ⟨k + 1, ⟨by omega, fun j hj hj2 => by rcases Nat.lt_succ_iff_lt_or_eq.1 hj2 with h | rfl; exact hall j hj h; exact hb⟩, by omega, Weak.ren _ [] hC rfl (by repeat (first | exact True.intro | refine And.intro ?_ ?_ | exact DLead.same)) (by repeat (exact True.intro)) rfl rfl rfl⟩
      · refine DF.op (ids := []) 5 [0,1,2,3,4] 22 rfl rfl rfl (.no rfl rfl rfl rfl rfl rfl) rfl ?_
        refine DF.op (ids := []) 6 [0,1,2,3,4] 22 rfl rfl rfl (.no rfl rfl rfl rfl rfl rfl) rfl ?_
        refine DF.op (ids := []) 7 [0,1,2,3,4,5,6] 22 rfl rfl rfl (.no rfl rfl rfl rfl rfl rfl) rfl ?_
        refine DF.op (ids := []) 8 [0,1,2,3,4,5,6,7] 22 rfl rfl rfl (.no rfl rfl rfl rfl rfl rfl) rfl ?_
        refine DF.op 9 [0,1,2,3,4,5,6,7,8] 22 rfl rfl rfl (.free rfl (NOp.of (by exact g_pickF (r := .d _) rfl rfl))) rfl ?_
        refine DF.op 10 [] 22 rfl rfl rfl (.free rfl (NOp.of (by exact mv1 rfl))) rfl ?_
        refine DF.op 11 [] 22 rfl rfl rfl (.free rfl (NOp.of (by exact mv1 rfl))) rfl ?_
        refine DF.op 12 [10,11] 22 rfl rfl rfl (.free rfl (NOp.of (by exact g_index rfl rfl rfl (by rfl) (by assumption)))) rfl ?_
        refine DF.op 13 [10,11,12] 22 rfl rfl rfl (.free rfl (NOp.of (by exact g_cmp rfl rfl rfl))) rfl ?_
        refine DF.op 14 [0,1,2,3,4,10,11,12,13] 22 rfl rfl rfl (.free rfl (NOp.of (by exact mv1 rfl))) rfl ?_
        refine DF.caseD 14 rfl (fun h2 => ?_) (fun h2 => ?_)
        · refine DF.op 15 [0,1,2,3,4,10,11,12,13,14] 22 rfl rfl rfl (.yes rfl rfl rfl rfl (NOp.of (by exact mv1 rfl))) rfl ?_
          refine DF.op 16 [0,1,2,3,4,10,11,12,13,14] 22 rfl rfl rfl (.yes rfl rfl rfl rfl (NOp.of (by exact mv1 rfl))) rfl ?_
          refine DF.op 17 [0,1,2,3,4,10,11,12,13,14,15,16] 22 rfl rfl rfl (.yes rfl rfl rfl rfl (NOp.of (by exact g_index rfl rfl rfl (by rfl) (by assumption)))) rfl ?_
          refine DF.op 18 [0,1,2,3,4,10,11,12,13,14,15,16,17] 22 rfl rfl rfl (.yes rfl rfl rfl rfl (NOp.of (by exact g_cmp rfl rfl rfl))) rfl ?_
          refine DF.op 19 [0,1,2,3,4,10,11,12,13,14,15,16,17,18] 22 rfl rfl rfl (.free rfl (NOp.of (by exact g_pickT (r := .d _) rfl rfl))) rfl ?_
          refine DF.op 20 [0,1,2,3,4,5,6,7,8,9,10,11,12,13,14] 22 rfl rfl rfl (.free rfl (NOp.of (by exact as1 rfl))) rfl ?_
          refine DF.op 21 [0,1,2,3,4,5,6,7,8,9,10,11,12,13,14,15,16,17,18,19,20] 22 rfl rfl rfl (.free rfl (NOp.of (by exact as1 rfl))) rfl ?_
          refine DF.fin (ps := [(0, 1), (0, 10), (0, 11), (0, 12), (0, 13), (1, 0), (1, 10), (1, 11), (1, 12), (1, 13), (2, 10), (2, 11), (2, 12), (2, 13), (3, 10), (3, 11), (3, 12), (3, 13), (4, 10), (4, 11), (4, 12), (4, 13), (5, 6), (5, 10), (5, 11), (5, 12), (5, 13), (5, 14), (5, 15), (5, 16), (5, 17), (5, 18), (5, 19), (6, 5), (6, 10), (6, 11), (6, 12), (6, 13), (6, 14), (6, 15), (6, 16), (6, 17), (6, 18), (6, 19), (7, 10), (7, 11), (7, 12), (7, 13), (7, 14), (7, 15), (7, 16), (7, 17), (7, 18), (7, 19), (8, 10), (8, 11), (8, 12), (8, 13), (8, 14), (8, 15), (8, 16), (8, 17), (8, 18), (8, 19), (9, 10), (9, 11), (9, 12), (9, 13), (9, 14), (9, 15), (9, 16), (9, 17), (9, 18), (9, 19), (10, 0), (10, 1), (10, 2), (10, 3), (10, 4), (10, 5), (10, 6), (10, 7), (10, 8), (10, 9), (10, 11), (11, 0), (11, 1), (11, 2), (11, 3), (11, 4), (11, 5), (11, 6), (11, 7), (11, 8), (11, 9), (11, 10), (12, 0), (12, 1), (12, 2), (12, 3), (12, 4), (12, 5), (12, 6), (12, 7), (12, 8), (12, 9), (13, 0), (13, 1), (13, 2), (13, 3), (13, 4), (13, 5), (13, 6), (13, 7), (13, 8), (13, 9), (14, 5), (14, 6), (14, 7), (14, 8), (14, 9), (15, 5), (15, 6), (15, 7), (15, 8), (15, 9), (15, 16), (15, 20), (16, 5), (16, 6), (16, 7), (16, 8), (16, 9), (16, 15), (16, 20), (17, 5), (17, 6), (17, 7), (17, 8), (17, 9), (17, 20), (18, 5), (18, 6), (18, 7), (18, 8), (18, 9), (18, 20), (19, 5), (19, 6), (19, 7), (19, 8), (19, 9), (19, 20), (20, 15), (20, 16), (20, 17), (20, 18), (20, 19)]) 22 rfl (by decide +kernel) (by decide +kernel) (by rfl) ?_
          refine th_n ?_
          refine AC.seq ?_
          refine AC.region ?_
          refine AL.p (by exact mv1 rfl) rfl ?_
          refine AL.p (by exact g_not rfl) rfl ?_
          refine AL.p (by exact mv1 rfl) rfl ?_
          refine AL.yes rfl rfl rfl ?_
          refine AL.p (by exact mv1 rfl) rfl ?_
          refine AL.yes rfl rfl rfl ?_
          refine AL.p (by exact g_not rfl) rfl ?_
          refine AL.yes rfl rfl rfl ?_
          refine AL.p (by exact mv1 rfl) rfl ?_
          refine AL.caseGN rfl rfl (fun h3 => ?_) (fun h3 => ?_)
          · refine AL.not rfl rfl rfl rfl rfl ?_
            refine AL.not rfl rfl rfl rfl rfl ?_
            refine AL.yes rfl rfl rfl ?_
            refine AL.p (by exact g_pickT (r := .d _) rfl rfl) rfl ?_
            refine AL.p (by exact g_pickT (r := .d _) rfl rfl) rfl ?_
            refine AL.nil ?_
            refine th_n ?_
            refine AC.condT rfl ?_
            refine AC.seq ?_
            refine AC.region ?_
            refine AL.p (by exact as1 rfl) rfl ?_
            refine AL.nil ?_
            refine th_n ?_
            refine AC.ret ?_
            refine ib_r ?_
            refine th_r ?_
            refine th_r ?_
            refine ib_r ?_
            refine th_r ?_
            refine bq_r ?_
            have hb : nameC k m[k] = false := nameC_no (by simp_all <;> omega)
            exact ret1 rfl (by rw [nameB_no hk1 (by rw [List.getD_eq_getElem?_getD, List.getElem?_eq_getElem hk1]; exact hb)])
          · refine AL.yes rfl rfl rfl ?_
            refine AL.p (by exact mv1 rfl) rfl ?_
            refine AL.yes rfl rfl rfl ?_
            refine AL.p (by exact g_cmp rfl rfl rfl) rfl ?_
            refine AL.yes rfl rfl rfl ?_
            refine AL.p (by exact g_pickF (r := .d _) rfl rfl) rfl ?_
            refine AL.p (by exact g_pickT (r := .d _) rfl rfl) rfl ?_
            refine AL.nil ?_
            refine th_n ?_
            refine AC.condD rfl (fun h4 => ?_) (fun h4 => ?_)
            · refine AC.seq ?_
              refine AC.region ?_
              refine AL.p (by exact as1 rfl) rfl ?_
              refine AL.nil ?_
              refine th_n ?_
              refine AC.ret ?_
              refine ib_r ?_
              refine th_r ?_
              refine th_r ?_
              refine ib_r ?_
              refine th_r ?_
              refine bq_r ?_
              have hb : nameC k m[k] = false := nameC_no (by simp_all <;> omega)
              exact ret1 rfl (by rw [nameB_no hk1 (by rw [List.getD_eq_getElem?_getD, List.getElem?_eq_getElem hk1]; exact hb)])
            · refine AC.skip ?_
              refine ib_n ?_
              refine th_n ?_
              refine AC.region ?_
              refine AL.p (by exact mv1 rfl) rfl ?_
              refine AL.p (by exact g_arith rfl rfl rfl (by exact wrap_i64 (by omega))) rfl ?_
              refine AL.p (by exact as1 rfl) rfl ?_
              refine AL.nil ?_
              refine th_n ?_
              have hb : nameC k m[k] = true := nameC_iff.2 (by simp_all <;> omega)
              exact ⟨k + 1, ⟨by omega, fun j hj hj2 => by rcases Nat.lt_succ_iff_lt_or_eq.1 hj2 with h | rfl; exact hall j hj h; exact hb⟩, by omega, Weak.ren _ [] hC rfl (by repeat (first | exact True.intro | refine And.intro ?_ ?_ | exact DLead.same)) (by repeat (exact True.intro)) rfl rfl rfl⟩
        · refine DF.op (ids := []) 15 [0,1,2,3,4,10,11,12,13,14] 22 rfl rfl rfl (.no rfl rfl rfl rfl rfl rfl) rfl ?_
          refine DF.op (ids := []) 16 [0,1,2,3,4,10,11,12,13,14] 22 rfl rfl rfl (.no rfl rfl rfl rfl rfl rfl) rfl ?_
          refine DF.op (ids := []) 17 [0,1,2,3,4,10,11,12,13,14,15,16] 22 rfl rfl rfl (.no rfl rfl rfl rfl rfl rfl) rfl ?_
          refine DF.op (ids := []) 18 [0,1,2,3,4,10,11,12,13,14,15,16,17] 22 rfl rfl rfl (.no rfl rfl rfl rfl rfl rfl) rfl ?_
          refine DF.op 19 [0,1,2,3,4,10,11,12,13,14,15,16,17,18] 22 rfl rfl rfl (.free rfl (NOp.of (by exact g_pickF (r := .d _) rfl rfl))) rfl ?_
          refine DF.op 20 [0,1,2,3,4,5,6,7,8,9,10,11,12,13,14] 22 rfl rfl rfl (.free rfl (NOp.of (by exact as1 rfl))) rfl ?_
          refine DF.op 21 [0,1,2,3,4,5,6,7,8,9,10,11,12,13,14,15,16,17,18,19,20] 22 rfl rfl rfl (.free rfl (NOp.of (by exact as1 rfl))) rfl ?_
          refine DF.fin (ps := [(0, 1), (0, 10), (0, 11), (0, 12), (0, 13), (1, 0), (1, 10), (1, 11), (1, 12), (1, 13), (2, 10), (2, 11), (2, 12), (2, 13), (3, 10), (3, 11), (3, 12), (3, 13), (4, 10), (4, 11), (4, 12), (4, 13), (5, 6), (5, 10), (5, 11), (5, 12), (5, 13), (5, 14), (5, 15), (5, 16), (5, 17), (5, 18), (5, 19), (6, 5), (6, 10), (6, 11), (6, 12), (6, 13), (6, 14), (6, 15), (6, 16), (6, 17), (6, 18), (6, 19), (7, 10), (7, 11), (7, 12), (7, 13), (7, 14), (7, 15), (7, 16), (7, 17), (7, 18), (7, 19), (8, 10), (8, 11), (8, 12), (8, 13), (8, 14), (8, 15), (8, 16), (8, 17), (8, 18), (8, 19), (9, 10), (9, 11), (9, 12), (9, 13), (9, 14), (9, 15), (9, 16), (9, 17), (9, 18), (9, 19), (10, 0), (10, 1), (10, 2), (10, 3), (10, 4), (10, 5), (10, 6), (10, 7), (10, 8), (10, 9), (10, 11), (11, 0), (11, 1), (11, 2), (11, 3), (11, 4), (11, 5), (11, 6), (11, 7), (11, 8), (11, 9), (11, 10), (12, 0), (12, 1), (12, 2), (12, 3), (12, 4), (12, 5), (12, 6), (12, 7), (12, 8), (12, 9), (13, 0), (13, 1), (13, 2), (13, 3), (13, 4), (13, 5), (13, 6), (13, 7), (13, 8), (13, 9), (14, 5), (14, 6), (14, 7), (14, 8), (14, 9), (15, 5), (15, 6), (15, 7), (15, 8), (15, 9), (15, 16), (15, 20), (16, 5), (16, 6), (16, 7), (16, 8), (16, 9), (16, 15), (16, 20), (17, 5), (17, 6), (17, 7), (17, 8), (17, 9), (17, 20), (18, 5), (18, 6), (18, 7), (18, 8), (18, 9), (18, 20), (19, 5), (19, 6), (19, 7), (19, 8), (19, 9), (19, 20), (20, 15), (20, 16), (20, 17), (20, 18), (20, 19)]) 22 rfl (by decide +kernel) (by decide +kernel) (by rfl) ?_
          refine th_n ?_
          refine AC.seq ?_
          refine AC.region ?_
          refine AL.p (by exact mv1 rfl) rfl ?_
          refine AL.p (by exact g_not rfl) rfl ?_
          refine AL.p (by exact mv1 rfl) rfl ?_
          refine AL.yes rfl rfl rfl ?_
          refine AL.p (by exact mv1 rfl) rfl ?_
          refine AL.yes rfl rfl rfl ?_
          refine AL.p (by exact g_not rfl) rfl ?_
          refine AL.yes rfl rfl rfl ?_
          refine AL.p (by exact mv1 rfl) rfl ?_
          refine AL.not rfl rfl rfl rfl rfl ?_
          refine AL.not rfl rfl rfl rfl rfl ?_
          refine AL.yes rfl rfl rfl ?_
          refine AL.p (by exact g_pickT (r := .d _) rfl rfl) rfl ?_
          refine AL.p (by exact g_pickT (r := .d _) rfl rfl) rfl ?_
          refine AL.nil ?_
          refine th_n ?_
          refine AC.condT rfl ?_
          refine AC.seq ?_
          refine AC.region ?_
          refine AL.p (by exact as1 rfl) rfl ?_
          refine AL.nil ?_
          refine th_n ?_
          refine AC.ret ?_
          refine ib_r ?_
          refine th_r ?_
          refine th_r ?_
          refine ib_r ?_
          refine th_r ?_
          refine bq_r ?_
          have hb : nameC k m[k] = false := nameC_no (by simp_all <;> omega)
          exact ret1 rfl (by rw [nameB_no hk1 (by rw [List.getD_eq_getElem?_getD, List.getElem?_eq_getElem hk1]; exact hb)])
    · refine AC.exit ?_
      refine th_e ?_
      refine th_e ?_
      refine ib_y ?_
      refine th_n ?_
      refine AC.seq ?_
      refine AC.region ?_
      refine AL.p (by exact mv1 rfl) rfl ?_
      refine AL.p (by exact g_len_str rfl rfl rfl) rfl ?_
      refine AL.q (by exact h_pure en_within rfl rfl (by repeat (first | exact rfl | exact DLead.same | refine ⟨_, _, rfl, ?_, ?_⟩)) (within_spec _ _ _) rfl) rfl ?_
      refine AL.p (by exact as1 rfl) rfl ?_
      refine AL.nil ?_
      refine th_n ?_
      refine AC.ret ?_
      refine bq_r ?_
      exact ret1 rfl (by rw [nameB_yes (fun j hj => by rw [List.getD_eq_getElem?_getD, List.getElem?_eq_getElem hj]; exact hall j hj (by omega)), hsz]; rfl)
theorem en_isName : Enters Tryd.prog 53 := enters_of Tryd.func53 rfl rfl
set_option maxHeartbeats 1000000 in
theorem indexSig_spec (l : List Sig) (hl : l.length ≤ 2000000) (g : FuncId) (ds : List DV) (hen : Enters Tryd.prog g) (p : Sig → Bool) (hp : ∀ t, t ∈ l → ASpec Tryd.prog g (sigA t :: ds.map .d) [] (Pure1 (aT (p t)))) : ASpec Tryd.prog 57 [.d (vSigs l), .clo g (ds.map .d)] [] (Pure1 (aI (findI p l))) := by
  refine ASpec.of Tryd.func57 rfl rfl fun C hC => ?_
  refine AC.seq ?_
  refine AC.region ?_
  refine AL.p (by exact as1 rfl) rfl ?_
  refine AL.nil ?_
  refine th_n ?_
  refine AC.seq ?_
  refine AC.seq ?_
  refine AC.region ?_
  refine AL.p (by exact mv1 rfl) rfl ?_
  refine AL.p (by exact g_len_view rfl rfl (by exact List.length_map _)) rfl ?_
  refine AL.p (by exact mv1 rfl) rfl ?_
  refine AL.nil ?_
  refine th_n ?_
  refine AC.block ?_
  refine AC.loop (ι := Nat) (fun k => ⟨19, 0, [(0, .d (vSigs l)), (1, .clo g (ds.map .d)), (6, .d (vSigs l)), (7, aI l.length), (8, aI k)], []⟩) (fun k => k ≤ l.length ∧ ∀ j (hj : j < l.length), j < k → p l[j] = false) (fun k => l.length - k) (0) ?_ (⟨Nat.zero_le _, fun j _ hj => by omega⟩) ?_
  · refine Weak.ren _ [] hC rfl ⟨.same, ⟨_, rfl, leadsL_data _ ds⟩, ?_⟩ trivial rfl rfl rfl; repeat (first | exact True.intro | refine And.intro ?_ ?_ | exact DLead.same)
  · intro k ⟨hk, hall⟩
    refine AC.seq ?_
    refine AC.region ?_
    refine AL.p (by exact g_cmp rfl rfl rfl) rfl ?_
    refine AL.nil ?_
    refine th_n ?_
    refine AC.seq ?_
    refine AC.condD rfl (fun h0 => ?_) (fun h0 => ?_)
    · refine AC.skip ?_
      refine th_n ?_
      refine AC.seq ?_
      refine AC.block ?_
      refine AC.seq ?_
      have hk1 : k < l.length := by omega
      have hget := sigsL_get hk1
      refine AC.region ?_
      refine AL.p (by exact mv1 rfl) rfl ?_
      refine AL.p (by exact as1 rfl) rfl ?_
      refine AL.nil ?_
      refine th_n ?_
      refine AC.seq ?_
      refine AC.region ?_
      refine AL.p (by exact mv6 rfl) rfl ?_
      refine AL.p (by exact mv1 rfl) rfl ?_
      refine AL.p (by exact mv1 rfl) rfl ?_
      refine AL.p (by exact g_ia_view rfl rfl rfl rfl rfl (by rfl) (by assumption)) rfl ?_
      refine AL.p (by exact g_load_refN rfl rfl rfl rfl) rfl ?_
      refine AL.q (by exact h_pure hen rfl rfl (by exact ⟨_, _, rfl, ⟨_, rfl, _, _, rfl, .same, _, _, rfl, .same, rfl⟩, leadsL_data _ ds⟩) (hp l[k] (List.getElem_mem hk1)) rfl) rfl ?_
      refine AL.nil ?_
      refine th_n ?_
      refine AC.condB rfl (fun h1 => ?_) (fun h1 => ?_)
      · refine AC.seq ?_
        refine AC.region ?_
        refine AL.p (by exact mv1 rfl) rfl ?_
        refine AL.p (by exact as1 rfl) rfl ?_
        refine AL.nil ?_
        refine th_n ?_
        refine AC.ret ?_
        refine ib_r ?_
        refine th_r ?_
        refine th_r ?_
        refine ib_r ?_
        refine th_r ?_
        refine bq_r ?_
        exact ret1 rfl (by rw [findI_at hk1 h1 (fun j hj => hall j (by omega) hj)])
      · refine AC.skip ?_
        refine ib_n ?_
        refine th_n ?_
        refine AC.region ?_
        refine AL.p (by exact g_arith rfl rfl rfl (by exact wrap_i64 (by omega))) rfl ?_
        refine AL.p (by exact mv1 rfl) rfl ?_
        refine AL.nil ?_
        refine th_n ?_
        exact ⟨k + 1, ⟨by omega, fun j hj hj2 => by rcases Nat.lt_succ_iff_lt_or_eq.1 hj2 with h | rfl; exact hall j hj h; exact h1⟩, by omega, Weak.ren _ [] hC rfl ⟨.same, ⟨_, rfl, leadsL_data _ ds⟩, by repeat (first | exact True.intro | refine And.intro ?_ ?_ | exact DLead.same)⟩ trivial rfl rfl rfl⟩
    · refine AC.exit ?_
      refine th_e ?_
      refine th_e ?_
      refine ib_y ?_
      refine th_n ?_
      refine AC.seq ?_
      refine AC.region ?_
      refine AL.p (by exact as1 rfl) rfl ?_
      refine AL.nil ?_
      refine th_n ?_
      refine AC.ret ?_
      refine bq_r ?_
      exact ret1 rfl (by rw [findI_none (fun j hj => hall j hj (by omega))])
theorem en_indexSig : Enters Tryd.prog 57 := enters_of Tryd.func57 rfl rfl
set_option maxHeartbeats 1000000 in
theorem containsSig_spec (l : List Sig) (hl : l.length ≤ 2000000) (g : FuncId) (ds : List DV) (hen : Enters Tryd.prog g) (p : Sig → Bool) (hp : ∀ t, t ∈ l → ASpec Tryd.prog g (sigA t :: ds.map .d) [] (Pure1 (aT (p t)))) : ASpec Tryd.prog 54 [.d (vSigs l), .clo g (ds.map .d)] [] (Pure1 (aT (l.any p))) := by
  refine ASpec.of Tryd.func54 rfl rfl fun C hC => ?_
  refine AC.seq ?_
  refine AC.region ?_
  refine AL.p (by exact as1 rfl) rfl ?_
  refine AL.nil ?_
  refine th_n ?_
  refine AC.seq ?_
  refine AC.region ?_
  refine AL.p (by exact mv1 rfl) rfl ?_
  refine AL.p (by exact mv6 rfl) rfl ?_
  refine AL.q (by exact h_pure en_indexSig rfl rfl (by exact ⟨_, _, rfl, .same, _, _, rfl, ⟨_, rfl, leadsL_data _ ds⟩, rfl⟩) (indexSig_spec l hl g ds hen p hp) rfl) rfl ?_
  refine AL.p (by exact g_cmp rfl rfl rfl) rfl ?_
  refine AL.p (by exact as1 rfl) rfl ?_
  refine AL.nil ?_
  refine th_n ?_
  refine AC.ret ?_
  refine bq_r ?_
  exact ret1 rfl (by rw [findI_any])
theorem en_containsSig : Enters Tryd.prog 54 := enters_of Tryd.func54 rfl rfl
theorem areSignals1_spec (x s : Sig) : ASpec Tryd.prog 55 [sigA x, .d (.ref (sigD s))] [] (Pure1 (aT (decide (x.name = s.name)))) := by
  refine ASpec.of Tryd.func55 rfl rfl fun C hC => ?_
  refine AC.seq ?_
  refine AC.region ?_
  refine AL.q (by exact h_boxF rfl rfl) rfl ?_
  refine AL.p (by exact as1 rfl) rfl ?_
  refine AL.nil ?_
  refine th_n ?_
  refine AC.seq ?_
  refine AC.region ?_
  refine AL.p (by exact g_fa_ref rfl rfl rfl rfl rfl rfl) rfl ?_
  refine AL.p (by exact g_load_ref rfl rfl rfl) rfl ?_
  refine AL.p (by exact g_fa_ref rfl rfl rfl rfl rfl rfl) rfl ?_
  refine AL.p (by exact g_load_ref rfl rfl rfl) rfl ?_
  refine AL.p (by exact g_scmp rfl rfl rfl) rfl ?_
  refine AL.p (by exact as1 rfl) rfl ?_
  refine AL.nil ?_
  refine th_n ?_
  refine AC.ret ?_
  refine bq_r ?_
  exact ret1 rfl (by simp only [bstr_iff])
theorem en_areSignals1 : Enters Tryd.prog 55 := enters_of Tryd.func55 rfl rfl
set_option maxHeartbeats 1000000 in
theorem areSignals_spec (l : List Sig) (hl : l.length ≤ 1048576) (hn : ∀ t, t ∈ l → t.name.length ≤ 1048576) : ASpec Tryd.prog 29 [.d (vSigs l)] [] (Pure1 (aT (sigsB l))) := by
  refine ASpec.of Tryd.func29 rfl rfl fun C hC => ?_
  refine AC.seq ?_
  refine AC.region ?_
  refine AL.p (by exact as1 rfl) rfl ?_
  refine AL.nil ?_
  refine th_n ?_
  refine AC.seq ?_
  refine AC.seq ?_
  refine AC.region ?_
  refine AL.p (by exact mv1 rfl) rfl ?_
  refine AL.p (by exact g_len_view rfl rfl (by exact List.length_map _)) rfl ?_
  refine AL.p (by exact mv1 rfl) rfl ?_
  refine AL.nil ?_
  refine th_n ?_
  refine AC.block ?_
  refine AC.loop (ι := Nat) (fun k => ⟨33, 0, [(0, .d (vSigs l)), (5, .d (vSigs l)), (6, aI l.length), (7, aI k)], []⟩) (fun k => k ≤ l.length ∧ ∀ j (hj : j < l.length), j < k → sigK l j = true) (fun k => l.length - k) (0) ?_ (⟨Nat.zero_le _, fun j _ hj => by omega⟩) ?_
  · refine Weak.ren _ [] hC rfl ?_ ?_ rfl rfl rfl <;> repeat (first | exact True.intro | refine And.intro ?_ ?_ | exact DLead.same)
  · intro k ⟨hk, hall⟩
    refine AC.seq ?_
    refine AC.region ?_
    refine AL.p (by exact g_cmp rfl rfl rfl) rfl ?_
    refine AL.nil ?_
    refine th_n ?_
    refine AC.seq ?_
    refine AC.condD rfl (fun h0 => ?_) (fun h0 => ?_)
    · refine AC.skip ?_
      refine th_n ?_
      refine AC.seq ?_
      refine AC.block ?_
      refine AC.seq ?_
      have hk1 : k < l.length := by omega
      have hget := sigsL_get hk1
      have hnk := hn _ (List.getElem_mem hk1)
      refine AC.region ?_
      refine AL.p (by exact mv1 rfl) rfl ?_
      refine AL.p (by exact g_ia_view rfl rfl rfl rfl rfl (by rfl) (by assumption)) rfl ?_
      refine AL.p (by exact g_load_refN rfl rfl rfl rfl) rfl ?_
      refine AL.q (by exact h_alloc rfl) rfl ?_
      refine AL.p (by exact as1 rfl) rfl ?_
      refine AL.q (by exact h_store rfl rfl rfl rfl rfl rfl) rfl ?_
      refine AL.nil ?_
      refine th_n ?_
      refine AC.seq ?_
      refine AC.weak (Weak.freezeRef (ds := sigD l[k]) 4 rfl rfl) ?_
      have hkl : k ≤ (sigsL l).length := by rw [sigsL_len]; exact hk
      have htk : ((sigsL l).take k).drop 0 = sigsL (l.take k) := by simp [List.map_take]
      have hN := isName_spec l[k].name (by omega)
      have hW := within_spec l[k].kind 1 3
      have hS := containsSig_spec (l.take k) (by rw [List.length_take]; omega) 55 [.ref (sigD l[k])] en_areSignals1 (fun y => decide (y.name = l[k].name)) (fun t _ => areSignals1_spec t l[k])
      have hK : sigK l k = (nameB l[k].name && ((decide ((1 : Int) ≤ l[k].kind) && decide (l[k].kind ≤ 3)) && !(l.take k).any (fun y => decide (y.name = l[k].name)))) := by rw [sigK, sAt_nat hk1]; rfl
      obtain ⟨b1, hb1⟩ : ∃ b, b = nameB l[k].name := ⟨_, rfl⟩
      obtain ⟨b2, hb2⟩ : ∃ b, b = (decide ((1 : Int) ≤ l[k].kind) && decide (l[k].kind ≤ 3)) := ⟨_, rfl⟩
      obtain ⟨b3, hb3⟩ : ∃ b, b = (l.take k).any (fun y => decide (y.name = l[k].name)) := ⟨_, rfl⟩
      rw [← hb1] at hN hK
      rw [← hb2] at hW hK
      rw [← hb3] at hS hK
      clear hb1 hb2 hb3
      refine AC.region ?_
      refine AL.p (by exact g_fa_ref rfl rfl rfl rfl rfl rfl) rfl ?_
      refine AL.p (by exact g_load_ref rfl rfl rfl) rfl ?_
      refine AL.q (by exact h_pure en_isName rfl rfl (by repeat (first | exact rfl | exact DLead.same | refine ⟨_, _, rfl, ?_, ?_⟩)) hN rfl) rfl ?_
      refine AL.p (by exact g_not rfl) rfl ?_
      refine AL.p (by exact mv1 rfl) rfl ?_
      refine AL.caseGB rfl rfl (fun h1 => ?_) (fun h1 => ?_)
      · refine AL.not rfl rfl rfl rfl rfl ?_
        refine AL.not rfl rfl rfl rfl rfl ?_
        refine AL.not rfl rfl rfl rfl rfl ?_
        refine AL.not rfl rfl rfl rfl rfl ?_
        refine AL.p (by exact g_pickT (r := .d _) rfl rfl) rfl ?_
        refine AL.p (by exact mv1 rfl) rfl ?_
        refine AL.not rfl rfl rfl rfl rfl ?_
        refine AL.not rfl rfl rfl rfl rfl ?_
        refine AL.not rfl rfl rfl rfl rfl ?_
        refine AL.not rfl rfl rfl rfl rfl ?_
        refine AL.not rfl rfl rfl rfl rfl ?_
        refine AL.p (by exact g_pickT (r := .d _) rfl rfl) rfl ?_
        refine AL.nil ?_
        refine th_n ?_
        refine AC.condT rfl ?_
        refine AC.seq ?_
        refine AC.region ?_
        refine AL.p (by exact as1 rfl) rfl ?_
        refine AL.nil ?_
        refine th_n ?_
        refine AC.ret ?_
        refine ib_r ?_
        refine th_r ?_
        refine th_r ?_
        refine ib_r ?_
        refine th_r ?_
        refine bq_r ?_
        exact ret1 rfl (by rw [sigsB_no hk1 (by rw [hK]; simp_all)])
      · refine AL.yes rfl rfl rfl ?_
        refine AL.p (by exact g_fa_ref rfl rfl rfl rfl rfl rfl) rfl ?_
        refine AL.yes rfl rfl rfl ?_
        refine AL.p (by exact g_load_ref rfl rfl rfl) rfl ?_
        refine AL.yes rfl rfl rfl ?_
        refine AL.q (by exact h_pure en_within rfl rfl (by repeat (first | exact rfl | exact DLead.same | refine ⟨_, _, rfl, ?_, ?_⟩)) hW rfl) rfl ?_
        refine AL.yes rfl rfl rfl ?_
        refine AL.p (by exact g_not rfl) rfl ?_
        refine AL.p (by exact g_pickF (r := .d _) rfl rfl) rfl ?_
        refine AL.p (by exact mv1 rfl) rfl ?_
        refine AL.caseGB rfl rfl (fun h2 => ?_) (fun h2 => ?_)
        · refine AL.not rfl rfl rfl rfl rfl ?_
          refine AL.not rfl rfl rfl rfl rfl ?_
          refine AL.not rfl rfl rfl rfl rfl ?_
          refine AL.not rfl rfl rfl rfl rfl ?_
          refine AL.not rfl rfl rfl rfl rfl ?_
          refine AL.p (by exact g_pickT (r := .d _) rfl rfl) rfl ?_
          refine AL.nil ?_
          refine th_n ?_
          refine AC.condT rfl ?_
          refine AC.seq ?_
          refine AC.region ?_
          refine AL.p (by exact as1 rfl) rfl ?_
          refine AL.nil ?_
          refine th_n ?_
          refine AC.ret ?_
          refine ib_r ?_
          refine th_r ?_
          refine th_r ?_
          refine ib_r ?_
          refine th_r ?_
          refine bq_r ?_
          exact ret1 rfl (by rw [sigsB_no hk1 (by rw [hK]; simp_all)])
        · refine AL.yes rfl rfl rfl ?_
          refine AL.p (by exact mv1 rfl) rfl ?_
          refine AL.yes rfl rfl rfl ?_
          refine AL.p (by exact mv1 rfl) rfl ?_
          refine AL.yes rfl rfl rfl ?_
          refine AL.p (by exact g_slice_view (r := sigsL (l.take k)) (l := 0) (h := k) rfl rfl rfl rfl .none (.some rfl rfl) (Nat.zero_le _) hkl htk) rfl ?_
          refine AL.yes rfl rfl rfl ?_
          refine AL.p (by exact g_fn rfl) rfl ?_
          refine AL.yes rfl rfl rfl ?_
          refine AL.q (by exact h_pure en_containsSig rfl rfl (by exact ⟨_, _, rfl, .same, _, _, rfl, ⟨_, rfl, leadsL_data _ _⟩, rfl⟩) hS rfl) rfl ?_
          refine AL.p (by exact g_pickF (r := .d _) rfl rfl) rfl ?_
          refine AL.nil ?_
          refine th_n ?_
          refine AC.condB rfl (fun h3 => ?_) (fun h3 => ?_)
          · refine AC.seq ?_
            refine AC.region ?_
            refine AL.p (by exact as1 rfl) rfl ?_
            refine AL.nil ?_
            refine th_n ?_
            refine AC.ret ?_
            refine ib_r ?_
            refine th_r ?_
            refine th_r ?_
            refine ib_r ?_
            refine th_r ?_
            refine bq_r ?_
            exact ret1 rfl (by rw [sigsB_no hk1 (by rw [hK]; simp_all)])
          · refine AC.skip ?_
            refine ib_n ?_
            refine th_n ?_
            refine AC.region ?_
            refine AL.p (by exact g_arith rfl rfl rfl (by exact wrap_i64 (by omega))) rfl ?_
            refine AL.p (by exact mv1 rfl) rfl ?_
            refine AL.nil ?_
            refine th_n ?_
            exact ⟨k + 1, ⟨by omega, fun j hj hj2 => by rcases Nat.lt_succ_iff_lt_or_eq.1 hj2 with h | rfl; exact hall j hj h; rw [hK]; simp_all⟩, by omega, Weak.ren _ [] hC rfl (by repeat (first | exact True.intro | refine And.intro ?_ ?_ | exact DLead.same)) (by repeat (exact True.intro)) rfl rfl rfl⟩
    · refine AC.exit ?_
      refine th_e ?_
      refine th_e ?_
      refine ib_y ?_
      refine th_n ?_
      refine AC.seq ?_
      refine AC.region ?_
      refine AL.p (by exact mv1 rfl) rfl ?_
      refine AL.p (by exact g_len_view rfl rfl (by exact List.length_map _)) rfl ?_
      refine AL.q (by exact h_pure en_within rfl rfl (by repeat (first | exact rfl | exact DLead.same | refine ⟨_, _, rfl, ?_, ?_⟩)) (within_spec _ _ _) rfl) rfl ?_
      refine AL.p (by exact as1 rfl) rfl ?_
      refine AL.nil ?_
      refine th_n ?_
      refine AC.ret ?_
      refine bq_r ?_
      exact ret1 rfl (by rw [sigsB_yes (fun j hj => hall j hj (by omega))]; rfl)
theorem en_areSignals : Enters Tryd.prog 29 := enters_of Tryd.func29 rfl rfl
theorem any_take_step {α : Type} {p : α → Bool} {l : List α} {k : Nat} (hk : k < l.length) (h : ∀ j (hj : j < l.length), j < k → p l[j] = false) : (l.take k).any p = false := by
  rw [List.any_eq_false]
  intro x hx
  obtain ⟨j, hj, rfl⟩ := List.getElem_of_mem hx
  rw [List.length_take] at hj
  rw [List.getElem_take, h j (by omega) (by omega)]
  simp
theorem any_take_at {α : Type} {p : α → Bool} {l : List α} {k j : Nat} (hk : k ≤ l.length) (hj : j < k) (h : p (l[j]'(by omega)) = true) : (l.take k).any p = true := by
  rw [List.any_eq_true]
  exact ⟨l[j]'(by omega), List.mem_take_iff_getElem.2 ⟨j, by omega, rfl⟩, h⟩
set_option maxHeartbeats 1000000 in
theorem l2Signals_spec (l : List Sig) (hl : l.length ≤ 1048576) (hn : ∀ t, t ∈ l → t.name.length ≤ 1048576) : ASpec Tryd.prog 47 [.d (vSigs l)] [] (Pure1 (aT (sigsB l))) := by
  refine ASpec.of Tryd.func47 rfl rfl fun C hC => ?_
  refine AC.seq ?_
  refine AC.region ?_
  refine AL.p (by exact as1 rfl) rfl ?_
  refine AL.nil ?_
  refine th_n ?_
  refine AC.seq ?_
  refine AC.seq ?_
  refine AC.region ?_
  refine AL.p (by exact mv1 rfl) rfl ?_
  refine AL.p (by exact g_len_view rfl rfl (by exact List.length_map _)) rfl ?_
  refine AL.p (by exact mv1 rfl) rfl ?_
  refine AL.nil ?_
  refine th_n ?_
  refine AC.block ?_
  refine AC.loop (ι := Nat) (fun k => ⟨42, 0, [(0, .d (vSigs l)), (7, .d (vSigs l)), (8, aI l.length), (9, aI k)], []⟩) (fun k => k ≤ l.length ∧ ∀ j (hj : j < l.length), j < k → sigK l j = true) (fun k => l.length - k) (0) ?_ (⟨Nat.zero_le _, fun j _ hj => by omega⟩) ?_
  · refine Weak.ren _ [] hC rfl ?_ ?_ rfl rfl rfl <;> repeat (first | exact True.intro | refine And.intro ?_ ?_ | exact DLead.same)
  · intro k ⟨hk, hall⟩
    refine AC.seq ?_
    refine AC.region ?_
    refine AL.p (by exact g_cmp rfl rfl rfl) rfl ?_
    refine AL.nil ?_
    refine th_n ?_
    refine AC.seq ?_
    refine AC.condD rfl (fun h0 => ?_) (fun h0 => ?_)
    · refine AC.skip ?_
      refine th_n ?_
      refine AC.seq ?_
      refine AC.block ?_
      refine AC.seq ?_
      have hk1 : k < l.length := by omega
      have hget := sigsL_get hk1
      have hnk := hn _ (List.getElem_mem hk1)
      refine AC.region ?_
      refine AL.p (by exact mv1 rfl) rfl ?_
      refine AL.p (by exact g_ia_view rfl rfl rfl rfl rfl (by rfl) (by assumption)) rfl ?_
      refine AL.p (by exact g_load_refN rfl rfl rfl rfl) rfl ?_
      refine AL.q (by exact h_alloc rfl) rfl ?_
      refine AL.p (by exact as1 rfl) rfl ?_
      refine AL.q (by exact h_store rfl rfl rfl rfl rfl rfl) rfl ?_
      refine AL.nil ?_
      refine th_n ?_
      refine AC.seq ?_
      refine AC.seq ?_
      refine AC.weak (Weak.freezeRef (ds := sigD l[k]) 4 rfl rfl) ?_
      have hkl : k ≤ (sigsL l).length := by rw [sigsL_len]; exact hk
      have htk : ((sigsL l).take k).drop 0 = sigsL (l.take k) := by simp [List.map_take]
      have hN := l2Name_spec l[k].name (by omega)
      have hW := l1In_spec l[k].kind 1 3
      have hK : sigK l k = (nameB l[k].name && ((decide ((1 : Int) ≤ l[k].kind) && decide (l[k].kind ≤ 3)) && !(l.take k).any (fun y => decide (y.name = l[k].name)))) := by rw [sigK, sAt_nat hk1]; rfl
      obtain ⟨b1, hb1⟩ : ∃ b, b = nameB l[k].name := ⟨_, rfl⟩
      obtain ⟨b2, hb2⟩ : ∃ b, b = (decide ((1 : Int) ≤ l[k].kind) && decide (l[k].kind ≤ 3)) := ⟨_, rfl⟩
      rw [← hb1] at hN hK
      rw [← hb2] at hW hK
      clear hb1 hb2
      refine AC.region ?_
      refine AL.p (by exact g_fa_ref rfl rfl rfl rfl rfl rfl) rfl ?_
      refine AL.p (by exact g_load_ref rfl rfl rfl) rfl ?_
      refine AL.q (by exact h_pure en_l2Name rfl rfl (by repeat (first | exact rfl | exact DLead.same | refine ⟨_, _, rfl, ?_, ?_⟩)) hN rfl) rfl ?_
      refine AL.p (by exact g_not rfl) rfl ?_
      refine AL.p (by exact mv1 rfl) rfl ?_
      refine AL.caseGB rfl rfl (fun h1 => ?_) (fun h1 => ?_)
      · refine AL.not rfl rfl rfl rfl rfl ?_
        refine AL.not rfl rfl rfl rfl rfl ?_
        refine AL.not rfl rfl rfl rfl rfl ?_
        refine AL.not rfl rfl rfl rfl rfl ?_
        refine AL.p (by exact g_pickT (r := .d _) rfl rfl) rfl ?_
        refine AL.nil ?_
        refine th_n ?_
        refine AC.condT rfl ?_
        refine AC.seq ?_
        refine AC.region ?_
        refine AL.p (by exact as1 rfl) rfl ?_
        refine AL.nil ?_
        refine th_n ?_
        refine AC.ret ?_
        refine th_r ?_
        refine ib_r ?_
        refine th_r ?_
        refine th_r ?_
        refine ib_r ?_
        refine th_r ?_
        refine bq_r ?_
        exact ret1 rfl (by rw [sigsB_no hk1 (by rw [hK]; simp_all)])
      · refine AL.yes rfl rfl rfl ?_
        refine AL.p (by exact g_fa_ref rfl rfl rfl rfl rfl rfl) rfl ?_
        refine AL.yes rfl rfl rfl ?_
        refine AL.p (by exact g_load_ref rfl rfl rfl) rfl ?_
        refine AL.yes rfl rfl rfl ?_
        refine AL.q (by exact h_pure en_l1In rfl rfl (by repeat (first | exact rfl | exact DLead.same | refine ⟨_, _, rfl, ?_, ?_⟩)) hW rfl) rfl ?_
        refine AL.yes rfl rfl rfl ?_
        refine AL.p (by exact g_not rfl) rfl ?_
        refine AL.p (by exact g_pickF (r := .d _) rfl rfl) rfl ?_
        refine AL.nil ?_
        refine th_n ?_
        refine AC.condB rfl (fun h2 => ?_) (fun h2 => ?_)
        · refine AC.seq ?_
          refine AC.region ?_
          refine AL.p (by exact as1 rfl) rfl ?_
          refine AL.nil ?_
          refine th_n ?_
          refine AC.ret ?_
          refine th_r ?_
          refine ib_r ?_
          refine th_r ?_
          refine th_r ?_
          refine ib_r ?_
          refine th_r ?_
          refine bq_r ?_
          exact ret1 rfl (by rw [sigsB_no hk1 (by rw [hK]; simp_all)])
        · refine AC.skip ?_
          refine th_n ?_
          refine AC.seq ?_
          refine AC.region ?_
          refine AL.p (by exact mv1 rfl) rfl ?_
          refine AL.p (by exact mv1 rfl) rfl ?_
          refine AL.p (by exact g_slice_view (r := sigsL (l.take k)) (l := 0) (h := k) rfl rfl rfl rfl .none (.some rfl rfl) (Nat.zero_le _) hkl htk) rfl ?_
          refine AL.p (by exact g_len_view (els := sigsL (l.take k)) (k := k) rfl rfl (by rw [sigsL_len, List.length_take]; omega)) rfl ?_
          refine AL.p (by exact mv1 rfl) rfl ?_
          refine AL.nil ?_
          refine th_n ?_
          refine AC.block ?_
          refine AC.loop (ι := Nat) (fun q => ⟨42, 0, [(0, .d (vSigs l)), (7, .d (vSigs l)), (8, aI l.length), (9, aI k), (4, .d (.ref (sigD l[k]))), (26, .d (vSigs (l.take k))), (27, aI k), (28, aI q)], []⟩) (fun q => q ≤ k ∧ ∀ j (hj : j < l.length), j < q → (fun y : Sig => decide (y.name = l[k].name)) l[j] = false) (fun q => k - q) (0) ?_ (⟨Nat.zero_le _, fun j _ hj => by omega⟩) ?_
          · refine Weak.ren _ [] hC rfl ?_ ?_ rfl rfl rfl <;> repeat (first | exact True.intro | refine And.intro ?_ ?_ | exact DLead.same)
          · intro q ⟨hq, hno⟩
            refine AC.seq ?_
            refine AC.region ?_
            refine AL.p (by exact g_cmp rfl rfl rfl) rfl ?_
            refine AL.nil ?_
            refine th_n ?_
            refine AC.seq ?_
            refine AC.condD rfl (fun h3 => ?_) (fun h3 => ?_)
            · refine AC.skip ?_
              refine th_n ?_
              refine AC.seq ?_
              refine AC.block ?_
              refine AC.seq ?_
              have hq1 : q < k := by omega
              have hget2 : (sigsL (l.take k))[q]? = some (sigD (l[q]'(by omega))) := by rw [sigsL_get (by rw [List.length_take]; omega)]; simp
              refine AC.region ?_
              refine AL.p (by exact g_ia_view rfl rfl rfl rfl rfl (by rfl) (by assumption)) rfl ?_
              refine AL.p (by exact g_load_refN rfl rfl rfl rfl) rfl ?_
              refine AL.q (by exact h_alloc rfl) rfl ?_
              refine AL.q (by exact h_store rfl rfl rfl rfl rfl rfl) rfl ?_
              refine AL.nil ?_
              refine th_n ?_
              refine AC.seq ?_
              refine AC.region ?_
              refine AL.p (by exact g_fa_ref rfl rfl rfl rfl rfl rfl) rfl ?_
              refine AL.p (by exact g_load_ref rfl rfl rfl) rfl ?_
              refine AL.p (by exact g_fa_ptr rfl rfl rfl rfl rfl) rfl ?_
              refine AL.p (by exact g_load_ptr rfl rfl rfl rfl rfl) rfl ?_
              refine AL.p (by exact g_scmp rfl rfl rfl) rfl ?_
              refine AL.nil ?_
              refine th_n ?_
              refine AC.condD rfl (fun h4 => ?_) (fun h4 => ?_)
              · refine AC.seq ?_
                refine AC.region ?_
                refine AL.p (by exact as1 rfl) rfl ?_
                refine AL.nil ?_
                refine th_n ?_
                refine AC.ret ?_
                refine ib_r ?_
                refine th_r ?_
                refine th_r ?_
                refine ib_r ?_
                refine ib_r ?_
                refine th_r ?_
                refine th_r ?_
                refine ib_r ?_
                refine th_r ?_
                refine bq_r ?_
                have hne : (l.take k).any (fun y => decide (y.name = l[k].name)) = true := any_take_at (by omega) hq1 (by have := bstr_inj h4; simp [this])
                exact ret1 rfl (by rw [sigsB_no hk1 (by rw [hK, hne]; simp)])
              · refine AC.skip ?_
                refine ib_n ?_
                refine th_n ?_
                refine AC.region ?_
                refine AL.p (by exact g_arith rfl rfl rfl (by exact wrap_i64 (by omega))) rfl ?_
                refine AL.p (by exact mv1 rfl) rfl ?_
                refine AL.nil ?_
                refine th_n ?_
                exact ⟨q + 1, ⟨by omega, fun j hj hj2 => by rcases Nat.lt_succ_iff_lt_or_eq.1 hj2 with h | rfl; exact hno j hj h; exact decide_eq_false (fun e => h4 (by rw [e]))⟩, by omega, Weak.ren _ [] hC rfl (by repeat (first | exact True.intro | refine And.intro ?_ ?_ | exact DLead.same)) (by repeat (exact True.intro)) rfl rfl rfl⟩
            · refine AC.exit ?_
              refine th_e ?_
              refine th_e ?_
              refine ib_y ?_
              refine ib_n ?_
              refine th_n ?_
              refine AC.region ?_
              refine AL.p (by exact g_arith rfl rfl rfl (by exact wrap_i64 (by omega))) rfl ?_
              refine AL.p (by exact mv1 rfl) rfl ?_
              refine AL.nil ?_
              refine th_n ?_
              exact ⟨k + 1, ⟨by omega, fun j hj hj2 => by rcases Nat.lt_succ_iff_lt_or_eq.1 hj2 with h | rfl; exact hall j hj h; rw [hK, any_take_step hk1 (fun j hj hjk => hno j hj (by omega))]; simp_all⟩, by omega, Weak.ren _ [] hC rfl (by repeat (first | exact True.intro | refine And.intro ?_ ?_ | exact DLead.same)) (by repeat (exact True.intro)) rfl rfl rfl⟩
    · refine AC.exit ?_
      refine th_e ?_
      refine th_e ?_
      refine ib_y ?_
      refine th_n ?_
      refine AC.seq ?_
      refine AC.region ?_
      refine AL.p (by exact mv1 rfl) rfl ?_
      refine AL.p (by exact g_len_view rfl rfl (by exact List.length_map _)) rfl ?_
      refine AL.q (by exact h_pure en_l1In rfl rfl (by repeat (first | exact rfl | exact DLead.same | refine ⟨_, _, rfl, ?_, ?_⟩)) (l1In_spec _ _ _) rfl) rfl ?_
      refine AL.p (by exact as1 rfl) rfl ?_
      refine AL.nil ?_
      refine th_n ?_
      refine AC.ret ?_
      refine bq_r ?_
      exact ret1 rfl (by rw [sigsB_yes (fun j hj => hall j hj (by omega))]; rfl)
theorem en_l2Signals : Enters Tryd.prog 47 := enters_of Tryd.func47 rfl rfl
end Go.Proofs.YtnklhbfdfddigaaDoor

set_option linter.all false
set_option maxRecDepth 20000
namespace Go.Proofs.YtnklhbfdfddigaaDoor
open Go.RowKit

def intBool (P : Program) (t : Nat) : Bool :=
  match P.underlying t with
  | some (.struct fs) =>
    !P.stoodInHeld t && !P.eqGuardType P.depth t &&
      match fs.toList with
      | [f, g] => f.name != "_" && g.name != "_" && f.offset == 0 && g.offset == 1 &&
        (match P.underlying f.type with | some (.int _) => true | _ => false) && (match P.underlying g.type with | some .bool => true | _ => false) && P.plainKey f.type && P.plainKey g.type
      | _ => false
  | _ => false
section
variable {P : Program} [PT P]
variable {s : ASt} {dst : Option Nat} {ty : Nat} {pos : String} {af : Array Edge} {gd : Option (Nat × Bool)} {x y : Operand} {xt yt : Nat}
theorem equalIB {t : Nat} {a c : Int} {b d : Bool} (h : intBool P t = true) (w : World) : (Op.equalIn 10000 t (.agg #[.int .i64 a, .bool b]) (.agg #[.int .i64 c, .bool d])).run P w = .ok (decide (a = c ∧ b = d)) w ∧ P.eqGuardType P.depth t = false := by
  unfold intBool at h
  split at h
  · rename_i fs hu
    simp only [Bool.and_eq_true, Bool.not_eq_true'] at h
    obtain ⟨⟨h1, h2⟩, h3⟩ := h
    refine ⟨?_, h2⟩
    have hF : P.fieldsOf t = fs := by unfold Program.fieldsOf; rw [hu]
    rw [run_equalIn_agg w 9999 t _ _ (by rw [hF]; exact hu) h1, hF]
    split at h3
    · rename_i f g he
      rw [he]
      simp only [Bool.and_eq_true, bne_iff_ne, ne_eq, beq_iff_eq] at h3
      obtain ⟨⟨⟨⟨⟨⟨⟨n1, n2⟩, o1⟩, o2⟩, u1⟩, u2⟩, p1⟩, p2⟩ := h3
      split at u1
      · rename_i k1 hu1
        split at u2
        · rename_i hu2
          simp only [Op.eqFields, ne_eq, n1, n2, not_false_eq_true, if_true, o1, o2, Sem.run_bind]
          rw [run_part_plain (w := w) p1 (v := .int .i64 a) rfl]
          simp only [Result.andThen_ok, Sem.run_bind]
          rw [run_part_plain (w := w) p1 (v := .int .i64 c) rfl]
          simp only [Result.andThen_ok, Sem.run_bind]
          rw [run_equalIn_int w _ _ _ _ _ _ hu1]
          simp only [Result.andThen_ok, Sem.run_ite]
          by_cases e1 : a = c
          · subst e1
            rw [if_neg (by simp)]
            simp only [Sem.run_bind]
            rw [run_part_plain (w := w) p2 (v := .bool b) rfl]
            simp only [Result.andThen_ok, Sem.run_bind]
            rw [run_part_plain (w := w) p2 (v := .bool d) rfl]
            simp only [Result.andThen_ok, Sem.run_bind]
            rw [run_equalIn_bool' w _ _ _ _ hu2]
            simp only [Result.andThen_ok, Sem.run_ite, Sem.run_pure]
            by_cases e2 : b = d
            · subst e2; simp
            · simp [e2]
          · rw [if_pos (by simp [e1])]
            simp [e1]
        · exact absurd u2 (by decide)
      · exact absurd u1 (by decide)
    · exact absurd h3 (by decide)
  · exact absurd h (by decide)
theorem ib_agg {m : Nat → Option (Option Nat × Nat)} {F : Nat → Prop} {w : World} {a : Int} {b : Bool} {v : Value} (h : ARep m F w (.agg [aI a, aT b]) v) : v = .agg #[.int .i64 a, .bool b] := by
  cases h with
  | agg h1 h2 h3 =>
    rename_i vs
    have e0 := h2 0 _ rfl
    have e1 := h2 1 _ rfl
    obtain ⟨e0, -⟩ := e0.val_eq
    obtain ⟨e1, -⟩ := e1.val_eq
    have hsz : vs.size = 2 := h1
    congr 1
    apply Array.ext
    · exact hsz
    · intro i hi hi2
      match i, hi, hi2 with
      | 0, hi, hi2 => rw [Array.getD_eq_getD_getElem?, Array.getElem?_eq_getElem hi] at e0; exact e0
      | 1, hi, hi2 => rw [Array.getD_eq_getD_getElem?, Array.getElem?_eq_getElem hi] at e1; exact e1
      | n + 2, hi, hi2 => omega
theorem g_eqIB {a c : Int} {b d : Bool} {op : BinOp} {r : Bool} (ht : intBool P xt = true) (hx : s.ev x = .agg [aI a, aT b]) (hy : s.ev y = .agg [aI c, aT d]) (hop : eqOf op (decide (a = c ∧ b = d)) = some r) :
    GOp P [] s ⟨dst, .binOp op xt x y yt, ty, pos, af, gd⟩ (aT r) := by
  refine ⟨fun s' ha C U a' w m hR => ?_⟩
  have h1 := hR.ev x
  have h2 := hR.ev y
  rw [ha.2.1 x (by simp [Op.operands]), hx] at h1
  rw [ha.2.1 y (by simp [Op.operands]), hy] at h2
  have e1 := ib_agg h1
  have e2 := ib_agg h2
  obtain ⟨q1, q2⟩ := equalIB (a := a) (b := b) (c := c) (d := d) ht w
  refine ⟨.bool r, ?_, .d (.val trivial)⟩
  simp only [execOp, e1, e2, Sem.run_bind, run_eqGuard_agg w op xt x y _ _ q2, Result.andThen_ok]
  cases op <;> simp only [eqOf, Option.some.injEq, reduceCtorEq] at hop
  · subst hop; rw [run_eql_struct, q1]; rfl
  · subst hop; rw [run_neq_struct, q1]; rfl
end
end Go.Proofs.YtnklhbfdfddigaaDoor

set_option linter.all false
set_option maxRecDepth 20000
namespace Go.Proofs.YtnklhbfdfddigaaDoor
open Go.RowKit

theorem lab_iff {a b : Lab} : a = b ↔ a.sig = b.sig ∧ a.up = b.up := by cases a; cases b; simp
set_option maxHeartbeats 1000000 in
theorem indexLabF_spec (l : List Lab) (hl : l.length ≤ 2000000) (g : FuncId) (ds : List DV) (hen : Enters Tryd.prog g) (p : Lab → Bool) (hp : ∀ t, t ∈ l → ASpec Tryd.prog g (labA t :: ds.map .d) [] (Pure1 (aT (p t)))) : ASpec Tryd.prog 56 [.d (vLabs l), .clo g (ds.map .d)] [] (Pure1 (aI (findI p l))) := by
  refine ASpec.of Tryd.func56 rfl rfl fun C hC => ?_
  refine AC.seq ?_
  refine AC.region ?_
  refine AL.p (by exact as1 rfl) rfl ?_
  refine AL.nil ?_
  refine th_n ?_
  refine AC.seq ?_
  refine AC.seq ?_
  refine AC.region ?_
  refine AL.p (by exact mv1 rfl) rfl ?_
  refine AL.p (by exact g_len_view rfl rfl (by exact List.length_map _)) rfl ?_
  refine AL.p (by exact mv1 rfl) rfl ?_
  refine AL.nil ?_
  refine th_n ?_
  refine AC.block ?_
  refine AC.loop (ι := Nat) (fun k => ⟨19, 0, [(0, .d (vLabs l)), (1, .clo g (ds.map .d)), (6, .d (vLabs l)), (7, aI l.length), (8, aI k)], []⟩) (fun k => k ≤ l.length ∧ ∀ j (hj : j < l.length), j < k → p l[j] = false) (fun k => l.length - k) (0) ?_ (⟨Nat.zero_le _, fun j _ hj => by omega⟩) ?_
  · refine Weak.ren _ [] hC rfl ⟨.same, ⟨_, rfl, leadsL_data _ ds⟩, ?_⟩ trivial rfl rfl rfl; repeat (first | exact True.intro | refine And.intro ?_ ?_ | exact DLead.same)
  · intro k ⟨hk, hall⟩
    refine AC.seq ?_
    refine AC.region ?_
    refine AL.p (by exact g_cmp rfl rfl rfl) rfl ?_
    refine AL.nil ?_
    refine th_n ?_
    refine AC.seq ?_
    refine AC.condD rfl (fun h0 => ?_) (fun h0 => ?_)
    · refine AC.skip ?_
      refine th_n ?_
      refine AC.seq ?_
      refine AC.block ?_
      refine AC.seq ?_
      have hk1 : k < l.length := by omega
      have hget := labsL_get hk1
      refine AC.region ?_
      refine AL.p (by exact mv1 rfl) rfl ?_
      refine AL.p (by exact as1 rfl) rfl ?_
      refine AL.nil ?_
      refine th_n ?_
      refine AC.seq ?_
      refine AC.region ?_
      refine AL.p (by exact mv6 rfl) rfl ?_
      refine AL.p (by exact mv1 rfl) rfl ?_
      refine AL.p (by exact mv1 rfl) rfl ?_
      refine AL.p (by exact g_ia_view rfl rfl rfl rfl rfl (by rfl) (by assumption)) rfl ?_
      refine AL.p (by exact g_load_refN rfl rfl rfl rfl) rfl ?_
      refine AL.q (by exact h_pure hen rfl rfl (by exact ⟨_, _, rfl, ⟨_, rfl, _, _, rfl, .same, _, _, rfl, .same, rfl⟩, leadsL_data _ ds⟩) (hp l[k] (List.getElem_mem hk1)) rfl) rfl ?_
      refine AL.nil ?_
      refine th_n ?_
      refine AC.condB rfl (fun h1 => ?_) (fun h1 => ?_)
      · refine AC.seq ?_
        refine AC.region ?_
        refine AL.p (by exact mv1 rfl) rfl ?_
        refine AL.p (by exact as1 rfl) rfl ?_
        refine AL.nil ?_
        refine th_n ?_
        refine AC.ret ?_
        refine ib_r ?_
        refine th_r ?_
        refine th_r ?_
        refine ib_r ?_
        refine th_r ?_
        refine bq_r ?_
        exact ret1 rfl (by rw [findI_at hk1 h1 (fun j hj => hall j (by omega) hj)])
      · refine AC.skip ?_
        refine ib_n ?_
        refine th_n ?_
        refine AC.region ?_
        refine AL.p (by exact g_arith rfl rfl rfl (by exact wrap_i64 (by omega))) rfl ?_
        refine AL.p (by exact mv1 rfl) rfl ?_
        refine AL.nil ?_
        refine th_n ?_
        exact ⟨k + 1, ⟨by omega, fun j hj hj2 => by rcases Nat.lt_succ_iff_lt_or_eq.1 hj2 with h | rfl; exact hall j hj h; exact h1⟩, by omega, Weak.ren _ [] hC rfl ⟨.same, ⟨_, rfl, leadsL_data _ ds⟩, by repeat (first | exact True.intro | refine And.intro ?_ ?_ | exact DLead.same)⟩ trivial rfl rfl rfl⟩
    · refine AC.exit ?_
      refine th_e ?_
      refine th_e ?_
      refine ib_y ?_
      refine th_n ?_
      refine AC.seq ?_
      refine AC.region ?_
      refine AL.p (by exact as1 rfl) rfl ?_
      refine AL.nil ?_
      refine th_n ?_
      refine AC.ret ?_
      refine bq_r ?_
      exact ret1 rfl (by rw [findI_none (fun j hj => hall j hj (by omega))])
theorem en_indexLabF : Enters Tryd.prog 56 := enters_of Tryd.func56 rfl rfl
set_option maxHeartbeats 1000000 in
theorem containsLabF_spec (l : List Lab) (hl : l.length ≤ 2000000) (g : FuncId) (ds : List DV) (hen : Enters Tryd.prog g) (p : Lab → Bool) (hp : ∀ t, t ∈ l → ASpec Tryd.prog g (labA t :: ds.map .d) [] (Pure1 (aT (p t)))) : ASpec Tryd.prog 30 [.d (vLabs l), .clo g (ds.map .d)] [] (Pure1 (aT (l.any p))) := by
  refine ASpec.of Tryd.func30 rfl rfl fun C hC => ?_
  refine AC.seq ?_
  refine AC.region ?_
  refine AL.p (by exact as1 rfl) rfl ?_
  refine AL.nil ?_
  refine th_n ?_
  refine AC.seq ?_
  refine AC.region ?_
  refine AL.p (by exact mv1 rfl) rfl ?_
  refine AL.p (by exact mv6 rfl) rfl ?_
  refine AL.q (by exact h_pure en_indexLabF rfl rfl (by exact ⟨_, _, rfl, .same, _, _, rfl, ⟨_, rfl, leadsL_data _ ds⟩, rfl⟩) (indexLabF_spec l hl g ds hen p hp) rfl) rfl ?_
  refine AL.p (by exact g_cmp rfl rfl rfl) rfl ?_
  refine AL.p (by exact as1 rfl) rfl ?_
  refine AL.nil ?_
  refine th_n ?_
  refine AC.ret ?_
  refine bq_r ?_
  exact ret1 rfl (by rw [findI_any])
theorem en_containsLabF : Enters Tryd.prog 30 := enters_of Tryd.func30 rfl rfl
end Go.Proofs.YtnklhbfdfddigaaDoor

set_option linter.all false
set_option maxRecDepth 20000
namespace Go.Proofs.YtnklhbfdfddigaaDoor
open Go.RowKit

structure Stg where
  net : Net
  sigs : List Sig
  labs : List Lab
  start : List UInt8
abbrev stgD (s : Stg) : List DV := [dI s.net.places, vTs s.net.ts, vSigs s.sigs, vLabs s.labs, dS (bstr s.start)]
abbrev stgA (s : Stg) : AV := .agg [aI s.net.places, .d (vTs s.net.ts), .d (vSigs s.sigs), .d (vLabs s.labs), aS (bstr s.start)]
def labOk (x : Lab) (n : Int) : Bool := (decide (0 ≤ x.sig) && decide (x.sig ≤ n - 1)) || (decide (x.sig = -1) && !x.up)
def goodS (s : Stg) : Bool := (goodN s.net && bitsB s.start s.net.places) && (sigsB s.sigs && (decide ((s.labs.length : Int) = s.net.ts.length) && s.labs.all (fun x => labOk x s.sigs.length)))
structure StgL (s : Stg) : Prop where
  n : NetL s.net
  sg : s.sigs.length ≤ 1048576
  sn : ∀ t, t ∈ s.sigs → t.name.length ≤ 1048576
  l : s.labs.length ≤ 1048576
  st : s.start.length ≤ 2000000
theorem l2Label_spec (x : Lab) (n : Nat) (hn : n ≤ 1048576) : ASpec Tryd.prog 45 [labA x, aI n] [] (Pure1 (aT (labOk x n))) := by
  have hX := l1In_spec x.sig 0 ((n : Int) - 1)
  have hk : labOk x n = ((decide (0 ≤ x.sig) && decide (x.sig ≤ (n : Int) - 1)) || (decide (x.sig = -1) && !x.up)) := rfl
  obtain ⟨b, hb⟩ : ∃ b, b = (decide (0 ≤ x.sig) && decide (x.sig ≤ (n : Int) - 1)) := ⟨_, rfl⟩
  rw [← hb] at hX hk
  clear hb
  refine ASpec.of Tryd.func45 rfl rfl fun C hC => ?_
  refine AC.seq ?_
  refine AC.region ?_
  refine AL.q (by exact h_boxF rfl rfl) rfl ?_
  refine AL.p (by exact as1 rfl) rfl ?_
  refine AL.nil ?_
  refine th_n ?_
  refine AC.seq ?_
  refine AC.region ?_
  refine AL.p (by exact g_fa_ref rfl rfl rfl rfl rfl rfl) rfl ?_
  refine AL.p (by exact g_load_ref rfl rfl rfl) rfl ?_
  refine AL.p (by exact mv1 rfl) rfl ?_
  refine AL.p (by exact g_arith rfl rfl rfl (by exact wrap_i64 (by omega))) rfl ?_
  refine AL.q (by exact h_pure en_l1In rfl rfl (by repeat (first | exact rfl | exact DLead.same | refine ⟨_, _, rfl, ?_, ?_⟩)) hX rfl) rfl ?_
  refine AL.p (by exact mv1 rfl) rfl ?_
  refine AL.caseGB rfl rfl (fun h0 => ?_) (fun h0 => ?_)
  · refine AL.not rfl rfl rfl rfl rfl ?_
    refine AL.not rfl rfl rfl rfl rfl ?_
    refine AL.not rfl rfl rfl rfl rfl ?_
    refine AL.not rfl rfl rfl rfl rfl ?_
    refine AL.notU rfl rfl rfl ?_
    refine AL.notU rfl rfl rfl ?_
    refine AL.notU rfl rfl rfl ?_
    refine AL.not rfl rfl rfl rfl rfl ?_
    refine AL.p (by exact g_pickT (r := .d _) rfl rfl) rfl ?_
    refine AL.p (by exact as1 rfl) rfl ?_
    refine AL.nil ?_
    refine th_n ?_
    refine AC.ret ?_
    refine bq_r ?_
    exact ret1 rfl (by rw [hk]; simp_all)
  · refine AL.yes rfl rfl rfl ?_
    refine AL.p (by exact g_fa_ref rfl rfl rfl rfl rfl rfl) rfl ?_
    refine AL.yes rfl rfl rfl ?_
    refine AL.p (by exact g_load_ref rfl rfl rfl) rfl ?_
    refine AL.yes rfl rfl rfl ?_
    refine AL.p (by exact g_cmp rfl rfl rfl) rfl ?_
    refine AL.yes rfl rfl rfl ?_
    refine AL.p (by exact mv1 rfl) rfl ?_
    refine AL.caseG rfl rfl (fun h1 => ?_) (fun h1 => ?_)
    · refine AL.yes rfl rfl rfl ?_
      refine AL.p (by exact g_fa_ref rfl rfl rfl rfl rfl rfl) rfl ?_
      refine AL.yes rfl rfl rfl ?_
      refine AL.p (by exact g_load_ref rfl rfl rfl) rfl ?_
      refine AL.yes rfl rfl rfl ?_
      refine AL.p (by exact g_not rfl) rfl ?_
      refine AL.yes rfl rfl rfl ?_
      refine AL.p (by exact g_pickT (r := .d _) rfl rfl) rfl ?_
      refine AL.p (by exact g_pickF (r := .d _) rfl rfl) rfl ?_
      refine AL.p (by exact as1 rfl) rfl ?_
      refine AL.nil ?_
      refine th_n ?_
      refine AC.ret ?_
      refine bq_r ?_
      exact ret1 rfl (by rw [hk]; simp_all)
    · refine AL.not rfl rfl rfl rfl rfl ?_
      refine AL.not rfl rfl rfl rfl rfl ?_
      refine AL.not rfl rfl rfl rfl rfl ?_
      refine AL.yes rfl rfl rfl ?_
      refine AL.p (by exact g_pickF (r := .d _) rfl rfl) rfl ?_
      refine AL.p (by exact g_pickF (r := .d _) rfl rfl) rfl ?_
      refine AL.p (by exact as1 rfl) rfl ?_
      refine AL.nil ?_
      refine th_n ?_
      refine AC.ret ?_
      refine bq_r ?_
      exact ret1 rfl (by rw [hk]; simp_all)
theorem en_l2Label : Enters Tryd.prog 45 := enters_of Tryd.func45 rfl rfl
theorem isEdge_spec (x : Lab) (n : Nat) (hn : n ≤ 1048576) : ASpec Tryd.prog 32 [labA x, aI n] [] (Pure1 (aT (labOk x n))) := by
  have hX := within_spec x.sig 0 ((n : Int) - 1)
  have hk : labOk x n = ((decide (0 ≤ x.sig) && decide (x.sig ≤ (n : Int) - 1)) || decide (x.sig = -1 ∧ x.up = false)) := by
    unfold labOk
    congr 1
    cases x.up <;> by_cases h : x.sig = -1 <;> simp [h]
  obtain ⟨b, hb⟩ : ∃ b, b = (decide (0 ≤ x.sig) && decide (x.sig ≤ (n : Int) - 1)) := ⟨_, rfl⟩
  rw [← hb] at hX hk
  clear hb
  refine ASpec.of Tryd.func32 rfl rfl fun C hC => ?_
  refine AC.seq ?_
  refine AC.region ?_
  refine AL.q (by exact h_boxF rfl rfl) rfl ?_
  refine AL.p (by exact as1 rfl) rfl ?_
  refine AL.nil ?_
  refine th_n ?_
  refine AC.seq ?_
  refine AC.region ?_
  refine AL.p (by exact g_fa_ref rfl rfl rfl rfl rfl rfl) rfl ?_
  refine AL.p (by exact g_load_ref rfl rfl rfl) rfl ?_
  refine AL.p (by exact mv1 rfl) rfl ?_
  refine AL.p (by exact g_arith rfl rfl rfl (by exact wrap_i64 (by omega))) rfl ?_
  refine AL.q (by exact h_pure en_within rfl rfl (by repeat (first | exact rfl | exact DLead.same | refine ⟨_, _, rfl, ?_, ?_⟩)) hX rfl) rfl ?_
  refine AL.p (by exact mv1 rfl) rfl ?_
  refine AL.caseGB rfl rfl (fun h0 => ?_) (fun h0 => ?_)
  · refine AL.not rfl rfl rfl rfl rfl ?_
    refine AL.not rfl rfl rfl rfl rfl ?_
    refine AL.not rfl rfl rfl rfl rfl ?_
    refine AL.p (by exact g_pickT (r := .d _) rfl rfl) rfl ?_
    refine AL.p (by exact as1 rfl) rfl ?_
    refine AL.nil ?_
    refine th_n ?_
    refine AC.ret ?_
    refine bq_r ?_
    exact ret1 rfl (by rw [hk, h0]; rfl)
  · refine AL.yes rfl rfl rfl ?_
    refine AL.p (by exact g_load_refN rfl rfl rfl rfl) rfl ?_
    refine AL.yes rfl rfl rfl ?_
    refine AL.p (by exact g_build rfl rfl rfl) rfl ?_
    refine AL.yes rfl rfl rfl ?_
    refine AL.p (by exact g_eqIB (a := x.sig) (b := x.up) (c := -1) (d := false) (by decide +kernel) rfl rfl rfl) rfl ?_
    refine AL.p (by exact g_pickF (r := .d _) rfl rfl) rfl ?_
    refine AL.p (by exact as1 rfl) rfl ?_
    refine AL.nil ?_
    refine th_n ?_
    refine AC.ret ?_
    refine bq_r ?_
    exact ret1 rfl (by rw [hk, h0]; rfl)
theorem en_isEdge : Enters Tryd.prog 32 := enters_of Tryd.func32 rfl rfl
theorem iIsValidSTG1_spec (x : Lab) (s : Stg) (hs : s.sigs.length ≤ 1048576) : ASpec Tryd.prog 31 [labA x, .d (.ref (stgD s))] [] (Pure1 (aT (!labOk x s.sigs.length))) := by
  have hE := isEdge_spec x s.sigs.length hs
  refine ASpec.of Tryd.func31 rfl rfl fun C hC => ?_
  refine AC.seq ?_
  refine AC.region ?_
  refine AL.q (by exact h_boxF rfl rfl) rfl ?_
  refine AL.p (by exact as1 rfl) rfl ?_
  refine AL.nil ?_
  refine th_n ?_
  refine AC.seq ?_
  refine AC.region ?_
  refine AL.p (by exact g_load_refN rfl rfl rfl rfl) rfl ?_
  refine AL.p (by exact g_fa_ref rfl rfl rfl rfl rfl rfl) rfl ?_
  refine AL.p (by exact g_load_ref rfl rfl rfl) rfl ?_
  refine AL.p (by exact g_len_view rfl rfl (by exact List.length_map _)) rfl ?_
  refine AL.q (by exact h_pure en_isEdge rfl rfl (by repeat (first | exact rfl | exact DLead.same | refine ⟨_, _, rfl, ?_, ?_⟩ | refine ⟨_, rfl, ?_⟩)) hE rfl) rfl ?_
  refine AL.p (by exact g_not rfl) rfl ?_
  refine AL.p (by exact as1 rfl) rfl ?_
  refine AL.nil ?_
  refine th_n ?_
  refine AC.ret ?_
  refine bq_r ?_
  exact ret1 rfl rfl
theorem en_iIsValidSTG1 : Enters Tryd.prog 31 := enters_of Tryd.func31 rfl rfl
theorem all_not_any {α : Type} (p : α → Bool) (l : List α) : l.all p = !l.any (fun x => !p x) := by
  induction l with
  | nil => rfl
  | cons x l ih => simp only [List.all_cons, List.any_cons, ih]; cases p x <;> simp
set_option maxHeartbeats 2000000 in
theorem iIsValidSTG_spec (s : Stg) (h : StgL s) : ASpec Tryd.prog 8 [stgA s] [] (Pure1 (aT (goodS s))) := by
  have hM := IsValidMarking_gen s.net s.start h.n h.st
  have hS := areSignals_spec s.sigs h.sg h.sn
  have hCt := containsLabF_spec s.labs (by have := h.l; omega) 31 [.ref (stgD s)] en_iIsValidSTG1 (fun x => !labOk x s.sigs.length) (fun t _ => iIsValidSTG1_spec t s h.sg)
  have hg : goodS s = ((goodN s.net && bitsB s.start s.net.places) && (sigsB s.sigs && (decide ((s.labs.length : Int) = s.net.ts.length) && !s.labs.any (fun x => !labOk x s.sigs.length)))) := by unfold goodS; rw [all_not_any]
  have hll := h.l
  have htl := h.n.l
  obtain ⟨b1, hb1⟩ : ∃ b, b = (goodN s.net && bitsB s.start s.net.places) := ⟨_, rfl⟩
  obtain ⟨b2, hb2⟩ : ∃ b, b = sigsB s.sigs := ⟨_, rfl⟩
  obtain ⟨b3, hb3⟩ : ∃ b, b = s.labs.any (fun x => !labOk x s.sigs.length) := ⟨_, rfl⟩
  rw [← hb1] at hM hg
  rw [← hb2] at hS hg
  rw [← hb3] at hCt hg
  clear hb1 hb2 hb3
  refine ASpec.of Tryd.func8 rfl rfl fun C hC => ?_
  refine AC.seq ?_
  refine AC.region ?_
  refine AL.q (by exact h_boxF rfl rfl) rfl ?_
  refine AL.p (by exact as1 rfl) rfl ?_
  refine AL.nil ?_
  refine th_n ?_
  refine AC.seq ?_
  refine AC.region ?_
  refine AL.p (by exact g_fa_ref rfl rfl rfl rfl rfl rfl) rfl ?_
  refine AL.p (by exact g_load_refN rfl rfl rfl rfl) rfl ?_
  refine AL.p (by exact g_fa_ref rfl rfl rfl rfl rfl rfl) rfl ?_
  refine AL.p (by exact g_load_ref rfl rfl rfl) rfl ?_
  refine AL.q (by exact h_pure en_IsValidMarking rfl rfl (by repeat (first | exact rfl | exact DLead.same | refine ⟨_, _, rfl, ?_, ?_⟩ | refine ⟨_, rfl, ?_⟩)) hM rfl) rfl ?_
  refine AL.p (by exact mv1 rfl) rfl ?_
  refine AL.caseGB rfl rfl (fun h0 => ?_) (fun h0 => ?_)
  · refine AL.yes rfl rfl rfl ?_
    refine AL.p (by exact g_fa_ref rfl rfl rfl rfl rfl rfl) rfl ?_
    refine AL.yes rfl rfl rfl ?_
    refine AL.p (by exact g_load_ref rfl rfl rfl) rfl ?_
    refine AL.yes rfl rfl rfl ?_
    refine AL.q (by exact h_pure en_areSignals rfl rfl (by repeat (first | exact rfl | exact DLead.same | refine ⟨_, _, rfl, ?_, ?_⟩)) hS rfl) rfl ?_
    refine AL.p (by exact g_pickT (r := .d _) rfl rfl) rfl ?_
    refine AL.p (by exact mv1 rfl) rfl ?_
    refine AL.caseGB rfl rfl (fun h1 => ?_) (fun h1 => ?_)
    · refine AL.yes rfl rfl rfl ?_
      refine AL.p (by exact g_fa_ref rfl rfl rfl rfl rfl rfl) rfl ?_
      refine AL.yes rfl rfl rfl ?_
      refine AL.p (by exact g_load_ref rfl rfl rfl) rfl ?_
      refine AL.yes rfl rfl rfl ?_
      refine AL.p (by exact g_len_view rfl rfl (by exact List.length_map _)) rfl ?_
      refine AL.yes rfl rfl rfl ?_
      refine AL.p (by exact g_fa_ref rfl rfl rfl rfl rfl rfl) rfl ?_
      refine AL.yes rfl rfl rfl ?_
      refine AL.p (by exact g_fa_ref rfl rfl rfl rfl rfl rfl) rfl ?_
      refine AL.yes rfl rfl rfl ?_
      refine AL.p (by exact g_load_ref rfl rfl rfl) rfl ?_
      refine AL.yes rfl rfl rfl ?_
      refine AL.p (by exact g_len_view rfl rfl (by exact List.length_map _)) rfl ?_
      refine AL.yes rfl rfl rfl ?_
      refine AL.p (by exact g_cmp rfl rfl rfl) rfl ?_
      refine AL.p (by exact g_pickT (r := .d _) rfl rfl) rfl ?_
      refine AL.p (by exact mv1 rfl) rfl ?_
      refine AL.caseG rfl rfl (fun h2 => ?_) (fun h2 => ?_)
      · refine AL.yes rfl rfl rfl ?_
        refine AL.p (by exact g_fa_ref rfl rfl rfl rfl rfl rfl) rfl ?_
        refine AL.yes rfl rfl rfl ?_
        refine AL.p (by exact g_load_ref rfl rfl rfl) rfl ?_
        refine AL.yes rfl rfl rfl ?_
        refine AL.p (by exact g_fn rfl) rfl ?_
        refine AL.yes rfl rfl rfl ?_
        refine AL.q (by exact h_pure en_containsLabF rfl rfl (by exact ⟨_, _, rfl, .same, _, _, rfl, ⟨_, rfl, leadsL_data _ _⟩, rfl⟩) hCt rfl) rfl ?_
        refine AL.yes rfl rfl rfl ?_
        refine AL.p (by exact g_not rfl) rfl ?_
        refine AL.p (by exact g_pickT (r := .d _) rfl rfl) rfl ?_
        refine AL.p (by exact as1 rfl) rfl ?_
        refine AL.nil ?_
        refine th_n ?_
        refine AC.ret ?_
        refine bq_r ?_
        exact ret1 rfl (by clear hM hS hCt; rw [hg]; simp_all)
      · refine AL.not rfl rfl rfl rfl rfl ?_
        refine AL.not rfl rfl rfl rfl rfl ?_
        refine AL.not rfl rfl rfl rfl rfl ?_
        refine AL.not rfl rfl rfl rfl rfl ?_
        refine AL.not rfl rfl rfl rfl rfl ?_
        refine AL.p (by exact g_pickF (r := .d _) rfl rfl) rfl ?_
        refine AL.p (by exact as1 rfl) rfl ?_
        refine AL.nil ?_
        refine th_n ?_
        refine AC.ret ?_
        refine bq_r ?_
        exact ret1 rfl (by clear hM hS hCt; rw [hg]; simp_all)
    · refine AL.not rfl rfl rfl rfl rfl ?_
      refine AL.not rfl rfl rfl rfl rfl ?_
      refine AL.not rfl rfl rfl rfl rfl ?_
      refine AL.not rfl rfl rfl rfl rfl ?_
      refine AL.not rfl rfl rfl rfl rfl ?_
      refine AL.not rfl rfl rfl rfl rfl ?_
      refine AL.not rfl rfl rfl rfl rfl ?_
      refine AL.not rfl rfl rfl rfl rfl ?_
      refine AL.p (by exact g_pickF (r := .d _) rfl rfl) rfl ?_
      refine AL.p (by exact mv1 rfl) rfl ?_
      refine AL.not rfl rfl rfl rfl rfl ?_
      refine AL.not rfl rfl rfl rfl rfl ?_
      refine AL.not rfl rfl rfl rfl rfl ?_
      refine AL.not rfl rfl rfl rfl rfl ?_
      refine AL.not rfl rfl rfl rfl rfl ?_
      refine AL.p (by exact g_pickF (r := .d _) rfl rfl) rfl ?_
      refine AL.p (by exact as1 rfl) rfl ?_
      refine AL.nil ?_
      refine th_n ?_
      refine AC.ret ?_
      refine bq_r ?_
      exact ret1 rfl (by clear hM hS hCt; rw [hg]; simp_all)
  · refine AL.not rfl rfl rfl rfl rfl ?_
    refine AL.not rfl rfl rfl rfl rfl ?_
    refine AL.not rfl rfl rfl rfl rfl ?_
    refine AL.p (by exact g_pickF (r := .d _) rfl rfl) rfl ?_
    refine AL.p (by exact mv1 rfl) rfl ?_
    refine AL.not rfl rfl rfl rfl rfl ?_
    refine AL.not rfl rfl rfl rfl rfl ?_
    refine AL.not rfl rfl rfl rfl rfl ?_
    refine AL.not rfl rfl rfl rfl rfl ?_
    refine AL.not rfl rfl rfl rfl rfl ?_
    refine AL.not rfl rfl rfl rfl rfl ?_
    refine AL.not rfl rfl rfl rfl rfl ?_
    refine AL.not rfl rfl rfl rfl rfl ?_
    refine AL.p (by exact g_pickF (r := .d _) rfl rfl) rfl ?_
    refine AL.p (by exact mv1 rfl) rfl ?_
    refine AL.not rfl rfl rfl rfl rfl ?_
    refine AL.not rfl rfl rfl rfl rfl ?_
    refine AL.not rfl rfl rfl rfl rfl ?_
    refine AL.not rfl rfl rfl rfl rfl ?_
    refine AL.not rfl rfl rfl rfl rfl ?_
    refine AL.p (by exact g_pickF (r := .d _) rfl rfl) rfl ?_
    refine AL.p (by exact as1 rfl) rfl ?_
    refine AL.nil ?_
    refine th_n ?_
    refine AC.ret ?_
    refine bq_r ?_
    exact ret1 rfl (by clear hM hS hCt; rw [hg]; simp_all)
theorem en_iIsValidSTG : Enters Tryd.prog 8 := enters_of Tryd.func8 rfl rfl
set_option maxHeartbeats 2000000 in
theorem l2Good_spec (s : Stg) (h : StgL s) : ASpec Tryd.prog 25 [stgA s] [] (Pure1 (aT (goodS s))) := by
  have hM := l1Mark_spec s.net s.start h.st
  have hN := l1Good_gen s.net h.n
  have hS := l2Signals_spec s.sigs h.sg h.sn
  have hll := h.l
  have htl := h.n.l
  have hg : goodS s = ((goodN s.net && bitsB s.start s.net.places) && (sigsB s.sigs && (decide ((s.labs.length : Int) = s.net.ts.length) && s.labs.all (fun x => labOk x s.sigs.length)))) := rfl
  obtain ⟨b1, hb1⟩ : ∃ b, b = goodN s.net := ⟨_, rfl⟩
  obtain ⟨b2, hb2⟩ : ∃ b, b = sigsB s.sigs := ⟨_, rfl⟩
  obtain ⟨b3, hb3⟩ : ∃ b, b = bitsB s.start s.net.places := ⟨_, rfl⟩
  rw [← hb1] at hN hg
  rw [← hb2] at hS hg
  rw [← hb3] at hM hg
  clear hb1 hb2 hb3
  refine ASpec.of Tryd.func25 rfl rfl fun C hC => ?_
  refine AC.seq ?_
  refine AC.region ?_
  refine AL.q (by exact h_boxF rfl rfl) rfl ?_
  refine AL.p (by exact as1 rfl) rfl ?_
  refine AL.nil ?_
  refine th_n ?_
  refine AC.seq ?_
  refine AC.seq ?_
  refine AC.region ?_
  refine AL.p (by exact g_fa_ref rfl rfl rfl rfl rfl rfl) rfl ?_
  refine AL.p (by exact g_load_ref rfl rfl rfl) rfl ?_
  refine AL.p (by exact g_len_view rfl rfl (by exact List.length_map _)) rfl ?_
  refine AL.p (by exact mv1 rfl) rfl ?_
  refine AL.nil ?_
  refine th_n ?_
  refine AC.block ?_
  refine AC.loop (ι := Nat) (fun k => ⟨44, 0, [(1, .d (.ref (stgD s))), (6, .d (vLabs s.labs)), (7, aI s.labs.length), (8, aI k)], []⟩) (fun k => k ≤ s.labs.length ∧ ∀ j (hj : j < s.labs.length), j < k → labOk s.labs[j] s.sigs.length = true) (fun k => s.labs.length - k) (0) ?_ (⟨Nat.zero_le _, fun j _ hj => by omega⟩) ?_
  · refine Weak.ren _ [] hC rfl ?_ ?_ rfl rfl rfl <;> repeat (first | exact True.intro | refine And.intro ?_ ?_ | exact DLead.same)
  · intro k ⟨hk, hall⟩
    refine AC.seq ?_
    refine AC.region ?_
    refine AL.p (by exact g_cmp rfl rfl rfl) rfl ?_
    refine AL.nil ?_
    refine th_n ?_
    refine AC.seq ?_
    refine AC.condD rfl (fun h0 => ?_) (fun h0 => ?_)
    · refine AC.skip ?_
      refine th_n ?_
      refine AC.seq ?_
      refine AC.block ?_
      refine AC.seq ?_
      have hk1 : k < s.labs.length := by omega
      have hget := labsL_get hk1
      have hL := l2Label_spec s.labs[k] s.sigs.length h.sg
      obtain ⟨c, hc⟩ : ∃ c, c = labOk s.labs[k] s.sigs.length := ⟨_, rfl⟩
      rw [← hc] at hL
      refine AC.region ?_
      refine AL.p (by exact g_ia_view rfl rfl rfl rfl rfl (by rfl) (by assumption)) rfl ?_
      refine AL.p (by exact g_load_refN rfl rfl rfl rfl) rfl ?_
      refine AL.q (by exact h_alloc rfl) rfl ?_
      refine AL.q (by exact h_store rfl rfl rfl rfl rfl rfl) rfl ?_
      refine AL.nil ?_
      refine th_n ?_
      refine AC.seq ?_
      refine AC.weak (Weak.freezeRef (ds := labD s.labs[k]) 4 rfl rfl) ?_
      refine AC.region ?_
      refine AL.p (by exact g_load_refN rfl rfl rfl rfl) rfl ?_
      refine AL.p (by exact g_fa_ref rfl rfl rfl rfl rfl rfl) rfl ?_
      refine AL.p (by exact g_load_ref rfl rfl rfl) rfl ?_
      refine AL.p (by exact g_len_view rfl rfl (by exact List.length_map _)) rfl ?_
      refine AL.q (by exact h_pure en_l2Label rfl rfl (by repeat (first | exact rfl | exact DLead.same | refine ⟨_, _, rfl, ?_, ?_⟩ | refine ⟨_, rfl, ?_⟩)) hL rfl) rfl ?_
      refine AL.p (by exact g_not rfl) rfl ?_
      refine AL.nil ?_
      refine th_n ?_
      refine AC.condB rfl (fun h1 => ?_) (fun h1 => ?_)
      · refine AC.seq ?_
        refine AC.region ?_
        refine AL.p (by exact as1 rfl) rfl ?_
        refine AL.nil ?_
        refine th_n ?_
        refine AC.ret ?_
        refine ib_r ?_
        refine th_r ?_
        refine th_r ?_
        refine ib_r ?_
        refine th_r ?_
        refine bq_r ?_
        have hbad : s.labs.all (fun x => labOk x s.sigs.length) = false := List.all_eq_false.2 ⟨_, List.getElem_mem hk1, by rw [← hc]; simpa using h1⟩
        exact ret1 rfl (by rw [hg, hbad]; simp)
      · refine AC.skip ?_
        refine ib_n ?_
        refine th_n ?_
        refine AC.region ?_
        refine AL.p (by exact g_arith rfl rfl rfl (by exact wrap_i64 (by omega))) rfl ?_
        refine AL.p (by exact mv1 rfl) rfl ?_
        refine AL.nil ?_
        refine th_n ?_
        exact ⟨k + 1, ⟨by omega, fun j hj hj2 => by rcases Nat.lt_succ_iff_lt_or_eq.1 hj2 with h | rfl; exact hall j hj h; exact hc.symm.trans (by simpa using h1)⟩, by omega, Weak.ren _ [] hC rfl (by repeat (first | exact True.intro | refine And.intro ?_ ?_ | exact DLead.same)) (by repeat (exact True.intro)) rfl rfl rfl⟩
    · refine AC.exit ?_
      refine th_e ?_
      refine th_e ?_
      refine ib_y ?_
      refine th_n ?_
      refine AC.seq ?_
      have hA : s.labs.all (fun x => labOk x s.sigs.length) = true := List.all_eq_true.2 (fun x hx => by obtain ⟨j, hj, rfl⟩ := List.getElem_of_mem hx; exact hall j hj (by omega))
      rw [hA, Bool.and_true] at hg
      refine AC.region ?_
      refine AL.p (by exact g_fa_ref rfl rfl rfl rfl rfl rfl) rfl ?_
      refine AL.p (by exact g_load_refN rfl rfl rfl rfl) rfl ?_
      refine AL.q (by exact h_pure en_l1Good rfl rfl (by repeat (first | exact rfl | exact DLead.same | refine ⟨_, _, rfl, ?_, ?_⟩ | refine ⟨_, rfl, ?_⟩)) hN rfl) rfl ?_
      refine AL.p (by exact mv1 rfl) rfl ?_
      refine AL.caseGB rfl rfl (fun h1 => ?_) (fun h1 => ?_)
      · refine AL.yes rfl rfl rfl ?_
        refine AL.p (by exact g_fa_ref rfl rfl rfl rfl rfl rfl) rfl ?_
        refine AL.yes rfl rfl rfl ?_
        refine AL.p (by exact g_load_ref rfl rfl rfl) rfl ?_
        refine AL.yes rfl rfl rfl ?_
        refine AL.q (by exact h_pure en_l2Signals rfl rfl (by repeat (first | exact rfl | exact DLead.same | refine ⟨_, _, rfl, ?_, ?_⟩)) hS rfl) rfl ?_
        refine AL.p (by exact g_pickT (r := .d _) rfl rfl) rfl ?_
        refine AL.p (by exact mv1 rfl) rfl ?_
        refine AL.caseGB rfl rfl (fun h2 => ?_) (fun h2 => ?_)
        · refine AL.yes rfl rfl rfl ?_
          refine AL.p (by exact g_fa_ref rfl rfl rfl rfl rfl rfl) rfl ?_
          refine AL.yes rfl rfl rfl ?_
          refine AL.p (by exact g_load_ref rfl rfl rfl) rfl ?_
          refine AL.yes rfl rfl rfl ?_
          refine AL.p (by exact g_len_view rfl rfl (by exact List.length_map _)) rfl ?_
          refine AL.yes rfl rfl rfl ?_
          refine AL.p (by exact g_fa_ref rfl rfl rfl rfl rfl rfl) rfl ?_
          refine AL.yes rfl rfl rfl ?_
          refine AL.p (by exact g_fa_ref rfl rfl rfl rfl rfl rfl) rfl ?_
          refine AL.yes rfl rfl rfl ?_
          refine AL.p (by exact g_load_ref rfl rfl rfl) rfl ?_
          refine AL.yes rfl rfl rfl ?_
          refine AL.p (by exact g_len_view rfl rfl (by exact List.length_map _)) rfl ?_
          refine AL.yes rfl rfl rfl ?_
          refine AL.p (by exact g_cmp rfl rfl rfl) rfl ?_
          refine AL.p (by exact g_pickT (r := .d _) rfl rfl) rfl ?_
          refine AL.p (by exact mv1 rfl) rfl ?_
          refine AL.caseG rfl rfl (fun h3 => ?_) (fun h3 => ?_)
          · refine AL.yes rfl rfl rfl ?_
            refine AL.p (by exact g_fa_ref rfl rfl rfl rfl rfl rfl) rfl ?_
            refine AL.yes rfl rfl rfl ?_
            refine AL.p (by exact g_load_refN rfl rfl rfl rfl) rfl ?_
            refine AL.yes rfl rfl rfl ?_
            refine AL.p (by exact g_fa_ref rfl rfl rfl rfl rfl rfl) rfl ?_
            refine AL.yes rfl rfl rfl ?_
            refine AL.p (by exact g_load_ref rfl rfl rfl) rfl ?_
            refine AL.yes rfl rfl rfl ?_
            refine AL.q (by exact h_pure en_l1Mark rfl rfl (by repeat (first | exact rfl | exact DLead.same | refine ⟨_, _, rfl, ?_, ?_⟩ | refine ⟨_, rfl, ?_⟩)) hM rfl) rfl ?_
            refine AL.p (by exact g_pickT (r := .d _) rfl rfl) rfl ?_
            refine AL.p (by exact as1 rfl) rfl ?_
            refine AL.nil ?_
            refine th_n ?_
            refine AC.ret ?_
            refine bq_r ?_
            exact ret1 rfl (by clear hM hN hS hall; rw [hg]; simp_all)
          · refine AL.not rfl rfl rfl rfl rfl ?_
            refine AL.not rfl rfl rfl rfl rfl ?_
            refine AL.not rfl rfl rfl rfl rfl ?_
            refine AL.not rfl rfl rfl rfl rfl ?_
            refine AL.not rfl rfl rfl rfl rfl ?_
            refine AL.p (by exact g_pickF (r := .d _) rfl rfl) rfl ?_
            refine AL.p (by exact as1 rfl) rfl ?_
            refine AL.nil ?_
            refine th_n ?_
            refine AC.ret ?_
            refine bq_r ?_
            exact ret1 rfl (by clear hM hN hS hall; rw [hg]; simp_all)
        · refine AL.not rfl rfl rfl rfl rfl ?_
          refine AL.not rfl rfl rfl rfl rfl ?_
          refine AL.not rfl rfl rfl rfl rfl ?_
          refine AL.not rfl rfl rfl rfl rfl ?_
          refine AL.not rfl rfl rfl rfl rfl ?_
          refine AL.not rfl rfl rfl rfl rfl ?_
          refine AL.not rfl rfl rfl rfl rfl ?_
          refine AL.not rfl rfl rfl rfl rfl ?_
          refine AL.p (by exact g_pickF (r := .d _) rfl rfl) rfl ?_
          refine AL.p (by exact mv1 rfl) rfl ?_
          refine AL.not rfl rfl rfl rfl rfl ?_
          refine AL.not rfl rfl rfl rfl rfl ?_
          refine AL.not rfl rfl rfl rfl rfl ?_
          refine AL.not rfl rfl rfl rfl rfl ?_
          refine AL.not rfl rfl rfl rfl rfl ?_
          refine AL.p (by exact g_pickF (r := .d _) rfl rfl) rfl ?_
          refine AL.p (by exact as1 rfl) rfl ?_
          refine AL.nil ?_
          refine th_n ?_
          refine AC.ret ?_
          refine bq_r ?_
          exact ret1 rfl (by clear hM hN hS hall; rw [hg]; simp_all)
      · refine AL.not rfl rfl rfl rfl rfl ?_
        refine AL.not rfl rfl rfl rfl rfl ?_
        refine AL.not rfl rfl rfl rfl rfl ?_
        refine AL.p (by exact g_pickF (r := .d _) rfl rfl) rfl ?_
        refine AL.p (by exact mv1 rfl) rfl ?_
        refine AL.not rfl rfl rfl rfl rfl ?_
        refine AL.not rfl rfl rfl rfl rfl ?_
        refine AL.not rfl rfl rfl rfl rfl ?_
        refine AL.not rfl rfl rfl rfl rfl ?_
        refine AL.not rfl rfl rfl rfl rfl ?_
        refine AL.not rfl rfl rfl rfl rfl ?_
        refine AL.not rfl rfl rfl rfl rfl ?_
        refine AL.not rfl rfl rfl rfl rfl ?_
        refine AL.p (by exact g_pickF (r := .d _) rfl rfl) rfl ?_
        refine AL.p (by exact mv1 rfl) rfl ?_
        refine AL.not rfl rfl rfl rfl rfl ?_
        refine AL.not rfl rfl rfl rfl rfl ?_
        refine AL.not rfl rfl rfl rfl rfl ?_
        refine AL.not rfl rfl rfl rfl rfl ?_
        refine AL.not rfl rfl rfl rfl rfl ?_
        refine AL.p (by exact g_pickF (r := .d _) rfl rfl) rfl ?_
        refine AL.p (by exact as1 rfl) rfl ?_
        refine AL.nil ?_
        refine th_n ?_
        refine AC.ret ?_
        refine bq_r ?_
        exact ret1 rfl (by clear hM hN hS hall; rw [hg]; simp_all)
theorem en_l2Good : Enters Tryd.prog 25 := enters_of Tryd.func25 rfl rfl
theorem sIsValidSTG_spec (s : Stg) (h : StgL s) : ASpec Tryd.prog 9 [stgA s] [] (Pure1 (aT (goodS s))) := by
  have hG := l2Good_spec s h
  refine ASpec.of Tryd.func9 rfl rfl fun C hC => ?_
  refine AC.seq ?_
  refine AC.region ?_
  refine AL.q (by exact h_boxF rfl rfl) rfl ?_
  refine AL.p (by exact as1 rfl) rfl ?_
  refine AL.nil ?_
  refine th_n ?_
  refine AC.seq ?_
  refine AC.region ?_
  refine AL.p (by exact g_load_refN rfl rfl rfl rfl) rfl ?_
  refine AL.q (by exact h_pure en_l2Good rfl rfl (by repeat (first | exact rfl | exact DLead.same | refine ⟨_, _, rfl, ?_, ?_⟩ | refine ⟨_, rfl, ?_⟩)) hG rfl) rfl ?_
  refine AL.p (by exact as1 rfl) rfl ?_
  refine AL.nil ?_
  refine th_n ?_
  refine AC.ret ?_
  refine bq_r ?_
  exact ret1 rfl rfl
theorem en_sIsValidSTG : Enters Tryd.prog 9 := enters_of Tryd.func9 rfl rfl
end Go.Proofs.YtnklhbfdfddigaaDoor

set_option linter.all false
set_option maxRecDepth 20000
namespace Go.Proofs.YtnklhbfdfddigaaDoor
open Go.RowKit

section
variable {P : Program} [PT P]
variable {s : ASt} {dst : Option Nat} {ty : Nat} {pos : String} {af : Array Edge} {gd : Option (Nat × Bool)} {x y : Operand} {t : Nat}
theorem g_saddB {a b : List UInt8} {xt yt : Nat} (hx : s.ev x = aS (bstr a)) (hy : s.ev y = aS (bstr b)) (hl : a.length + b.length ≤ 4611686018427387904) : GOp P [] s ⟨dst, .binOp .add xt x y yt, ty, pos, af, gd⟩ (aS (bstr (a ++ b))) := by
  rw [← bstr_append]
  exact g_sadd hx hy (by rw [bstr_size, bstr_size]; omega)
end
/-- A library function of one number that gives a text. -/
theorem ASpec.ofNum {P : Program} {g : FuncId} {n : Int} {b : ByteArray} (hb : b.size ≤ 1000) (h : ∀ w, Calls P g #[.int .i64 n] w fun e w' => e = .returned (.string b) ∧ w' = w) : ASpec P g [aI n] [] (Pure1 (aS b)) := by
  intro w m Fin vs hfin hn ha hch hinj hm
  have h0 := ha 0 _ rfl
  have hv : vs = #[.int .i64 n] := by
    apply Array.ext
    · rw [hn]; rfl
    · intro i hi1 hi2
      match i with
      | 0 => have := h0.val_eq.1; rw [Array.getD_eq_getD_getElem?, Array.getElem?_eq_getElem hi1] at this; simpa using this
      | i + 1 => simp at hi2
  subst hv
  refine (h w).mono ?_
  rintro e w' ⟨rfl, rfl⟩
  refine ⟨_, _, [], m, Fin, rfl, ⟨rfl, rfl⟩, fun _ _ _ h => h, fun id hid => hm id (by simp only [List.length_nil] at hid ⊢; omega), fun k => ?_, ⟨rfl, rfl, rfl, Nat.le_refl _, fun _ _ _ => rfl⟩, .d (.val (by show b.size ≤ maxLen; simp only [maxLen]; omega)), fun id c hc => by simp [getL] at hc, fun id id' c c' p p' b hc => by simp [getL] at hc⟩
  constructor
  · intro hk
    exact ⟨.inl hk, (hfin k hk).1, fun id c p hc => by simp [getL] at hc⟩
  · rintro ⟨h | ⟨id, c, p, hc, _⟩ | h, hlt, _⟩
    · exact h
    · simp [getL] at hc
    · omega
end Go.Proofs.YtnklhbfdfddigaaDoor

set_option linter.all false
set_option maxRecDepth 20000
namespace Go.Proofs.YtnklhbfdfddigaaDoor
open Go.RowKit

section
variable {P : Program} [PT P] {C : Ctx} {s : ASt}
/-- d reads wherever c reads. -/
def DTo (c d : DV) : Prop := ∀ (F : Nat → Prop) (w : World) (v : Value), DRep F w c v → DRep F w d v
theorem DTo.refl (d : DV) : DTo d d := fun _ _ _ h => h
theorem DTo.nil {e sz : Nat} : DTo (.val (.slice none 0 0)) (.view e sz []) := fun F w v h => by
  cases h
  exact .nil
theorem Weak.arrTo (id : Nat) {e sz : Nat} {els els' : List (List DV)} (h0 : s.chunk id = some (.arr e sz els)) (hl : els'.length = els.length) (h : ∀ (i : Nat) (cs' : List DV), els'[i]? = some cs' → ∃ cs, els[i]? = some cs ∧ cs'.length = cs.length ∧ ∀ (j : Nat) (d' : DV), cs'[j]? = some d' → ∃ d, cs[j]? = some d ∧ DTo d d') :
    Weak C s { n := s.n, nx := s.nx, sl := s.sl, ch := (id, some (.arr e sz els')) :: s.ch } := by
  refine ⟨?_⟩
  rintro a w ⟨m, hR⟩
  obtain ⟨p1, q1, c1, l1⟩ := hR.ch id _ h0
  have hc : ∀ (m' : Nat → Option (Option Nat × Nat)) F', (∀ k, Fz C m s w k → F' k) → CRep m' F' w p1 (.arr e sz els') := by
    intro m' F' hF
    cases c1 with
    | arr g1 g2 g3 g4 g5 g6 g7 g8 =>
      refine .arr g1 g2 g3 (by omega) g5 g6 (fun i cs' hi => ?_) (fun i cs' j d' hi hj => ?_)
      · obtain ⟨cs, k1, k2, _⟩ := h i cs' hi
        rw [k2]; exact g7 i cs k1
      · obtain ⟨cs, k1, k2, k3⟩ := h i cs' hi
        obtain ⟨d, k4, k5⟩ := k3 j d' hj
        exact k5 _ _ _ ((g8 i cs j d k1 k4).turn (fun k hk _ => ⟨hF k hk, rfl⟩))
    | nil g =>
      obtain rfl : els' = [] := List.length_eq_zero_iff.1 (by simpa using hl)
      exact .nil g
  refine ⟨_, hR.repack (U' := fun i => s.nx ≤ i) [(id, .arr e sz els')] (fun _ => p1) [id] rfl (fun i c h => ?_) (fun i c h => .inr ?_) (fun i hi => ⟨hi, ?_⟩) (fun i c b h hb => ?_) (fun i i' c c' b h h' _ _ => ?_) (fun F' hF i c h => ?_) (fun hle F' hF i => (hR.sl i).turn hle (fun k hk _ => ⟨hF k hk, rfl⟩))⟩
  · change (getL i (_ :: _)).getD none = _ at h
    rw [getL_cons] at h
    rw [getL_cons]
    split at h
    · rename_i ei; rw [if_pos ei]; exact .inl (by simpa using h)
    · rename_i ei
      rw [if_neg ei]
      exact .inr ⟨rfl, by simpa using ei, h⟩
  · obtain ⟨rfl, _⟩ := getL_one h; exact q1
  · rw [getL_cons]
    split
    · rename_i ei; subst ei; have := hR.un i hi; rw [q1] at this; cases this
    · rfl
  · obtain ⟨rfl, rfl⟩ := getL_one h
    exact ⟨_, _, _, by simp, h0, q1, .inl hb.one_arr⟩
  · rw [(getL_one h).1, (getL_one h').1]
  · obtain ⟨rfl, rfl⟩ := getL_one h
    exact hc _ F' hF
end
end Go.Proofs.YtnklhbfdfddigaaDoor

set_option linter.all false
set_option maxRecDepth 20000
namespace Go.Proofs.YtnklhbfdfddigaaDoor
open Go.RowKit

abbrev sxL (l : List (List UInt8)) : List (List DV) := l.map (fun s => [dS (bstr s)])
abbrev vSx (l : List (List UInt8)) : DV := .view 9 1 (sxL l)
theorem sxL_len (l : List (List UInt8)) : (sxL l).length = l.length := List.length_map _
theorem sxL_get {l : List (List UInt8)} {k : Nat} (h : k < l.length) : (sxL l)[k]? = some [dS (bstr l[k])] := by rw [List.getElem?_map, List.getElem?_eq_getElem h]; rfl
theorem h_appendSx (acc new : List (List UInt8)) {s : ASt} {dst : Option Nat} {ty : Nat} {pos : String} {af : Array Edge} {gd : Option (Nat × Bool)} {x y : Operand} {f : Nat} {ids ids2 : List Nat} {gone : List (Nat × Option Chunk)}
    (hto : AppTo s x 9 1 (sxL acc) ids gone) (harg : AppArg s y 1 (sxL new) ids2) (h : (acc ++ new).length ≤ 100000000) (hnew : gone = [] → 0 < new.length) :
    NOp Tryd.prog (ids ++ ids2) s ⟨dst, .call { callee := .builtin .append, args := #[x, y], argTypes := #[64, 64] }, ty, pos, af, gd⟩ f ⟨.own f (acc ++ new).length, (f, some (.arr 9 1 (sxL (acc ++ new)))) :: gone⟩ := by
  have := h_append (P := Tryd.prog) (s := s) (dst := dst) (ty := ty) (pos := pos) (af := af) (gd := gd) (x := x) (y := y) (f := f) (t := 64) (tx := 64) (k := (acc ++ new).length) rfl rfl rfl rfl rfl rfl hto harg (by simp) (by omega) (by show (acc ++ new).length * 16 ≤ _; omega) (fun h => by rw [sxL_len]; exact hnew h)
  rwa [← List.map_append] at this
theorem h_appendLx (acc new : List Lab) {s : ASt} {dst : Option Nat} {ty : Nat} {pos : String} {af : Array Edge} {gd : Option (Nat × Bool)} {x y : Operand} {f : Nat} {ids ids2 : List Nat} {gone : List (Nat × Option Chunk)}
    (hto : AppTo s x 39 2 (labsL acc) ids gone) (harg : AppArg s y 2 (labsL new) ids2) (h : (acc ++ new).length ≤ 100000000) (hnew : gone = [] → 0 < new.length) :
    NOp Tryd.prog (ids ++ ids2) s ⟨dst, .call { callee := .builtin .append, args := #[x, y], argTypes := #[28, 28] }, ty, pos, af, gd⟩ f ⟨.own f (acc ++ new).length, (f, some (.arr 39 2 (labsL (acc ++ new)))) :: gone⟩ := by
  have := h_append (P := Tryd.prog) (s := s) (dst := dst) (ty := ty) (pos := pos) (af := af) (gd := gd) (x := x) (y := y) (f := f) (t := 28) (tx := 28) (k := (acc ++ new).length) rfl rfl rfl rfl rfl rfl hto harg (by simp) (by omega) (by show (acc ++ new).length * 16 ≤ _; omega) (fun h => by rw [labsL_len]; exact hnew h)
  rwa [← List.map_append] at this
theorem ownl {α : Type} (l : List α) (f : α → List DV) : l.length ≤ (l.map f).length := Nat.le_of_eq (List.length_map _).symm
theorem ownt {α : Type} (l : List α) (f : α → List DV) : (l.map f).take l.length = l.map f := List.take_of_length_le (Nat.le_of_eq (List.length_map _))
/-- Cutting a text at a byte: what stands before each, from k on; begun at f. -/
def splitK (s : List UInt8) (b : UInt8) : Nat → List (List UInt8) × Nat
  | 0 => ([], 0)
  | k + 1 => if s.getD k 0 = b then ((splitK s b k).1 ++ [(s.take k).drop (splitK s b k).2], k + 1) else splitK s b k
def splitL (s : List UInt8) (b : UInt8) : List (List UInt8) := (splitK s b s.length).1 ++ [s.drop (splitK s b s.length).2]
theorem splitK_in (s : List UInt8) (b : UInt8) : ∀ k, (splitK s b k).2 ≤ k ∧ (splitK s b k).1.length ≤ k
  | 0 => ⟨Nat.le_refl _, Nat.le_refl _⟩
  | k + 1 => by
    have := splitK_in s b k
    rw [splitK]
    split
    · exact ⟨Nat.le_refl _, by rw [List.length_append]; simp only [List.length_cons, List.length_nil]; omega⟩
    · omega
theorem splitK_mem (s : List UInt8) (b : UInt8) : ∀ k x, x ∈ (splitK s b k).1 → x.length ≤ s.length
  | 0, x, h => by cases h
  | k + 1, x, h => by
    rw [splitK] at h
    split at h
    · rcases List.mem_append.1 h with h | h
      · exact splitK_mem s b k x h
      · rw [List.mem_singleton] at h; subst h; rw [List.length_drop, List.length_take]; omega
    · exact splitK_mem s b k x h
theorem splitL_mem {s : List UInt8} {b : UInt8} {x : List UInt8} (h : x ∈ splitL s b) : x.length ≤ s.length := by
  rcases List.mem_append.1 h with h | h
  · exact splitK_mem s b _ x h
  · rw [List.mem_singleton] at h; subst h; rw [List.length_drop]; omega
set_option maxHeartbeats 2000000 in
theorem l1Split_spec (s : List UInt8) (b : UInt8) (hs : s.length ≤ 1000000) : ASpec Tryd.prog 68 [aS (bstr s), aB b] [] (Pure1 (.d (vSx (splitL s b)))) := by
  have hsz := bstr_size s
  refine ASpec.of Tryd.func68 rfl rfl fun C hC => ?_
  refine AC.seq ?_
  refine AC.region ?_
  refine AL.p (by exact as1 rfl) rfl ?_
  refine AL.nil ?_
  refine th_n ?_
  refine AC.seq ?_
  refine AC.region ?_
  refine AL.p (by exact as1 rfl) rfl ?_
  refine AL.nil ?_
  refine th_n ?_
  refine AC.seq ?_
  refine AC.region ?_
  refine AL.p (by exact as1 rfl) rfl ?_
  refine AL.nil ?_
  refine th_n ?_
  refine AC.seq ?_
  refine AC.seq ?_
  refine AC.region ?_
  refine AL.p (by exact as1 rfl) rfl ?_
  refine AL.nil ?_
  refine th_n ?_
  refine AC.block ?_
  refine AC.loop (ι := Nat) (fun k => ⟨34, 108, [(0, aS (bstr s)), (1, aB b), (5, .own 100 (splitK s b k).1.length), (6, aI (splitK s b k).2), (7, aI k)], [(100, some (.arr 9 1 (sxL (splitK s b k).1)))]⟩) (fun k => k ≤ s.length) (fun k => s.length - k) (0) ?_ (Nat.zero_le _) ?_
  · exact (Weak.nilOwn (i := 5) (e := 9) (sz := 1) rfl (by decide)).trans (Weak.ren _ [(100, _)] hC rfl (by repeat (first | exact True.intro | refine And.intro ?_ ?_ | exact DLead.same | exact rfl | refine ⟨_, rfl, ?_⟩)) (by repeat (first | exact True.intro | refine And.intro ?_ ?_ | exact rfl | refine ⟨_, _, rfl, rfl, ?_⟩)) rfl rfl rfl)
  · intro k hk
    refine AC.seq ?_
    refine AC.seq ?_
    refine AC.region ?_
    refine AL.p (by exact mv1 rfl) rfl ?_
    refine AL.p (by exact mv1 rfl) rfl ?_
    refine AL.p (by exact g_len_str rfl rfl rfl) rfl ?_
    refine AL.p (by exact g_cmp rfl rfl rfl) rfl ?_
    refine AL.nil ?_
    refine th_n ?_
    refine AC.condD rfl (fun h0 => ?_) (fun h0 => ?_)
    · refine AC.skip ?_
      refine th_n ?_
      refine AC.seq ?_
      refine AC.block ?_
      refine AC.seq ?_
      have hk1 : k < s.length := by omega
      have hget : (bstr s).data.toList[k]? = some (s.getD k 0) := bstr_getD hk1
      have hin := splitK_in s b k
      have hb1 : ((s.getD k 0).toNat : Int) = (b.toNat : Int) → splitK s b (k + 1) = ((splitK s b k).1 ++ [(s.take k).drop (splitK s b k).2], k + 1) := fun h => by rw [splitK, if_pos (UInt8.toNat_inj.1 (by omega))]
      have hb0 : ¬ ((s.getD k 0).toNat : Int) = (b.toNat : Int) → splitK s b (k + 1) = splitK s b k := fun h => by rw [splitK, if_neg (fun e => h (by rw [e]))]
      have hex : (bstr s).extract (splitK s b k).2 k = bstr ((s.take k).drop (splitK s b k).2) := bstr_cut s hin.1 (by omega)
      refine AC.region ?_
      refine AL.p (by exact mv1 rfl) rfl ?_
      refine AL.p (by exact mv1 rfl) rfl ?_
      refine AL.p (by exact g_index rfl rfl rfl (by rfl) (by assumption)) rfl ?_
      refine AL.p (by exact mv1 rfl) rfl ?_
      refine AL.p (by exact g_cmp rfl rfl rfl) rfl ?_
      refine AL.nil ?_
      refine th_n ?_
      refine AC.condD rfl (fun h1 => ?_) (fun h1 => ?_)
      · refine AC.seq ?_
        refine AC.region ?_
        refine AL.p (by exact mv2 rfl) rfl ?_
        refine AL.p (by exact mv1 rfl) rfl ?_
        refine AL.p (by exact mv1 rfl) rfl ?_
        refine AL.p (by exact mv1 rfl) rfl ?_
        refine AL.p (by exact g_slice_str (l := (splitK s b k).2) (h := k) rfl rfl (.some rfl rfl) (.some rfl rfl) hin.1 (by omega) hex) rfl ?_
        refine AL.q (by exact h_litF rfl rfl rfl rfl rfl rfl rfl rfl) rfl ?_
        refine AL.q (by exact h_appendSx (splitK s b k).1 [(s.take k).drop (splitK s b k).2] (.own rfl rfl (sxL_len _).symm) (.view rfl) (by rw [List.length_append]; simp only [List.length_cons, List.length_nil]; omega) (by simp)) rfl ?_
        refine AL.p (by exact as2 rfl) rfl ?_
        refine AL.nil ?_
        refine th_n ?_
        refine AC.region ?_
        refine AL.p (by exact mv1 rfl) rfl ?_
        refine AL.p (by exact g_arith rfl rfl rfl (by exact wrap_i64 (by omega))) rfl ?_
        refine AL.p (by exact as1 rfl) rfl ?_
        refine AL.nil ?_
        refine ib_n ?_
        refine th_n ?_
        refine AC.region ?_
        refine AL.p (by exact mv1 rfl) rfl ?_
        refine AL.p (by exact g_arith rfl rfl rfl (by exact wrap_i64 (by omega))) rfl ?_
        refine AL.p (by exact as1 rfl) rfl ?_
        refine AL.nil ?_
        refine th_n ?_
        (have e := hb1 h1; exact ⟨k + 1, by omega, by omega, Weak.ren _ [(100, _)] hC rfl (by rw [e]; repeat (first | exact True.intro | refine And.intro ?_ ?_ | exact DLead.same | exact rfl | refine ⟨_, rfl, ?_⟩)) (by rw [e]; repeat (first | exact True.intro | refine And.intro ?_ ?_ | exact rfl | refine ⟨_, _, rfl, rfl, ?_⟩)) rfl rfl rfl⟩)
      · refine AC.skip ?_
        refine ib_n ?_
        refine th_n ?_
        refine AC.region ?_
        refine AL.p (by exact mv1 rfl) rfl ?_
        refine AL.p (by exact g_arith rfl rfl rfl (by exact wrap_i64 (by omega))) rfl ?_
        refine AL.p (by exact as1 rfl) rfl ?_
        refine AL.nil ?_
        refine th_n ?_
        (have e := hb0 h1; exact ⟨k + 1, by omega, by omega, Weak.ren _ [(100, _)] hC rfl (by rw [e]; repeat (first | exact True.intro | refine And.intro ?_ ?_ | exact DLead.same | exact rfl | refine ⟨_, rfl, ?_⟩)) (by rw [e]; repeat (first | exact True.intro | refine And.intro ?_ ?_ | exact rfl | refine ⟨_, _, rfl, rfl, ?_⟩)) rfl rfl rfl⟩)
    · refine AC.exit ?_
      refine th_e ?_
      refine th_e ?_
      refine ib_y ?_
      refine th_n ?_
      refine AC.seq ?_
      have hkk : k = s.length := by omega
      subst hkk
      have hin := splitK_in s b s.length
      have hex : (bstr s).extract (splitK s b s.length).2 (bstr s).size = bstr (s.drop (splitK s b s.length).2) := by rw [hsz, bstr_cut s hin.1 (Nat.le_refl _), List.take_length]
      refine AC.region ?_
      refine AL.p (by exact mv2 rfl) rfl ?_
      refine AL.p (by exact mv1 rfl) rfl ?_
      refine AL.p (by exact mv1 rfl) rfl ?_
      refine AL.p (by exact g_slice_str (l := (splitK s b s.length).2) rfl rfl (.some rfl rfl) .none (by omega) (Nat.le_refl _) hex) rfl ?_
      refine AL.q (by exact h_litF rfl rfl rfl rfl rfl rfl rfl rfl) rfl ?_
      refine AL.q (by exact h_appendSx (splitK s b s.length).1 [s.drop (splitK s b s.length).2] (.own rfl rfl (sxL_len _).symm) (.view rfl) (by rw [List.length_append]; simp only [List.length_cons, List.length_nil]; omega) (by simp)) rfl ?_
      refine AL.weak (Weak.freeze (i := 33) rfl rfl (ownl _ _) (ownt _ _)) ?_
      refine AL.p (by exact as1 rfl) rfl ?_
      refine AL.nil ?_
      refine th_n ?_
      refine AC.ret ?_
      refine bq_r ?_
      exact ret1 rfl rfl
theorem en_l1Split : Enters Tryd.prog 68 := enters_of Tryd.func68 rfl rfl
set_option maxHeartbeats 1000000 in
theorem l2Signal_spec (l : List Sig) (hl : l.length ≤ 2000000) (nm : List UInt8) : ASpec Tryd.prog 36 [.d (vSigs l), aS (bstr nm)] [] (Pure1 (aI (findI (fun x => decide (x.name = nm)) l))) := by
  refine ASpec.of Tryd.func36 rfl rfl fun C hC => ?_
  refine AC.seq ?_
  refine AC.region ?_
  refine AL.p (by exact as1 rfl) rfl ?_
  refine AL.nil ?_
  refine th_n ?_
  refine AC.seq ?_
  refine AC.seq ?_
  refine AC.region ?_
  refine AL.p (by exact mv1 rfl) rfl ?_
  refine AL.p (by exact g_len_view rfl rfl (by exact List.length_map _)) rfl ?_
  refine AL.p (by exact mv1 rfl) rfl ?_
  refine AL.nil ?_
  refine th_n ?_
  refine AC.block ?_
  refine AC.loop (ι := Nat) (fun k => ⟨20, 0, [(1, aS (bstr nm)), (7, .d (vSigs l)), (8, aI l.length), (9, aI k)], []⟩) (fun k => k ≤ l.length ∧ ∀ j (hj : j < l.length), j < k → (fun x : Sig => decide (x.name = nm)) l[j] = false) (fun k => l.length - k) (0) ?_ (⟨Nat.zero_le _, fun j _ hj => by omega⟩) ?_
  · refine Weak.ren _ [] hC rfl ?_ ?_ rfl rfl rfl <;> repeat (first | exact True.intro | refine And.intro ?_ ?_ | exact DLead.same)
  · intro k ⟨hk, hall⟩
    refine AC.seq ?_
    refine AC.region ?_
    refine AL.p (by exact g_cmp rfl rfl rfl) rfl ?_
    refine AL.nil ?_
    refine th_n ?_
    refine AC.seq ?_
    refine AC.condD rfl (fun h0 => ?_) (fun h0 => ?_)
    · refine AC.skip ?_
      refine th_n ?_
      refine AC.seq ?_
      refine AC.block ?_
      refine AC.seq ?_
      have hk1 : k < l.length := by omega
      have hget := sigsL_get hk1
      refine AC.region ?_
      refine AL.p (by exact mv1 rfl) rfl ?_
      refine AL.p (by exact g_ia_view rfl rfl rfl rfl rfl (by rfl) (by assumption)) rfl ?_
      refine AL.p (by exact g_load_refN rfl rfl rfl rfl) rfl ?_
      refine AL.q (by exact h_alloc rfl) rfl ?_
      refine AL.p (by exact as1 rfl) rfl ?_
      refine AL.q (by exact h_store rfl rfl rfl rfl rfl rfl) rfl ?_
      refine AL.nil ?_
      refine th_n ?_
      refine AC.seq ?_
      refine AC.weak (Weak.freezeRef (ds := sigD l[k]) 6 rfl rfl) ?_
      refine AC.region ?_
      refine AL.p (by exact g_fa_ref rfl rfl rfl rfl rfl rfl) rfl ?_
      refine AL.p (by exact g_load_ref rfl rfl rfl) rfl ?_
      refine AL.p (by exact mv1 rfl) rfl ?_
      refine AL.p (by exact g_scmp rfl rfl rfl) rfl ?_
      refine AL.nil ?_
      refine th_n ?_
      refine AC.condD rfl (fun h1 => ?_) (fun h1 => ?_)
      · refine AC.seq ?_
        refine AC.region ?_
        refine AL.p (by exact mv1 rfl) rfl ?_
        refine AL.p (by exact as1 rfl) rfl ?_
        refine AL.nil ?_
        refine th_n ?_
        refine AC.ret ?_
        refine ib_r ?_
        refine th_r ?_
        refine th_r ?_
        refine ib_r ?_
        refine th_r ?_
        refine bq_r ?_
        exact ret1 rfl (by rw [findI_at hk1 (p := fun x : Sig => decide (x.name = nm)) (decide_eq_true (bstr_inj h1)) (fun j hj => hall j (by omega) hj)])
      · refine AC.skip ?_
        refine ib_n ?_
        refine th_n ?_
        refine AC.region ?_
        refine AL.p (by exact g_arith rfl rfl rfl (by exact wrap_i64 (by omega))) rfl ?_
        refine AL.p (by exact mv1 rfl) rfl ?_
        refine AL.nil ?_
        refine th_n ?_
        exact ⟨k + 1, ⟨by omega, fun j hj hj2 => by rcases Nat.lt_succ_iff_lt_or_eq.1 hj2 with h | rfl; exact hall j hj h; exact decide_eq_false (fun e => h1 (by rw [e]))⟩, by omega, Weak.ren _ [] hC rfl (by repeat (first | exact True.intro | refine And.intro ?_ ?_ | exact DLead.same)) (by repeat (exact True.intro)) rfl rfl rfl⟩
    · refine AC.exit ?_
      refine th_e ?_
      refine th_e ?_
      refine ib_y ?_
      refine th_n ?_
      refine AC.seq ?_
      refine AC.region ?_
      refine AL.p (by exact as1 rfl) rfl ?_
      refine AL.nil ?_
      refine th_n ?_
      refine AC.ret ?_
      refine bq_r ?_
      exact ret1 rfl (by rw [findI_none (fun j hj => hall j hj (by omega))])
theorem en_l2Signal : Enters Tryd.prog 36 := enters_of Tryd.func36 rfl rfl
/-- A graph under construction. -/
structure Bs where
  sigs : List Sig
  ts : List Tn
  labs : List Lab
  start : List UInt8
  ps : List (List UInt8)
  ws : List (List UInt8)
abbrev bC (b : Bs) (i1 i2 i3 i4 i5 : Nat) : Chunk := .cells 93 [aI b.ps.length, .own i1 b.ts.length, .own i2 b.sigs.length, .own i3 b.labs.length, aS (bstr b.start), .own i4 b.ps.length, .own i5 b.ws.length]
abbrev bChs (b : Bs) (i1 i2 i3 i4 i5 : Nat) : List (Nat × Chunk) := [(0, bC b i1 i2 i3 i4 i5), (i1, .arr 88 2 (tsL b.ts)), (i2, .arr 70 2 (sigsL b.sigs)), (i3, .arr 39 2 (labsL b.labs)), (i4, .arr 9 1 (sxL b.ps)), (i5, .arr 9 1 (sxL b.ws))]
/-- It is small. -/
structure BsL (b : Bs) : Prop where
  s : b.sigs.length ≤ 100000
  t : b.ts.length ≤ 100000
  l : b.labs.length ≤ 100000
  st : b.start.length ≤ 100000
  p : b.ps.length ≤ 100000
  w : b.ws.length ≤ 100000
def placeF (b : Bs) (nm : List UInt8) : Nat × Bs := if b.ps.findIdx (fun x => decide (x = nm)) < b.ps.length then (b.ps.findIdx (fun x => decide (x = nm)), b) else (b.ps.length, { b with ps := b.ps ++ [nm], start := b.start ++ [48] })
theorem placeF_yes {b : Bs} {nm : List UInt8} {k : Nat} (hk : k < b.ps.length) (h : b.ps[k] = nm) (hp : ∀ j (hj : j < b.ps.length), j < k → ¬ b.ps[j] = nm) : placeF b nm = (k, b) := by
  have e : b.ps.findIdx (fun x => decide (x = nm)) = k := (List.findIdx_eq hk).2 ⟨decide_eq_true h, fun j hj => by simpa using hp j (by omega) hj⟩
  rw [placeF, e, if_pos hk]
theorem placeF_no {b : Bs} {nm : List UInt8} (hp : ∀ j (hj : j < b.ps.length), ¬ b.ps[j] = nm) : placeF b nm = (b.ps.length, { b with ps := b.ps ++ [nm], start := b.start ++ [48] }) := by
  have e : b.ps.findIdx (fun x => decide (x = nm)) = b.ps.length := List.findIdx_eq_length.2 (fun x hx => by obtain ⟨j, hj, rfl⟩ := List.getElem_of_mem hx; simpa using hp j hj)
  rw [placeF, e, if_neg (Nat.lt_irrefl _)]
set_option maxHeartbeats 4000000 in
theorem bPlace_spec (b : Bs) (nm : List UInt8) (hb : BsL b) : ASpec Tryd.prog 74 [.ptr 0 0, aS (bstr nm)] (bChs b 1 2 3 4 5) (Fun1 (aI (placeF b nm).1) (bChs (placeF b nm).2 1 2 3 6 5)) := by
  have hps := hb.p
  have hss := hb.st
  refine ASpec.of Tryd.func74 rfl rfl fun C hC => ?_
  refine AC.seq ?_
  refine AC.region ?_
  refine AL.p (by exact as1 rfl) rfl ?_
  refine AL.nil ?_
  refine th_n ?_
  refine AC.seq ?_
  refine AC.seq ?_
  refine AC.region ?_
  refine AL.p (by exact mv3 rfl) rfl ?_
  refine AL.p (by exact g_nilP rfl) rfl ?_
  refine AL.p (by exact g_fa_ptr rfl rfl rfl rfl rfl) rfl ?_
  refine AL.p (by exact g_load_ptr rfl rfl rfl rfl rfl) rfl ?_
  refine AL.p (by exact g_len_own (sz := 1) (els := []) (e' := 0) rfl rfl (by simp only [maxLen]; omega)) rfl ?_
  refine AL.p (by exact mv1 rfl) rfl ?_
  refine AL.nil ?_
  refine th_n ?_
  refine AC.block ?_
  refine AC.loop (ι := Nat) (fun k => ⟨58, 136, [(0, .ptr 0 0), (1, aS (bstr nm)), (10, .own 4 b.ps.length), (11, aI b.ps.length), (12, aI k)], chL (bChs b 1 2 3 4 5)⟩) (fun k => k ≤ b.ps.length ∧ ∀ j (hj : j < b.ps.length), j < k → ¬ b.ps[j] = nm) (fun k => b.ps.length - k) (0) ?_ (⟨Nat.zero_le _, fun j _ hj => by omega⟩) ?_
  · exact Weak.ren _ [] hC rfl (by repeat (first | exact True.intro | refine And.intro ?_ ?_ | exact DLead.same | exact rfl | refine ⟨_, rfl, ?_⟩)) (by repeat (first | exact True.intro | refine And.intro ?_ ?_ | exact DLead.same | exact rfl | refine ⟨_, _, rfl, rfl, ?_⟩ | refine ⟨_, rfl, ?_⟩ | refine ⟨_, _, rfl, ?_, ?_⟩)) rfl rfl rfl
  · intro k ⟨hk, hall⟩
    refine AC.seq ?_
    refine AC.region ?_
    refine AL.p (by exact g_cmp rfl rfl rfl) rfl ?_
    refine AL.nil ?_
    refine th_n ?_
    refine AC.seq ?_
    refine AC.condD rfl (fun h0 => ?_) (fun h0 => ?_)
    · refine AC.skip ?_
      refine th_n ?_
      refine AC.seq ?_
      refine AC.block ?_
      refine AC.seq ?_
      have hk1 : k < b.ps.length := by omega
      have hget := sxL_get hk1
      refine AC.region ?_
      refine AL.p (by exact mv1 rfl) rfl ?_
      refine AL.p (by exact g_ia_own rfl rfl rfl rfl rfl (by rfl) (by omega) (by exact Nat.mul_one _)) rfl ?_
      refine AL.p (by exact g_load_arr1 rfl rfl rfl rfl (by assumption)) rfl ?_
      refine AL.p (by exact as1 rfl) rfl ?_
      refine AL.p (by exact as1 rfl) rfl ?_
      refine AL.nil ?_
      refine th_n ?_
      refine AC.seq ?_
      refine AC.region ?_
      refine AL.p (by exact mv1 rfl) rfl ?_
      refine AL.p (by exact mv1 rfl) rfl ?_
      refine AL.p (by exact g_scmp rfl rfl rfl) rfl ?_
      refine AL.nil ?_
      refine th_n ?_
      refine AC.condD rfl (fun h1 => ?_) (fun h1 => ?_)
      · refine AC.seq ?_
        refine AC.region ?_
        refine AL.p (by exact mv1 rfl) rfl ?_
        refine AL.p (by exact as1 rfl) rfl ?_
        refine AL.nil ?_
        refine th_n ?_
        refine AC.ret ?_
        refine ib_r ?_
        refine th_r ?_
        refine th_r ?_
        refine ib_r ?_
        refine th_r ?_
        refine bq_r ?_
        have e := placeF_yes hk1 (bstr_inj h1) hall
        exact retN [(6, 4)] rfl (by rw [e]; repeat (exact DLead.same)) (by rw [e]; repeat (first | exact True.intro | refine And.intro ?_ ?_ | exact DLead.same | exact rfl | refine ⟨_, _, rfl, rfl, ?_⟩ | refine ⟨_, rfl, ?_⟩ | refine ⟨_, _, rfl, ?_, ?_⟩)) rfl rfl
      · refine AC.skip ?_
        refine ib_n ?_
        refine th_n ?_
        refine AC.region ?_
        refine AL.p (by exact g_arith rfl rfl rfl (by exact wrap_i64 (by omega))) rfl ?_
        refine AL.p (by exact mv1 rfl) rfl ?_
        refine AL.nil ?_
        refine th_n ?_
        exact ⟨k + 1, ⟨by omega, fun j hj hj2 => by rcases Nat.lt_succ_iff_lt_or_eq.1 hj2 with h | rfl; exact hall j hj h; exact fun e => h1 (by rw [e])⟩, by omega, Weak.ren _ [] hC rfl (by repeat (first | exact True.intro | refine And.intro ?_ ?_ | exact DLead.same | exact rfl | refine ⟨_, rfl, ?_⟩)) (by repeat (first | exact True.intro | refine And.intro ?_ ?_ | exact DLead.same | exact rfl | refine ⟨_, _, rfl, rfl, ?_⟩ | refine ⟨_, rfl, ?_⟩ | refine ⟨_, _, rfl, ?_, ?_⟩)) rfl rfl rfl⟩
    · refine AC.exit ?_
      refine th_e ?_
      refine th_e ?_
      refine ib_y ?_
      refine th_n ?_
      refine AC.seq ?_
      have e := placeF_no (fun j hj => hall j hj (by omega))
      have hln : (b.ps ++ [nm]).length = b.ps.length + 1 := by simp
      refine AC.region ?_
      refine AL.p (by exact mv3 rfl) rfl ?_
      refine AL.p (by exact mv3 rfl) rfl ?_
      refine AL.p (by exact g_nilP rfl) rfl ?_
      refine AL.p (by exact g_fa_ptr rfl rfl rfl rfl rfl) rfl ?_
      refine AL.p (by exact g_load_ptr rfl rfl rfl rfl rfl) rfl ?_
      refine AL.p (by exact mv1 rfl) rfl ?_
      refine AL.q (by exact h_litF rfl rfl rfl rfl rfl rfl rfl rfl) rfl ?_
      refine AL.q (by exact h_appendSx b.ps [nm] (.own rfl rfl (sxL_len _).symm) (.view rfl) (by omega) (by simp)) rfl ?_
      refine AL.p (by exact g_nilP rfl) rfl ?_
      refine AL.p (by exact g_fa_ptr rfl rfl rfl rfl rfl) rfl ?_
      refine AL.q (by exact h_store rfl rfl rfl rfl rfl rfl) rfl ?_
      refine AL.nil ?_
      refine th_n ?_
      refine AC.seq ?_
      refine AC.region ?_
      refine AL.p (by exact mv3 rfl) rfl ?_
      refine AL.p (by exact g_nilP rfl) rfl ?_
      refine AL.p (by exact g_fa_ptr rfl rfl rfl rfl rfl) rfl ?_
      refine AL.p (by exact g_fa_ptr rfl rfl rfl rfl rfl) rfl ?_
      refine AL.p (by exact g_load_ptr rfl rfl rfl rfl rfl) rfl ?_
      refine AL.p (by exact g_saddB (a := b.start) (b := [48]) rfl rfl (by simp only [List.length_cons, List.length_nil]; omega)) rfl ?_
      refine AL.p (by exact g_nilP rfl) rfl ?_
      refine AL.p (by exact g_fa_ptr rfl rfl rfl rfl rfl) rfl ?_
      refine AL.p (by exact g_fa_ptr rfl rfl rfl rfl rfl) rfl ?_
      refine AL.q (by exact h_store rfl rfl rfl rfl rfl rfl) rfl ?_
      refine AL.nil ?_
      refine th_n ?_
      refine AC.seq ?_
      refine AC.region ?_
      refine AL.p (by exact mv3 rfl) rfl ?_
      refine AL.p (by exact g_nilP rfl) rfl ?_
      refine AL.p (by exact g_fa_ptr rfl rfl rfl rfl rfl) rfl ?_
      refine AL.p (by exact g_fa_ptr rfl rfl rfl rfl rfl) rfl ?_
      refine AL.p (by exact g_fa_ptr rfl rfl rfl rfl rfl) rfl ?_
      refine AL.p (by exact g_load_ptr rfl rfl rfl rfl rfl) rfl ?_
      refine AL.p (by exact g_arith rfl rfl rfl (by exact wrap_i64 (by omega))) rfl ?_
      refine AL.p (by exact g_nilP rfl) rfl ?_
      refine AL.p (by exact g_fa_ptr rfl rfl rfl rfl rfl) rfl ?_
      refine AL.p (by exact g_fa_ptr rfl rfl rfl rfl rfl) rfl ?_
      refine AL.p (by exact g_fa_ptr rfl rfl rfl rfl rfl) rfl ?_
      refine AL.q (by exact h_store rfl rfl rfl rfl rfl rfl) rfl ?_
      refine AL.nil ?_
      refine th_n ?_
      refine AC.seq ?_
      refine AC.region ?_
      refine AL.p (by exact mv3 rfl) rfl ?_
      refine AL.p (by exact g_nilP rfl) rfl ?_
      refine AL.p (by exact g_fa_ptr rfl rfl rfl rfl rfl) rfl ?_
      refine AL.p (by exact g_load_ptr rfl rfl rfl rfl rfl) rfl ?_
      refine AL.p (by exact g_len_own (sz := 1) (els := []) (e' := 0) rfl rfl (by simp only [maxLen]; omega)) rfl ?_
      refine AL.p (by exact g_arith rfl rfl rfl (by exact wrap_i64 (by omega))) rfl ?_
      refine AL.p (by exact as1 rfl) rfl ?_
      refine AL.nil ?_
      refine th_n ?_
      refine AC.ret ?_
      refine bq_r ?_
      exact retN [(6, 144)] rfl (by rw [e]; exact DLead.eqI (by omega)) (by rw [e]; dsimp only; repeat (first | exact True.intro | refine And.intro ?_ ?_ | exact DLead.same | exact DLead.eqI (by dsimp only; omega) | exact rfl | refine ⟨_, _, rfl, rfl, ?_⟩ | refine ⟨_, rfl, ?_⟩ | refine ⟨_, _, rfl, ?_, ?_⟩)) rfl rfl
theorem en_bPlace : Enters Tryd.prog 74 := enters_of Tryd.func74 rfl rfl
end Go.Proofs.YtnklhbfdfddigaaDoor

