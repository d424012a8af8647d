/- Contracts of the functions of the program and of the reference, each proved by a walk through its code. -/
import Derived.WalkKit
import Derived.WalkSpells
import Derived.WalkLawsBesides
import Derived.Deep.Draws
import Derived.Lib.Hide
import Derived.Maps.AppendAt
import Derived.OwnWalk
import Derived.Deep.MidRow
import Derived.Laws.ResultCell
import Derived.Deep.Upon
import Derived.Great.FillDense
import Derived.Laws.Tables
import Derived.Laws.BytesArg
import Derived.Laws.MakeOwn
import Derived.Great.BuildSlice
import Derived.ArgAppend
import Derived.Deep.AppendSrc
import Derived.Test.YtbmlfcjoeieibaaProg
import Derived.KernelRfl
import Derived.Orders
import Derived.Laws.IdiomStrings
import Derived.Lib.AppendZerosOnto
import Derived.ProofKit
import Derived.OpenShut
import Derived.Laws.StructEq
import Derived.ChangeKeysEq
import Derived.Test.YtbmlfcjoeieibaaChecked
import Derived.Test.YtbmlfcjoeieibaaGOb3
set_option linter.all false
set_option maxRecDepth 20000
namespace Go.Proofs.Ytbmlfcjoeieibaa
open Go.RowKit

set_option maxHeartbeats 1000000 in
theorem l2Name_spec (m : List UInt8) (hm : m.length ≤ 2000000) : ASpec Try.prog 68 [aS (bstr m)] [] (Pure1 (aT (nameB m))) := by
  have hsz := bstr_size m
  refine ASpec.of Try.func68 rfl rfl fun C hC => ?_
  refine AC.seq ?_
  refine AC.region ?_
  refine AL.p (by exact as1 rfl) rfl ?_
  refine AL.nil ?_
  refine th_n ?_
  refine AC.seq ?_
  refine AC.seq ?_
  refine AC.region ?_
  refine AL.p (by exact as1 rfl) rfl ?_
  refine AL.nil ?_
  refine th_n ?_
  refine AC.block ?_
  refine AC.loop (ι := Nat) (fun k => ⟨42, 0, [(0, aS (bstr m)), (3, aI k)], []⟩) (fun k => k ≤ m.length ∧ ∀ j (hj : j < m.length), j < k → nameC j m[j] = true) (fun k => m.length - k) (0) ?_ (⟨Nat.zero_le _, fun j _ hj => by omega⟩) ?_
  · refine Weak.ren _ [] hC rfl ?_ ?_ rfl rfl rfl <;> repeat (first | exact True.intro | refine And.intro ?_ ?_ | exact DLead.same)
  · intro k ⟨hk, hall⟩
    refine AC.seq ?_
    refine AC.seq ?_
    refine AC.region ?_
    refine AL.p (by exact mv1 rfl) rfl ?_
    refine AL.p (by exact mv1 rfl) rfl ?_
    refine AL.p (by exact g_len_str rfl rfl rfl) rfl ?_
    refine AL.p (by exact g_cmp rfl rfl rfl) rfl ?_
    refine AL.nil ?_
    refine th_n ?_
    refine AC.condD rfl (fun h0 => ?_) (fun h0 => ?_)
    · refine AC.skip ?_
      refine th_n ?_
      refine AC.seq ?_
      refine AC.block ?_
      refine AC.seq ?_
      have hk1 : k < m.length := by omega
      have hget := bstr_at hk1
      have hlt := m[k].toNat_lt
      refine AC.region ?_
      refine AL.p (by exact mv1 rfl) rfl ?_
      refine AL.p (by exact mv1 rfl) rfl ?_
      refine AL.p (by exact g_index rfl rfl rfl (by rfl) (by assumption)) rfl ?_
      refine AL.p (by exact g_cmp rfl rfl rfl) rfl ?_
      refine AL.p (by exact mv1 rfl) rfl ?_
      refine AL.caseG rfl rfl (fun h1 => ?_) (fun h1 => ?_)
      · refine AL.yes rfl rfl rfl ?_
        refine AL.p (by exact mv1 rfl) rfl ?_
        refine AL.yes rfl rfl rfl ?_
        refine AL.p (by exact mv1 rfl) rfl ?_
        refine AL.yes rfl rfl rfl ?_
        refine AL.p (by exact g_index rfl rfl rfl (by rfl) (by assumption)) rfl ?_
        refine AL.yes rfl rfl rfl ?_
        refine AL.p (by exact g_cmp rfl rfl rfl) rfl ?_
        refine AL.p (by exact g_pickT (r := .d _) rfl rfl) rfl ?_
        refine AL.p (by exact as1 rfl) rfl ?_
        refine AL.nil ?_
        refine th_n ?_
        refine AC.seq ?_
        refine AC.region ?_
        refine AL.p (by exact mv1 rfl) rfl ?_
        refine AL.p (by exact g_not rfl) rfl ?_
        refine AL.p (by exact mv1 rfl) rfl ?_
        refine AL.caseGN rfl rfl (fun h2 => ?_) (fun h2 => ?_)
        · refine AL.yes rfl rfl rfl ?_
          refine AL.p (by exact mv1 rfl) rfl ?_
          refine AL.yes rfl rfl rfl ?_
          refine AL.p (by exact g_cmp rfl rfl rfl) rfl ?_
          refine AL.yes rfl rfl rfl ?_
          refine AL.p (by exact mv1 rfl) rfl ?_
          refine AL.caseG rfl rfl (fun h3 => ?_) (fun h3 => ?_)
          · refine AL.not rfl rfl rfl rfl rfl ?_
            refine AL.not rfl rfl rfl rfl rfl ?_
            refine AL.not rfl rfl rfl rfl rfl ?_
            refine AL.not rfl rfl rfl rfl rfl ?_
            refine AL.yes rfl rfl rfl ?_
            refine AL.p (by exact g_pickT (r := .d _) rfl rfl) rfl ?_
            refine AL.yes rfl rfl rfl ?_
            refine AL.p (by exact mv1 rfl) rfl ?_
            refine AL.not rfl rfl rfl rfl rfl ?_
            refine AL.not rfl rfl rfl rfl rfl ?_
            refine AL.not rfl rfl rfl rfl rfl ?_
            refine AL.not rfl rfl rfl rfl rfl ?_
            refine AL.yes rfl rfl rfl ?_
            refine AL.p (by exact g_pickT (r := .d _) rfl rfl) rfl ?_
            refine AL.p (by exact g_pickT (r := .d _) rfl rfl) rfl ?_
            refine AL.nil ?_
            refine th_n ?_
            refine AC.condT rfl ?_
            refine AC.seq ?_
            refine AC.region ?_
            refine AL.p (by exact as1 rfl) rfl ?_
            refine AL.nil ?_
            refine th_n ?_
            refine AC.ret ?_
            refine ib_r ?_
            refine th_r ?_
            refine th_r ?_
            refine ib_r ?_
            refine th_r ?_
            refine bq_r ?_
            have hb : nameC k m[k] = false := nameC_no (by simp_all <;> omega)
            exact ret1 rfl (by rw [nameB_no hk1 (by rw [List.getD_eq_getElem?_getD, List.getElem?_eq_getElem hk1]; exact hb)])
          · refine AL.yes rfl rfl rfl ?_
            refine AL.p (by exact mv1 rfl) rfl ?_
            refine AL.yes rfl rfl rfl ?_
            refine AL.p (by exact mv1 rfl) rfl ?_
            refine AL.yes rfl rfl rfl ?_
            refine AL.p (by exact g_index rfl rfl rfl (by rfl) (by assumption)) rfl ?_
            refine AL.yes rfl rfl rfl ?_
            refine AL.p (by exact g_cmp rfl rfl rfl) rfl ?_
            refine AL.yes rfl rfl rfl ?_
            refine AL.p (by exact g_pickF (r := .d _) rfl rfl) rfl ?_
            refine AL.yes rfl rfl rfl ?_
            refine AL.p (by exact mv1 rfl) rfl ?_
            refine AL.caseG rfl rfl (fun h4 => ?_) (fun h4 => ?_)
            · refine AL.not rfl rfl rfl rfl rfl ?_
              refine AL.not rfl rfl rfl rfl rfl ?_
              refine AL.not rfl rfl rfl rfl rfl ?_
              refine AL.not rfl rfl rfl rfl rfl ?_
              refine AL.yes rfl rfl rfl ?_
              refine AL.p (by exact g_pickT (r := .d _) rfl rfl) rfl ?_
              refine AL.p (by exact g_pickT (r := .d _) rfl rfl) rfl ?_
              refine AL.nil ?_
              refine th_n ?_
              refine AC.condT rfl ?_
              refine AC.seq ?_
              refine AC.region ?_
              refine AL.p (by exact as1 rfl) rfl ?_
              refine AL.nil ?_
              refine th_n ?_
              refine AC.ret ?_
              refine ib_r ?_
              refine th_r ?_
              refine th_r ?_
              refine ib_r ?_
              refine th_r ?_
              refine bq_r ?_
              have hb : nameC k m[k] = false := nameC_no (by simp_all <;> omega)
              exact ret1 rfl (by rw [nameB_no hk1 (by rw [List.getD_eq_getElem?_getD, List.getElem?_eq_getElem hk1]; exact hb)])
            · refine AL.yes rfl rfl rfl ?_
              refine AL.p (by exact mv1 rfl) rfl ?_
              refine AL.yes rfl rfl rfl ?_
              refine AL.p (by exact mv1 rfl) rfl ?_
              refine AL.yes rfl rfl rfl ?_
              refine AL.p (by exact g_index rfl rfl rfl (by rfl) (by assumption)) rfl ?_
              refine AL.yes rfl rfl rfl ?_
              refine AL.p (by exact g_cmp rfl rfl rfl) rfl ?_
              refine AL.yes rfl rfl rfl ?_
              refine AL.p (by exact g_pickF (r := .d _) rfl rfl) rfl ?_
              refine AL.p (by exact g_pickT (r := .d _) rfl rfl) rfl ?_
              refine AL.nil ?_
              refine th_n ?_
              refine AC.condD rfl (fun h5 => ?_) (fun h5 => ?_)
              · refine AC.seq ?_
                refine AC.region ?_
                refine AL.p (by exact as1 rfl) rfl ?_
                refine AL.nil ?_
                refine th_n ?_
                refine AC.ret ?_
                refine ib_r ?_
                refine th_r ?_
                refine th_r ?_
                refine ib_r ?_
                refine th_r ?_
                refine bq_r ?_
                have hb : nameC k m[k] = false := nameC_no (by simp_all <;> omega)
                exact ret1 rfl (by rw [nameB_no hk1 (by rw [List.getD_eq_getElem?_getD, List.getElem?_eq_getElem hk1]; exact hb)])
              · refine AC.skip ?_
                refine ib_n ?_
                refine th_n ?_
                refine AC.region ?_
                refine AL.p (by exact mv1 rfl) rfl ?_
                refine AL.p (by exact g_arith rfl rfl rfl (by exact wrap_i64 (by omega))) rfl ?_
                refine AL.p (by exact as1 rfl) rfl ?_
                refine AL.nil ?_
                refine th_n ?_
                have hb : nameC k m[k] = true := nameC_iff.2 (by simp_all <;> omega)
                exact ⟨k + 1, ⟨by omega, fun j hj hj2 => by rcases Nat.lt_succ_iff_lt_or_eq.1 hj2 with h | rfl; exact hall j hj h; exact hb⟩, by omega, Weak.ren _ [] hC rfl (by repeat (first | exact True.intro | refine And.intro ?_ ?_ | exact DLead.same)) (by repeat (exact True.intro)) rfl rfl rfl⟩
        · refine AL.not rfl rfl rfl rfl rfl ?_
          refine AL.not rfl rfl rfl rfl rfl ?_
          refine AL.not rfl rfl rfl rfl rfl ?_
          refine AL.notU rfl rfl rfl ?_
          refine AL.notU rfl rfl rfl ?_
          refine AL.notU rfl rfl rfl ?_
          refine AL.notU rfl rfl rfl ?_
          refine AL.not rfl rfl rfl rfl rfl ?_
          refine AL.not rfl rfl rfl rfl rfl ?_
          refine AL.notU rfl rfl rfl ?_
          refine AL.notU rfl rfl rfl ?_
          refine AL.notU rfl rfl rfl ?_
          refine AL.notU rfl rfl rfl ?_
          refine AL.not rfl rfl rfl rfl rfl ?_
          refine AL.p (by exact g_pickF (r := .d _) rfl rfl) rfl ?_
          refine AL.nil ?_
          refine th_n ?_
          refine AC.condF rfl ?_
          refine AC.skip ?_
          refine ib_n ?_
          refine th_n ?_
          refine AC.region ?_
          refine AL.p (by exact mv1 rfl) rfl ?_
          refine AL.p (by exact g_arith rfl rfl rfl (by exact wrap_i64 (by omega))) rfl ?_
          refine AL.p (by exact as1 rfl) rfl ?_
          refine AL.nil ?_
          refine th_n ?_
          have hb : nameC k m[k] = true := nameC_iff.2 (by simp_all <;> omega)
          exact ⟨k + 1, ⟨by omega, fun j hj hj2 => by rcases Nat.lt_succ_iff_lt_or_eq.1 hj2 with h | rfl; exact hall j hj h; exact hb⟩, by omega, Weak.ren _ [] hC rfl (by repeat (first | exact True.intro | refine And.intro ?_ ?_ | exact DLead.same)) (by repeat (exact True.intro)) rfl rfl rfl⟩
      · refine AL.not rfl rfl rfl rfl rfl ?_
        refine AL.not rfl rfl rfl rfl rfl ?_
        refine AL.not rfl rfl rfl rfl rfl ?_
        refine AL.not rfl rfl rfl rfl rfl ?_
        refine AL.p (by exact g_pickF (r := .d _) rfl rfl) rfl ?_
        refine AL.p (by exact as1 rfl) rfl ?_
        refine AL.nil ?_
        refine th_n ?_
        refine AC.seq ?_
        refine AC.region ?_
        refine AL.p (by exact mv1 rfl) rfl ?_
        refine AL.p (by exact g_not rfl) rfl ?_
        refine AL.p (by exact mv1 rfl) rfl ?_
        refine AL.yes rfl rfl rfl ?_
        refine AL.p (by exact mv1 rfl) rfl ?_
        refine AL.yes rfl rfl rfl ?_
        refine AL.p (by exact g_cmp rfl rfl rfl) rfl ?_
        refine AL.yes rfl rfl rfl ?_
        refine AL.p (by exact mv1 rfl) rfl ?_
        refine AL.caseG rfl rfl (fun h2 => ?_) (fun h2 => ?_)
        · refine AL.not rfl rfl rfl rfl rfl ?_
          refine AL.not rfl rfl rfl rfl rfl ?_
          refine AL.not rfl rfl rfl rfl rfl ?_
          refine AL.not rfl rfl rfl rfl rfl ?_
          refine AL.yes rfl rfl rfl ?_
          refine AL.p (by exact g_pickT (r := .d _) rfl rfl) rfl ?_
          refine AL.yes rfl rfl rfl ?_
          refine AL.p (by exact mv1 rfl) rfl ?_
          refine AL.not rfl rfl rfl rfl rfl ?_
          refine AL.not rfl rfl rfl rfl rfl ?_
          refine AL.not rfl rfl rfl rfl rfl ?_
          refine AL.not rfl rfl rfl rfl rfl ?_
          refine AL.yes rfl rfl rfl ?_
          refine AL.p (by exact g_pickT (r := .d _) rfl rfl) rfl ?_
          refine AL.p (by exact g_pickT (r := .d _) rfl rfl) rfl ?_
          refine AL.nil ?_
          refine th_n ?_
          refine AC.condT rfl ?_
          refine AC.seq ?_
          refine AC.region ?_
          refine AL.p (by exact as1 rfl) rfl ?_
          refine AL.nil ?_
          refine th_n ?_
          refine AC.ret ?_
          refine ib_r ?_
          refine th_r ?_
          refine th_r ?_
          refine ib_r ?_
          refine th_r ?_
          refine bq_r ?_
          have hb : nameC k m[k] = false := nameC_no (by simp_all <;> omega)
          exact ret1 rfl (by rw [nameB_no hk1 (by rw [List.getD_eq_getElem?_getD, List.getElem?_eq_getElem hk1]; exact hb)])
        · refine AL.yes rfl rfl rfl ?_
          refine AL.p (by exact mv1 rfl) rfl ?_
          refine AL.yes rfl rfl rfl ?_
          refine AL.p (by exact mv1 rfl) rfl ?_
          refine AL.yes rfl rfl rfl ?_
          refine AL.p (by exact g_index rfl rfl rfl (by rfl) (by assumption)) rfl ?_
          refine AL.yes rfl rfl rfl ?_
          refine AL.p (by exact g_cmp rfl rfl rfl) rfl ?_
          refine AL.yes rfl rfl rfl ?_
          refine AL.p (by exact g_pickF (r := .d _) rfl rfl) rfl ?_
          refine AL.yes rfl rfl rfl ?_
          refine AL.p (by exact mv1 rfl) rfl ?_
          refine AL.caseG rfl rfl (fun h3 => ?_) (fun h3 => ?_)
          · refine AL.not rfl rfl rfl rfl rfl ?_
            refine AL.not rfl rfl rfl rfl rfl ?_
            refine AL.not rfl rfl rfl rfl rfl ?_
            refine AL.not rfl rfl rfl rfl rfl ?_
            refine AL.yes rfl rfl rfl ?_
            refine AL.p (by exact g_pickT (r := .d _) rfl rfl) rfl ?_
            refine AL.p (by exact g_pickT (r := .d _) rfl rfl) rfl ?_
            refine AL.nil ?_
            refine th_n ?_
            refine AC.condT rfl ?_
            refine AC.seq ?_
            refine AC.region ?_
            refine AL.p (by exact as1 rfl) rfl ?_
            refine AL.nil ?_
            refine th_n ?_
            refine AC.ret ?_
            refine ib_r ?_
            refine th_r ?_
            refine th_r ?_
            refine ib_r ?_
            refine th_r ?_
            refine bq_r ?_
            have hb : nameC k m[k] = false := nameC_no (by simp_all <;> omega)
            exact ret1 rfl (by rw [nameB_no hk1 (by rw [List.getD_eq_getElem?_getD, List.getElem?_eq_getElem hk1]; exact hb)])
          · refine AL.yes rfl rfl rfl ?_
            refine AL.p (by exact mv1 rfl) rfl ?_
            refine AL.yes rfl rfl rfl ?_
            refine AL.p (by exact mv1 rfl) rfl ?_
            refine AL.yes rfl rfl rfl ?_
            refine AL.p (by exact g_index rfl rfl rfl (by rfl) (by assumption)) rfl ?_
            refine AL.yes rfl rfl rfl ?_
            refine AL.p (by exact g_cmp rfl rfl rfl) rfl ?_
            refine AL.yes rfl rfl rfl ?_
            refine AL.p (by exact g_pickF (r := .d _) rfl rfl) rfl ?_
            refine AL.p (by exact g_pickT (r := .d _) rfl rfl) rfl ?_
            refine AL.nil ?_
            refine th_n ?_
            refine AC.condD rfl (fun h4 => ?_) (fun h4 => ?_)
            · refine AC.seq ?_
              refine AC.region ?_
              refine AL.p (by exact as1 rfl) rfl ?_
              refine AL.nil ?_
              refine th_n ?_
              refine AC.ret ?_
              refine ib_r ?_
              refine th_r ?_
              refine th_r ?_
              refine ib_r ?_
              refine th_r ?_
              refine bq_r ?_
              have hb : nameC k m[k] = false := nameC_no (by simp_all <;> omega)
              exact ret1 rfl (by rw [nameB_no hk1 (by rw [List.getD_eq_getElem?_getD, List.getElem?_eq_getElem hk1]; exact hb)])
            · refine AC.skip ?_
              refine ib_n ?_
              refine th_n ?_
              refine AC.region ?_
              refine AL.p (by exact mv1 rfl) rfl ?_
              refine AL.p (by exact g_arith rfl rfl rfl (by exact wrap_i64 (by omega))) rfl ?_
              refine AL.p (by exact as1 rfl) rfl ?_
              refine AL.nil ?_
              refine th_n ?_
              have hb : nameC k m[k] = true := nameC_iff.2 (by simp_all <;> omega)
              exact ⟨k + 1, ⟨by omega, fun j hj hj2 => by rcases Nat.lt_succ_iff_lt_or_eq.1 hj2 with h | rfl; exact hall j hj h; exact hb⟩, by omega, Weak.ren _ [] hC rfl (by repeat (first | exact True.intro | refine And.intro ?_ ?_ | exact DLead.same)) (by repeat (exact True.intro)) rfl rfl rfl⟩
    · refine AC.exit ?_
      refine th_e ?_
      refine th_e ?_
      refine ib_y ?_
      refine th_n ?_
      refine AC.seq ?_
      refine AC.region ?_
      refine AL.p (by exact mv1 rfl) rfl ?_
      refine AL.p (by exact g_len_str rfl rfl rfl) rfl ?_
      refine AL.q (by exact h_pure en_l1In rfl rfl (by repeat (first | exact rfl | exact DLead.same | refine ⟨_, _, rfl, ?_, ?_⟩)) (l1In_spec _ _ _) rfl) rfl ?_
      refine AL.p (by exact as1 rfl) rfl ?_
      refine AL.nil ?_
      refine th_n ?_
      refine AC.ret ?_
      refine bq_r ?_
      exact ret1 rfl (by rw [nameB_yes (fun j hj => by rw [List.getD_eq_getElem?_getD, List.getElem?_eq_getElem hj]; exact hall j hj (by omega)), hsz]; rfl)
theorem en_l2Name : Enters Try.prog 68 := enters_of Try.func68 rfl rfl
set_option maxHeartbeats 2000000 in
theorem isName_spec (m : List UInt8) (hm : m.length ≤ 2000000) : ASpec Try.prog 58 [aS (bstr m)] [] (Pure1 (aT (nameB m))) := by
  have hsz := bstr_size m
  refine ASpec.of Try.func58 rfl rfl fun C hC => ?_
  refine AC.seq ?_
  refine AC.region ?_
  refine AL.p (by exact as1 rfl) rfl ?_
  refine AL.nil ?_
  refine th_n ?_
  refine AC.seq ?_
  refine AC.seq ?_
  refine AC.region ?_
  refine AL.p (by exact as1 rfl) rfl ?_
  refine AL.nil ?_
  refine th_n ?_
  refine AC.block ?_
  refine AC.loop (ι := Nat) (fun k => ⟨45, 0, [(0, aS (bstr m)), (3, aI k)], []⟩) (fun k => k ≤ m.length ∧ ∀ j (hj : j < m.length), j < k → nameC j m[j] = true) (fun k => m.length - k) (0) ?_ (⟨Nat.zero_le _, fun j _ hj => by omega⟩) ?_
  · refine Weak.ren _ [] hC rfl ?_ ?_ rfl rfl rfl <;> repeat (first | exact True.intro | refine And.intro ?_ ?_ | exact DLead.same)
  · intro k ⟨hk, hall⟩
    refine AC.seq ?_
    refine AC.seq ?_
    refine AC.region ?_
    refine AL.p (by exact mv1 rfl) rfl ?_
    refine AL.p (by exact mv1 rfl) rfl ?_
    refine AL.p (by exact g_len_str rfl rfl rfl) rfl ?_
    refine AL.p (by exact g_cmp rfl rfl rfl) rfl ?_
    refine AL.nil ?_
    refine th_n ?_
    refine AC.condD rfl (fun h0 => ?_) (fun h0 => ?_)
    · refine AC.skip ?_
      refine th_n ?_
      refine AC.seq ?_
      refine AC.block ?_
      refine AC.seq ?_
      have hk1 : k < m.length := by omega
      have hget := bstr_at hk1
      have hlt := m[k].toNat_lt
      refine AC.drawn' mixed_ok [[], [], [0,1], [0,1,2], [0,1,2,3], [0,1,2,3,4], [0,1,2,3,4], [0,1,2,3,4,5,6], [0,1,2,3,4,5,6,7], [0,1,2,3,4,5,6,7,8], [], [], [10,11], [10,11,12], [0,1,2,3,4,10,11,12,13], [0,1,2,3,4,10,11,12,13,14], [0,1,2,3,4,10,11,12,13,14], [0,1,2,3,4,10,11,12,13,14,15,16], [0,1,2,3,4,10,11,12,13,14,15,16,17], [0,1,2,3,4,10,11,12,13,14,15,16,17,18], [0,1,2,3,4,5,6,7,8,9,10,11,12,13,14], [0,1,2,3,4,5,6,7,8,9,10,11,12,13,14,15,16,17,18,19,20]] (by decide) ?_
      refine DF.op 0 [] 22 rfl rfl rfl (.free rfl (NOp.of (by exact mv1 rfl))) rfl ?_
      refine DF.op 1 [] 22 rfl rfl rfl (.free rfl (NOp.of (by exact mv1 rfl))) rfl ?_
      refine DF.op 2 [0,1] 22 rfl rfl rfl (.free rfl (NOp.of (by exact g_index rfl rfl rfl (by rfl) (by assumption)))) rfl ?_
      refine DF.op 3 [0,1,2] 22 rfl rfl rfl (.free rfl (NOp.of (by exact g_cmp rfl rfl rfl))) rfl ?_
      refine DF.op 4 [0,1,2,3] 22 rfl rfl rfl (.free rfl (NOp.of (by exact mv1 rfl))) rfl ?_
      refine DF.caseD 4 rfl (fun h1 => ?_) (fun h1 => ?_)
      · refine DF.op 5 [0,1,2,3,4] 22 rfl rfl rfl (.yes rfl rfl rfl rfl (NOp.of (by exact mv1 rfl))) rfl ?_
        refine DF.op 6 [0,1,2,3,4] 22 rfl rfl rfl (.yes rfl rfl rfl rfl (NOp.of (by exact mv1 rfl))) rfl ?_
        refine DF.op 7 [0,1,2,3,4,5,6] 22 rfl rfl rfl (.yes rfl rfl rfl rfl (NOp.of (by exact g_index rfl rfl rfl (by rfl) (by assumption)))) rfl ?_
        refine DF.op 8 [0,1,2,3,4,5,6,7] 22 rfl rfl rfl (.yes rfl rfl rfl rfl (NOp.of (by exact g_cmp rfl rfl rfl))) rfl ?_
        refine DF.op 9 [0,1,2,3,4,5,6,7,8] 22 rfl rfl rfl (.free rfl (NOp.of (by exact g_pickT (r := .d _) rfl rfl))) rfl ?_
        refine DF.op 10 [] 22 rfl rfl rfl (.free rfl (NOp.of (by exact mv1 rfl))) rfl ?_
        refine DF.op 11 [] 22 rfl rfl rfl (.free rfl (NOp.of (by exact mv1 rfl))) rfl ?_
        refine DF.op 12 [10,11] 22 rfl rfl rfl (.free rfl (NOp.of (by exact g_index rfl rfl rfl (by rfl) (by assumption)))) rfl ?_
        refine DF.op 13 [10,11,12] 22 rfl rfl rfl (.free rfl (NOp.of (by exact g_cmp rfl rfl rfl))) rfl ?_
        refine DF.op 14 [0,1,2,3,4,10,11,12,13] 22 rfl rfl rfl (.free rfl (NOp.of (by exact mv1 rfl))) rfl ?_
        refine DF.caseD 14 rfl (fun h2 => ?_) (fun h2 => ?_)
        · refine DF.op 15 [0,1,2,3,4,10,11,12,13,14] 22 rfl rfl rfl (.yes rfl rfl rfl rfl (NOp.of (by exact mv1 rfl))) rfl ?_
          refine DF.op 16 [0,1,2,3,4,10,11,12,13,14] 22 rfl rfl rfl (.yes rfl rfl rfl rfl (NOp.of (by exact mv1 rfl))) rfl ?_
          refine DF.op 17 [0,1,2,3,4,10,11,12,13,14,15,16] 22 rfl rfl rfl (.yes rfl rfl rfl rfl (NOp.of (by exact g_index rfl rfl rfl (by rfl) (by assumption)))) rfl ?_
          refine DF.op 18 [0,1,2,3,4,10,11,12,13,14,15,16,17] 22 rfl rfl rfl (.yes rfl rfl rfl rfl (NOp.of (by exact g_cmp rfl rfl rfl))) rfl ?_
          refine DF.op 19 [0,1,2,3,4,10,11,12,13,14,15,16,17,18] 22 rfl rfl rfl (.free rfl (NOp.of (by exact g_pickT (r := .d _) rfl rfl))) rfl ?_
          refine DF.op 20 [0,1,2,3,4,5,6,7,8,9,10,11,12,13,14] 22 rfl rfl rfl (.free rfl (NOp.of (by exact as1 rfl))) rfl ?_
          refine DF.op 21 [0,1,2,3,4,5,6,7,8,9,10,11,12,13,14,15,16,17,18,19,20] 22 rfl rfl rfl (.free rfl (NOp.of (by exact as1 rfl))) rfl ?_
          refine DF.fin (ps := [(0, 1), (0, 10), (0, 11), (0, 12), (0, 13), (1, 0), (1, 10), (1, 11), (1, 12), (1, 13), (2, 10), (2, 11), (2, 12), (2, 13), (3, 10), (3, 11), (3, 12), (3, 13), (4, 10), (4, 11), (4, 12), (4, 13), (5, 6), (5, 10), (5, 11), (5, 12), (5, 13), (5, 14), (5, 15), (5, 16), (5, 17), (5, 18), (5, 19), (6, 5), (6, 10), (6, 11), (6, 12), (6, 13), (6, 14), (6, 15), (6, 16), (6, 17), (6, 18), (6, 19), (7, 10), (7, 11), (7, 12), (7, 13), (7, 14), (7, 15), (7, 16), (7, 17), (7, 18), (7, 19), (8, 10), (8, 11), (8, 12), (8, 13), (8, 14), (8, 15), (8, 16), (8, 17), (8, 18), (8, 19), (9, 10), (9, 11), (9, 12), (9, 13), (9, 14), (9, 15), (9, 16), (9, 17), (9, 18), (9, 19), (10, 0), (10, 1), (10, 2), (10, 3), (10, 4), (10, 5), (10, 6), (10, 7), (10, 8), (10, 9), (10, 11), (11, 0), (11, 1), (11, 2), (11, 3), (11, 4), (11, 5), (11, 6), (11, 7), (11, 8), (11, 9), (11, 10), (12, 0), (12, 1), (12, 2), (12, 3), (12, 4), (12, 5), (12, 6), (12, 7), (12, 8), (12, 9), (13, 0), (13, 1), (13, 2), (13, 3), (13, 4), (13, 5), (13, 6), (13, 7), (13, 8), (13, 9), (14, 5), (14, 6), (14, 7), (14, 8), (14, 9), (15, 5), (15, 6), (15, 7), (15, 8), (15, 9), (15, 16), (15, 20), (16, 5), (16, 6), (16, 7), (16, 8), (16, 9), (16, 15), (16, 20), (17, 5), (17, 6), (17, 7), (17, 8), (17, 9), (17, 20), (18, 5), (18, 6), (18, 7), (18, 8), (18, 9), (18, 20), (19, 5), (19, 6), (19, 7), (19, 8), (19, 9), (19, 20), (20, 15), (20, 16), (20, 17), (20, 18), (20, 19)]) 22 rfl (by decide +kernel) (by decide +kernel) (by rfl) ?_
          refine th_n ?_
          refine AC.seq ?_
          refine AC.region ?_
          refine AL.p (by exact mv1 rfl) rfl ?_
          refine AL.p (by exact g_not rfl) rfl ?_
          refine AL.p (by exact mv1 rfl) rfl ?_
          refine AL.caseGN rfl rfl (fun h3 => ?_) (fun h3 => ?_)
          · refine AL.yes rfl rfl rfl ?_
            refine AL.p (by exact mv1 rfl) rfl ?_
            refine AL.yes rfl rfl rfl ?_
            refine AL.p (by exact g_not rfl) rfl ?_
            refine AL.yes rfl rfl rfl ?_
            refine AL.p (by exact mv1 rfl) rfl ?_
            refine AL.caseGN rfl rfl (fun h4 => ?_) (fun h4 => ?_)
            · refine AL.not rfl rfl rfl rfl rfl ?_
              refine AL.not rfl rfl rfl rfl rfl ?_
              refine AL.yes rfl rfl rfl ?_
              refine AL.p (by exact g_pickT (r := .d _) rfl rfl) rfl ?_
              refine AL.p (by exact g_pickT (r := .d _) rfl rfl) rfl ?_
              refine AL.nil ?_
              refine th_n ?_
              refine AC.condT rfl ?_
              refine AC.seq ?_
              refine AC.region ?_
              refine AL.p (by exact as1 rfl) rfl ?_
              refine AL.nil ?_
              refine th_n ?_
              refine AC.ret ?_
              refine ib_r ?_
              refine th_r ?_
              refine th_r ?_
              refine ib_r ?_
              refine th_r ?_
              refine bq_r ?_
              have hb : nameC k m[k] = false := nameC_no (by simp_all <;> omega)
              exact ret1 rfl (by rw [nameB_no hk1 (by rw [List.getD_eq_getElem?_getD, List.getElem?_eq_getElem hk1]; exact hb)])
            · refine AL.yes rfl rfl rfl ?_
              refine AL.p (by exact mv1 rfl) rfl ?_
              refine AL.yes rfl rfl rfl ?_
              refine AL.p (by exact g_cmp rfl rfl rfl) rfl ?_
              refine AL.yes rfl rfl rfl ?_
              refine AL.p (by exact g_pickF (r := .d _) rfl rfl) rfl ?_
              refine AL.p (by exact g_pickT (r := .d _) rfl rfl) rfl ?_
              refine AL.nil ?_
              refine th_n ?_
              refine AC.condD rfl (fun h5 => ?_) (fun h5 => ?_)
              · refine AC.seq ?_
                refine AC.region ?_
                refine AL.p (by exact as1 rfl) rfl ?_
                refine AL.nil ?_
                refine th_n ?_
                refine AC.ret ?_
                refine ib_r ?_
                refine th_r ?_
                refine th_r ?_
                refine ib_r ?_
                refine th_r ?_
                refine bq_r ?_
                have hb : nameC k m[k] = false := nameC_no (by simp_all <;> omega)
                exact ret1 rfl (by rw [nameB_no hk1 (by rw [List.getD_eq_getElem?_getD, List.getElem?_eq_getElem hk1]; exact hb)])
              · refine AC.skip ?_
                refine ib_n ?_
                refine th_n ?_
                refine AC.region ?_
                refine AL.p (by exact mv1 rfl) rfl ?_
                refine AL.p (by exact g_arith rfl rfl rfl (by exact wrap_i64 (by omega))) rfl ?_
                refine AL.p (by exact as1 rfl) rfl ?_
                refine AL.nil ?_
                refine th_n ?_
                have hb : nameC k m[k] = true := nameC_iff.2 (by simp_all <;> omega)
                exact ⟨k + 1, ⟨by omega, fun j hj hj2 => by rcases Nat.lt_succ_iff_lt_or_eq.1 hj2 with h | rfl; exact hall j hj h; exact hb⟩, by omega, Weak.ren _ [] hC rfl (by repeat (first | exact True.intro | refine And.intro ?_ ?_ | exact DLead.same)) (by repeat (exact True.intro)) rfl rfl rfl⟩
          · refine AL.not rfl rfl rfl rfl rfl ?_
            refine AL.not rfl rfl rfl rfl rfl ?_
            refine AL.not rfl rfl rfl rfl rfl ?_
            refine AL.notU rfl rfl rfl ?_
            refine AL.notU rfl rfl rfl ?_
            refine AL.not rfl rfl rfl rfl rfl ?_
            refine AL.p (by exact g_pickF (r := .d _) rfl rfl) rfl ?_
            refine AL.nil ?_
            refine th_n ?_
            refine AC.condF rfl ?_
            refine AC.skip ?_
            refine ib_n ?_
            refine th_n ?_
            refine AC.region ?_
            refine AL.p (by exact mv1 rfl) rfl ?_
            refine AL.p (by exact g_arith rfl rfl rfl (by exact wrap_i64 (by omega))) rfl ?_
            refine AL.p (by exact as1 rfl) rfl ?_
            refine AL.nil ?_
            refine th_n ?_
            have hb : nameC k m[k] = true := nameC_iff.2 (by simp_all <;> omega)
            exact ⟨k + 1, ⟨by omega, fun j hj hj2 => by rcases Nat.lt_succ_iff_lt_or_eq.1 hj2 with h | rfl; exact hall j hj h; exact hb⟩, by omega, Weak.ren _ [] hC rfl (by repeat (first | exact True.intro | refine And.intro ?_ ?_ | exact DLead.same)) (by repeat (exact True.intro)) rfl rfl rfl⟩
        · refine DF.op (ids := []) 15 [0,1,2,3,4,10,11,12,13,14] 22 rfl rfl rfl (.no rfl rfl rfl rfl rfl rfl) rfl ?_
          refine DF.op (ids := []) 16 [0,1,2,3,4,10,11,12,13,14] 22 rfl rfl rfl (.no rfl rfl rfl rfl rfl rfl) rfl ?_
          refine DF.op (ids := []) 17 [0,1,2,3,4,10,11,12,13,14,15,16] 22 rfl rfl rfl (.no rfl rfl rfl rfl rfl rfl) rfl ?_
          refine DF.op (ids := []) 18 [0,1,2,3,4,10,11,12,13,14,15,16,17] 22 rfl rfl rfl (.no rfl rfl rfl rfl rfl rfl) rfl ?_
          refine DF.op 19 [0,1,2,3,4,10,11,12,13,14,15,16,17,18] 22 rfl rfl rfl (.free rfl (NOp.of (by exact g_pickF (r := .d _) rfl rfl))) rfl ?_
          refine DF.op 20 [0,1,2,3,4,5,6,7,8,9,10,11,12,13,14] 22 rfl rfl rfl (.free rfl (NOp.of (by exact as1 rfl))) rfl ?_
          refine DF.op 21 [0,1,2,3,4,5,6,7,8,9,10,11,12,13,14,15,16,17,18,19,20] 22 rfl rfl rfl (.free rfl (NOp.of (by exact as1 rfl))) rfl ?_
          refine DF.fin (ps := [(0, 1), (0, 10), (0, 11), (0, 12), (0, 13), (1, 0), (1, 10), (1, 11), (1, 12), (1, 13), (2, 10), (2, 11), (2, 12), (2, 13), (3, 10), (3, 11), (3, 12), (3, 13), (4, 10), (4, 11), (4, 12), (4, 13), (5, 6), (5, 10), (5, 11), (5, 12), (5, 13), (5, 14), (5, 15), (5, 16), (5, 17), (5, 18), (5, 19), (6, 5), (6, 10), (6, 11), (6, 12), (6, 13), (6, 14), (6, 15), (6, 16), (6, 17), (6, 18), (6, 19), (7, 10), (7, 11), (7, 12), (7, 13), (7, 14), (7, 15), (7, 16), (7, 17), (7, 18), (7, 19), (8, 10), (8, 11), (8, 12), (8, 13), (8, 14), (8, 15), (8, 16), (8, 17), (8, 18), (8, 19), (9, 10), (9, 11), (9, 12), (9, 13), (9, 14), (9, 15), (9, 16), (9, 17), (9, 18), (9, 19), (10, 0), (10, 1), (10, 2), (10, 3), (10, 4), (10, 5), (10, 6), (10, 7), (10, 8), (10, 9), (10, 11), (11, 0), (11, 1), (11, 2), (11, 3), (11, 4), (11, 5), (11, 6), (11, 7), (11, 8), (11, 9), (11, 10), (12, 0), (12, 1), (12, 2), (12, 3), (12, 4), (12, 5), (12, 6), (12, 7), (12, 8), (12, 9), (13, 0), (13, 1), (13, 2), (13, 3), (13, 4), (13, 5), (13, 6), (13, 7), (13, 8), (13, 9), (14, 5), (14, 6), (14, 7), (14, 8), (14, 9), (15, 5), (15, 6), (15, 7), (15, 8), (15, 9), (15, 16), (15, 20), (16, 5), (16, 6), (16, 7), (16, 8), (16, 9), (16, 15), (16, 20), (17, 5), (17, 6), (17, 7), (17, 8), (17, 9), (17, 20), (18, 5), (18, 6), (18, 7), (18, 8), (18, 9), (18, 20), (19, 5), (19, 6), (19, 7), (19, 8), (19, 9), (19, 20), (20, 15), (20, 16), (20, 17), (20, 18), (20, 19)]) 22 rfl (by decide +kernel) (by decide +kernel) (by rfl) ?_
          refine th_n ?_
          refine AC.seq ?_
          refine AC.region ?_
          refine AL.p (by exact mv1 rfl) rfl ?_
          refine AL.p (by exact g_not rfl) rfl ?_
          refine AL.p (by exact mv1 rfl) rfl ?_
          refine AL.caseGN rfl rfl (fun h3 => ?_) (fun h3 => ?_)
          · refine AL.yes rfl rfl rfl ?_
            refine AL.p (by exact mv1 rfl) rfl ?_
            refine AL.yes rfl rfl rfl ?_
            refine AL.p (by exact g_not rfl) rfl ?_
            refine AL.yes rfl rfl rfl ?_
            refine AL.p (by exact mv1 rfl) rfl ?_
            refine AL.not rfl rfl rfl rfl rfl ?_
            refine AL.not rfl rfl rfl rfl rfl ?_
            refine AL.yes rfl rfl rfl ?_
            refine AL.p (by exact g_pickT (r := .d _) rfl rfl) rfl ?_
            refine AL.p (by exact g_pickT (r := .d _) rfl rfl) rfl ?_
            refine AL.nil ?_
            refine th_n ?_
            refine AC.condT rfl ?_
            refine AC.seq ?_
            refine AC.region ?_
            refine AL.p (by exact as1 rfl) rfl ?_
            refine AL.nil ?_
            refine th_n ?_
            refine AC.ret ?_
            refine ib_r ?_
            refine th_r ?_
            refine th_r ?_
            refine ib_r ?_
            refine th_r ?_
            refine bq_r ?_
            have hb : nameC k m[k] = false := nameC_no (by simp_all <;> omega)
            exact ret1 rfl (by rw [nameB_no hk1 (by rw [List.getD_eq_getElem?_getD, List.getElem?_eq_getElem hk1]; exact hb)])
          · refine AL.not rfl rfl rfl rfl rfl ?_
            refine AL.not rfl rfl rfl rfl rfl ?_
            refine AL.not rfl rfl rfl rfl rfl ?_
            refine AL.notU rfl rfl rfl ?_
            refine AL.notU rfl rfl rfl ?_
            refine AL.not rfl rfl rfl rfl rfl ?_
            refine AL.p (by exact g_pickF (r := .d _) rfl rfl) rfl ?_
            refine AL.nil ?_
            refine th_n ?_
            refine AC.condF rfl ?_
            refine AC.skip ?_
            refine ib_n ?_
            refine th_n ?_
            refine AC.region ?_
            refine AL.p (by exact mv1 rfl) rfl ?_
            refine AL.p (by exact g_arith rfl rfl rfl (by exact wrap_i64 (by omega))) rfl ?_
            refine AL.p (by exact as1 rfl) rfl ?_
            refine AL.nil ?_
            refine th_n ?_
            have hb : nameC k m[k] = true := nameC_iff.2 (by simp_all <;> omega)
            exact ⟨k + 1, ⟨by omega, fun j hj hj2 => by rcases Nat.lt_succ_iff_lt_or_eq.1 hj2 with h | rfl; exact hall j hj h; exact hb⟩, by omega, Weak.ren _ [] hC rfl (by repeat (first | exact True.intro | refine And.intro ?_ ?_ | exact DLead.same)) (by repeat (exact True.intro)) rfl rfl rfl⟩
      · refine DF.op (ids := []) 5 [0,1,2,3,4] 22 rfl rfl rfl (.no rfl rfl rfl rfl rfl rfl) rfl ?_
        refine DF.op (ids := []) 6 [0,1,2,3,4] 22 rfl rfl rfl (.no rfl rfl rfl rfl rfl rfl) rfl ?_
        refine DF.op (ids := []) 7 [0,1,2,3,4,5,6] 22 rfl rfl rfl (.no rfl rfl rfl rfl rfl rfl) rfl ?_
        refine DF.op (ids := []) 8 [0,1,2,3,4,5,6,7] 22 rfl rfl rfl (.no rfl rfl rfl rfl rfl rfl) rfl ?_
        refine DF.op 9 [0,1,2,3,4,5,6,7,8] 22 rfl rfl rfl (.free rfl (NOp.of (by exact g_pickF (r := .d _) rfl rfl))) rfl ?_
        refine DF.op 10 [] 22 rfl rfl rfl (.free rfl (NOp.of (by exact mv1 rfl))) rfl ?_
        refine DF.op 11 [] 22 rfl rfl rfl (.free rfl (NOp.of (by exact mv1 rfl))) rfl ?_
        refine DF.op 12 [10,11] 22 rfl rfl rfl (.free rfl (NOp.of (by exact g_index rfl rfl rfl (by rfl) (by assumption)))) rfl ?_
        refine DF.op 13 [10,11,12] 22 rfl rfl rfl (.free rfl (NOp.of (by exact g_cmp rfl rfl rfl))) rfl ?_
        refine DF.op 14 [0,1,2,3,4,10,11,12,13] 22 rfl rfl rfl (.free rfl (NOp.of (by exact mv1 rfl))) rfl ?_
        refine DF.caseD 14 rfl (fun h2 => ?_) (fun h2 => ?_)
        · refine DF.op 15 [0,1,2,3,4,10,11,12,13,14] 22 rfl rfl rfl (.yes rfl rfl rfl rfl (NOp.of (by exact mv1 rfl))) rfl ?_
          refine DF.op 16 [0,1,2,3,4,10,11,12,13,14] 22 rfl rfl rfl (.yes rfl rfl rfl rfl (NOp.of (by exact mv1 rfl))) rfl ?_
          refine DF.op 17 [0,1,2,3,4,10,11,12,13,14,15,16] 22 rfl rfl rfl (.yes rfl rfl rfl rfl (NOp.of (by exact g_index rfl rfl rfl (by rfl) (by assumption)))) rfl ?_
          refine DF.op 18 [0,1,2,3,4,10,11,12,13,14,15,16,17] 22 rfl rfl rfl (.yes rfl rfl rfl rfl (NOp.of (by exact g_cmp rfl rfl rfl))) rfl ?_
          refine DF.op 19 [0,1,2,3,4,10,11,12,13,14,15,16,17,18] 22 rfl rfl rfl (.free rfl (NOp.of (by exact g_pickT (r := .d _) rfl rfl))) rfl ?_
          refine DF.op 20 [0,1,2,3,4,5,6,7,8,9,10,11,12,13,14] 22 rfl rfl rfl (.free rfl (NOp.of (by exact as1 rfl))) rfl ?_
          refine DF.op 21 [0,1,2,3,4,5,6,7,8,9,10,11,12,13,14,15,16,17,18,19,20] 22 rfl rfl rfl (.free rfl (NOp.of (by exact as1 rfl))) rfl ?_
          refine DF.fin (ps := [(0, 1), (0, 10), (0, 11), (0, 12), (0, 13), (1, 0), (1, 10), (1, 11), (1, 12), (1, 13), (2, 10), (2, 11), (2, 12), (2, 13), (3, 10), (3, 11), (3, 12), (3, 13), (4, 10), (4, 11), (4, 12), (4, 13), (5, 6), (5, 10), (5, 11), (5, 12), (5, 13), (5, 14), (5, 15), (5, 16), (5, 17), (5, 18), (5, 19), (6, 5), (6, 10), (6, 11), (6, 12), (6, 13), (6, 14), (6, 15), (6, 16), (6, 17), (6, 18), (6, 19), (7, 10), (7, 11), (7, 12), (7, 13), (7, 14), (7, 15), (7, 16), (7, 17), (7, 18), (7, 19), (8, 10), (8, 11), (8, 12), (8, 13), (8, 14), (8, 15), (8, 16), (8, 17), (8, 18), (8, 19), (9, 10), (9, 11), (9, 12), (9, 13), (9, 14), (9, 15), (9, 16), (9, 17), (9, 18), (9, 19), (10, 0), (10, 1), (10, 2), (10, 3), (10, 4), (10, 5), (10, 6), (10, 7), (10, 8), (10, 9), (10, 11), (11, 0), (11, 1), (11, 2), (11, 3), (11, 4), (11, 5), (11, 6), (11, 7), (11, 8), (11, 9), (11, 10), (12, 0), (12, 1), (12, 2), (12, 3), (12, 4), (12, 5), (12, 6), (12, 7), (12, 8), (12, 9), (13, 0), (13, 1), (13, 2), (13, 3), (13, 4), (13, 5), (13, 6), (13, 7), (13, 8), (13, 9), (14, 5), (14, 6), (14, 7), (14, 8), (14, 9), (15, 5), (15, 6), (15, 7), (15, 8), (15, 9), (15, 16), (15, 20), (16, 5), (16, 6), (16, 7), (16, 8), (16, 9), (16, 15), (16, 20), (17, 5), (17, 6), (17, 7), (17, 8), (17, 9), (17, 20), (18, 5), (18, 6), (18, 7), (18, 8), (18, 9), (18, 20), (19, 5), (19, 6), (19, 7), (19, 8), (19, 9), (19, 20), (20, 15), (20, 16), (20, 17), (20, 18), (20, 19)]) 22 rfl (by decide +kernel) (by decide +kernel) (by rfl) ?_
          refine th_n ?_
          refine AC.seq ?_
          refine AC.region ?_
          refine AL.p (by exact mv1 rfl) rfl ?_
          refine AL.p (by exact g_not rfl) rfl ?_
          refine AL.p (by exact mv1 rfl) rfl ?_
          refine AL.yes rfl rfl rfl ?_
          refine AL.p (by exact mv1 rfl) rfl ?_
          refine AL.yes rfl rfl rfl ?_
          refine AL.p (by exact g_not rfl) rfl ?_
          refine AL.yes rfl rfl rfl ?_
          refine AL.p (by exact mv1 rfl) rfl ?_
          refine AL.caseGN rfl rfl (fun h3 => ?_) (fun h3 => ?_)
          · refine AL.not rfl rfl rfl rfl rfl ?_
            refine AL.not rfl rfl rfl rfl rfl ?_
            refine AL.yes rfl rfl rfl ?_
            refine AL.p (by exact g_pickT (r := .d _) rfl rfl) rfl ?_
            refine AL.p (by exact g_pickT (r := .d _) rfl rfl) rfl ?_
            refine AL.nil ?_
            refine th_n ?_
            refine AC.condT rfl ?_
            refine AC.seq ?_
            refine AC.region ?_
            refine AL.p (by exact as1 rfl) rfl ?_
            refine AL.nil ?_
            refine th_n ?_
            refine AC.ret ?_
            refine ib_r ?_
            refine th_r ?_
            refine th_r ?_
            refine ib_r ?_
            refine th_r ?_
            refine bq_r ?_
            have hb : nameC k m[k] = false := nameC_no (by simp_all <;> omega)
            exact ret1 rfl (by rw [nameB_no hk1 (by rw [List.getD_eq_getElem?_getD, List.getElem?_eq_getElem hk1]; exact hb)])
          · refine AL.yes rfl rfl rfl ?_
            refine AL.p (by exact mv1 rfl) rfl ?_
            refine AL.yes rfl rfl rfl ?_
            refine AL.p (by exact g_cmp rfl rfl rfl) rfl ?_
            refine AL.yes rfl rfl rfl ?_
            refine AL.p (by exact g_pickF (r := .d _) rfl rfl) rfl ?_
            refine AL.p (by exact g_pickT (r := .d _) rfl rfl) rfl ?_
            refine AL.nil ?_
            refine th_n ?_
            refine AC.condD rfl (fun h4 => ?_) (fun h4 => ?_)
            · refine AC.seq ?_
              refine AC.region ?_
              refine AL.p (by exact as1 rfl) rfl ?_
              refine AL.nil ?_
              refine th_n ?_
              refine AC.ret ?_
              refine ib_r ?_
              refine th_r ?_
              refine th_r ?_
              refine ib_r ?_
              refine th_r ?_
              refine bq_r ?_
              have hb : nameC k m[k] = false := nameC_no (by simp_all <;> omega)
              exact ret1 rfl (by rw [nameB_no hk1 (by rw [List.getD_eq_getElem?_getD, List.getElem?_eq_getElem hk1]; exact hb)])
            · refine AC.skip ?_
              refine ib_n ?_
              refine th_n ?_
              refine AC.region ?_
              refine AL.p (by exact mv1 rfl) rfl ?_
              refine AL.p (by exact g_arith rfl rfl rfl (by exact wrap_i64 (by omega))) rfl ?_
              refine AL.p (by exact as1 rfl) rfl ?_
              refine AL.nil ?_
              refine th_n ?_
              have hb : nameC k m[k] = true := nameC_iff.2 (by simp_all <;> omega)
              exact ⟨k + 1, ⟨by omega, fun j hj hj2 => by rcases Nat.lt_succ_iff_lt_or_eq.1 hj2 with h | rfl; exact hall j hj h; exact hb⟩, by omega, Weak.ren _ [] hC rfl (by repeat (first | exact True.intro | refine And.intro ?_ ?_ | exact DLead.same)) (by repeat (exact True.intro)) rfl rfl rfl⟩
        · refine DF.op (ids := []) 15 [0,1,2,3,4,10,11,12,13,14] 22 rfl rfl rfl (.no rfl rfl rfl rfl rfl rfl) rfl ?_
          refine DF.op (ids := []) 16 [0,1,2,3,4,10,11,12,13,14] 22 rfl rfl rfl (.no rfl rfl rfl rfl rfl rfl) rfl ?_
          refine DF.op (ids := []) 17 [0,1,2,3,4,10,11,12,13,14,15,16] 22 rfl rfl rfl (.no rfl rfl rfl rfl rfl rfl) rfl ?_
          refine DF.op (ids := []) 18 [0,1,2,3,4,10,11,12,13,14,15,16,17] 22 rfl rfl rfl (.no rfl rfl rfl rfl rfl rfl) rfl ?_
          refine DF.op 19 [0,1,2,3,4,10,11,12,13,14,15,16,17,18] 22 rfl rfl rfl (.free rfl (NOp.of (by exact g_pickF (r := .d _) rfl rfl))) rfl ?_
          refine DF.op 20 [0,1,2,3,4,5,6,7,8,9,10,11,12,13,14] 22 rfl rfl rfl (.free rfl (NOp.of (by exact as1 rfl))) rfl ?_
          refine DF.op 21 [0,1,2,3,4,5,6,7,8,9,10,11,12,13,14,15,16,17,18,19,20] 22 rfl rfl rfl (.free rfl (NOp.of (by exact as1 rfl))) rfl ?_
          refine DF.fin (ps := [(0, 1), (0, 10), (0, 11), (0, 12), (0, 13), (1, 0), (1, 10), (1, 11), (1, 12), (1, 13), (2, 10), (2, 11), (2, 12), (2, 13), (3, 10), (3, 11), (3, 12), (3, 13), (4, 10), (4, 11), (4, 12), (4, 13), (5, 6), (5, 10), (5, 11), (5, 12), (5, 13), (5, 14), (5, 15), (5, 16), (5, 17), (5, 18), (5, 19), (6, 5), (6, 10), (6, 11), (6, 12), (6, 13), (6, 14), (6, 15), (6, 16), (6, 17), (6, 18), (6, 19), (7, 10), (7, 11), (7, 12), (7, 13), (7, 14), (7, 15), (7, 16), (7, 17), (7, 18), (7, 19), (8, 10), (8, 11), (8, 12), (8, 13), (8, 14), (8, 15), (8, 16), (8, 17), (8, 18), (8, 19), (9, 10), (9, 11), (9, 12), (9, 13), (9, 14), (9, 15), (9, 16), (9, 17), (9, 18), (9, 19), (10, 0), (10, 1), (10, 2), (10, 3), (10, 4), (10, 5), (10, 6), (10, 7), (10, 8), (10, 9), (10, 11), (11, 0), (11, 1), (11, 2), (11, 3), (11, 4), (11, 5), (11, 6), (11, 7), (11, 8), (11, 9), (11, 10), (12, 0), (12, 1), (12, 2), (12, 3), (12, 4), (12, 5), (12, 6), (12, 7), (12, 8), (12, 9), (13, 0), (13, 1), (13, 2), (13, 3), (13, 4), (13, 5), (13, 6), (13, 7), (13, 8), (13, 9), (14, 5), (14, 6), (14, 7), (14, 8), (14, 9), (15, 5), (15, 6), (15, 7), (15, 8), (15, 9), (15, 16), (15, 20), (16, 5), (16, 6), (16, 7), (16, 8), (16, 9), (16, 15), (16, 20), (17, 5), (17, 6), (17, 7), (17, 8), (17, 9), (17, 20), (18, 5), (18, 6), (18, 7), (18, 8), (18, 9), (18, 20), (19, 5), (19, 6), (19, 7), (19, 8), (19, 9), (19, 20), (20, 15), (20, 16), (20, 17), (20, 18), (20, 19)]) 22 rfl (by decide +kernel) (by decide +kernel) (by rfl) ?_
          refine th_n ?_
          refine AC.seq ?_
          refine AC.region ?_
          refine AL.p (by exact mv1 rfl) rfl ?_
          refine AL.p (by exact g_not rfl) rfl ?_
          refine AL.p (by exact mv1 rfl) rfl ?_
          refine AL.yes rfl rfl rfl ?_
          refine AL.p (by exact mv1 rfl) rfl ?_
          refine AL.yes rfl rfl rfl ?_
          refine AL.p (by exact g_not rfl) rfl ?_
          refine AL.yes rfl rfl rfl ?_
          refine AL.p (by exact mv1 rfl) rfl ?_
          refine AL.not rfl rfl rfl rfl rfl ?_
          refine AL.not rfl rfl rfl rfl rfl ?_
          refine AL.yes rfl rfl rfl ?_
          refine AL.p (by exact g_pickT (r := .d _) rfl rfl) rfl ?_
          refine AL.p (by exact g_pickT (r := .d _) rfl rfl) rfl ?_
          refine AL.nil ?_
          refine th_n ?_
          refine AC.condT rfl ?_
          refine AC.seq ?_
          refine AC.region ?_
          refine AL.p (by exact as1 rfl) rfl ?_
          refine AL.nil ?_
          refine th_n ?_
          refine AC.ret ?_
          refine ib_r ?_
          refine th_r ?_
          refine th_r ?_
          refine ib_r ?_
          refine th_r ?_
          refine bq_r ?_
          have hb : nameC k m[k] = false := nameC_no (by simp_all <;> omega)
          exact ret1 rfl (by rw [nameB_no hk1 (by rw [List.getD_eq_getElem?_getD, List.getElem?_eq_getElem hk1]; exact hb)])
    · refine AC.exit ?_
      refine th_e ?_
      refine th_e ?_
      refine ib_y ?_
      refine th_n ?_
      refine AC.seq ?_
      refine AC.region ?_
      refine AL.p (by exact mv1 rfl) rfl ?_
      refine AL.p (by exact g_len_str rfl rfl rfl) rfl ?_
      refine AL.q (by exact h_pure en_within rfl rfl (by repeat (first | exact rfl | exact DLead.same | refine ⟨_, _, rfl, ?_, ?_⟩)) (within_spec _ _ _) rfl) rfl ?_
      refine AL.p (by exact as1 rfl) rfl ?_
      refine AL.nil ?_
      refine th_n ?_
      refine AC.ret ?_
      refine bq_r ?_
      exact ret1 rfl (by rw [nameB_yes (fun j hj => by rw [List.getD_eq_getElem?_getD, List.getElem?_eq_getElem hj]; exact hall j hj (by omega)), hsz]; rfl)
theorem en_isName : Enters Try.prog 58 := enters_of Try.func58 rfl rfl
set_option maxHeartbeats 1000000 in
theorem indexSig_spec (l : List Sig) (hl : l.length ≤ 2000000) (g : FuncId) (ds : List DV) (hen : Enters Try.prog g) (p : Sig → Bool) (hp : ∀ t, t ∈ l → ASpec Try.prog g (sigA t :: ds.map .d) [] (Pure1 (aT (p t)))) : ASpec Try.prog 60 [.d (vSigs l), .clo g (ds.map .d)] [] (Pure1 (aI (findI p l))) := by
  refine ASpec.of Try.func60 rfl rfl fun C hC => ?_
  refine AC.seq ?_
  refine AC.region ?_
  refine AL.p (by exact as1 rfl) rfl ?_
  refine AL.nil ?_
  refine th_n ?_
  refine AC.seq ?_
  refine AC.seq ?_
  refine AC.region ?_
  refine AL.p (by exact mv1 rfl) rfl ?_
  refine AL.p (by exact g_len_view rfl rfl (by exact List.length_map _)) rfl ?_
  refine AL.p (by exact mv1 rfl) rfl ?_
  refine AL.nil ?_
  refine th_n ?_
  refine AC.block ?_
  refine AC.loop (ι := Nat) (fun k => ⟨19, 0, [(0, .d (vSigs l)), (1, .clo g (ds.map .d)), (6, .d (vSigs l)), (7, aI l.length), (8, aI k)], []⟩) (fun k => k ≤ l.length ∧ ∀ j (hj : j < l.length), j < k → p l[j] = false) (fun k => l.length - k) (0) ?_ (⟨Nat.zero_le _, fun j _ hj => by omega⟩) ?_
  · refine Weak.ren _ [] hC rfl ⟨.same, ⟨_, rfl, leadsL_data _ ds⟩, ?_⟩ trivial rfl rfl rfl; repeat (first | exact True.intro | refine And.intro ?_ ?_ | exact DLead.same)
  · intro k ⟨hk, hall⟩
    refine AC.seq ?_
    refine AC.region ?_
    refine AL.p (by exact g_cmp rfl rfl rfl) rfl ?_
    refine AL.nil ?_
    refine th_n ?_
    refine AC.seq ?_
    refine AC.condD rfl (fun h0 => ?_) (fun h0 => ?_)
    · refine AC.skip ?_
      refine th_n ?_
      refine AC.seq ?_
      refine AC.block ?_
      refine AC.seq ?_
      have hk1 : k < l.length := by omega
      have hget := sigsL_get hk1
      refine AC.region ?_
      refine AL.p (by exact mv1 rfl) rfl ?_
      refine AL.p (by exact as1 rfl) rfl ?_
      refine AL.nil ?_
      refine th_n ?_
      refine AC.seq ?_
      refine AC.region ?_
      refine AL.p (by exact mv6 rfl) rfl ?_
      refine AL.p (by exact mv1 rfl) rfl ?_
      refine AL.p (by exact mv1 rfl) rfl ?_
      refine AL.p (by exact g_ia_view rfl rfl rfl rfl rfl (by rfl) (by assumption)) rfl ?_
      refine AL.p (by exact g_load_refN rfl rfl rfl rfl) rfl ?_
      refine AL.q (by exact h_pure hen rfl rfl (by exact ⟨_, _, rfl, ⟨_, rfl, _, _, rfl, .same, _, _, rfl, .same, rfl⟩, leadsL_data _ ds⟩) (hp l[k] (List.getElem_mem hk1)) rfl) rfl ?_
      refine AL.nil ?_
      refine th_n ?_
      refine AC.condB rfl (fun h1 => ?_) (fun h1 => ?_)
      · refine AC.seq ?_
        refine AC.region ?_
        refine AL.p (by exact mv1 rfl) rfl ?_
        refine AL.p (by exact as1 rfl) rfl ?_
        refine AL.nil ?_
        refine th_n ?_
        refine AC.ret ?_
        refine ib_r ?_
        refine th_r ?_
        refine th_r ?_
        refine ib_r ?_
        refine th_r ?_
        refine bq_r ?_
        exact ret1 rfl (by rw [findI_at hk1 h1 (fun j hj => hall j (by omega) hj)])
      · refine AC.skip ?_
        refine ib_n ?_
        refine th_n ?_
        refine AC.region ?_
        refine AL.p (by exact g_arith rfl rfl rfl (by exact wrap_i64 (by omega))) rfl ?_
        refine AL.p (by exact mv1 rfl) rfl ?_
        refine AL.nil ?_
        refine th_n ?_
        exact ⟨k + 1, ⟨by omega, fun j hj hj2 => by rcases Nat.lt_succ_iff_lt_or_eq.1 hj2 with h | rfl; exact hall j hj h; exact h1⟩, by omega, Weak.ren _ [] hC rfl ⟨.same, ⟨_, rfl, leadsL_data _ ds⟩, by repeat (first | exact True.intro | refine And.intro ?_ ?_ | exact DLead.same)⟩ trivial rfl rfl rfl⟩
    · refine AC.exit ?_
      refine th_e ?_
      refine th_e ?_
      refine ib_y ?_
      refine th_n ?_
      refine AC.seq ?_
      refine AC.region ?_
      refine AL.p (by exact as1 rfl) rfl ?_
      refine AL.nil ?_
      refine th_n ?_
      refine AC.ret ?_
      refine bq_r ?_
      exact ret1 rfl (by rw [findI_none (fun j hj => hall j hj (by omega))])
theorem en_indexSig : Enters Try.prog 60 := enters_of Try.func60 rfl rfl
set_option maxHeartbeats 1000000 in
theorem containsSig_spec (l : List Sig) (hl : l.length ≤ 2000000) (g : FuncId) (ds : List DV) (hen : Enters Try.prog g) (p : Sig → Bool) (hp : ∀ t, t ∈ l → ASpec Try.prog g (sigA t :: ds.map .d) [] (Pure1 (aT (p t)))) : ASpec Try.prog 47 [.d (vSigs l), .clo g (ds.map .d)] [] (Pure1 (aT (l.any p))) := by
  refine ASpec.of Try.func47 rfl rfl fun C hC => ?_
  refine AC.seq ?_
  refine AC.region ?_
  refine AL.p (by exact as1 rfl) rfl ?_
  refine AL.nil ?_
  refine th_n ?_
  refine AC.seq ?_
  refine AC.region ?_
  refine AL.p (by exact mv1 rfl) rfl ?_
  refine AL.p (by exact mv6 rfl) rfl ?_
  refine AL.q (by exact h_pure en_indexSig rfl rfl (by exact ⟨_, _, rfl, .same, _, _, rfl, ⟨_, rfl, leadsL_data _ ds⟩, rfl⟩) (indexSig_spec l hl g ds hen p hp) rfl) rfl ?_
  refine AL.p (by exact g_cmp rfl rfl rfl) rfl ?_
  refine AL.p (by exact as1 rfl) rfl ?_
  refine AL.nil ?_
  refine th_n ?_
  refine AC.ret ?_
  refine bq_r ?_
  exact ret1 rfl (by rw [findI_any])
theorem en_containsSig : Enters Try.prog 47 := enters_of Try.func47 rfl rfl
theorem areSignals1_spec (x s : Sig) : ASpec Try.prog 59 [sigA x, .d (.ref (sigD s))] [] (Pure1 (aT (decide (x.name = s.name)))) := by
  refine ASpec.of Try.func59 rfl rfl fun C hC => ?_
  refine AC.seq ?_
  refine AC.region ?_
  refine AL.q (by exact h_boxF rfl rfl) rfl ?_
  refine AL.p (by exact as1 rfl) rfl ?_
  refine AL.nil ?_
  refine th_n ?_
  refine AC.seq ?_
  refine AC.region ?_
  refine AL.p (by exact g_fa_ref rfl rfl rfl rfl rfl rfl) rfl ?_
  refine AL.p (by exact g_load_ref rfl rfl rfl) rfl ?_
  refine AL.p (by exact g_fa_ref rfl rfl rfl rfl rfl rfl) rfl ?_
  refine AL.p (by exact g_load_ref rfl rfl rfl) rfl ?_
  refine AL.p (by exact g_scmp rfl rfl rfl) rfl ?_
  refine AL.p (by exact as1 rfl) rfl ?_
  refine AL.nil ?_
  refine th_n ?_
  refine AC.ret ?_
  refine bq_r ?_
  exact ret1 rfl (by simp only [bstr_iff])
theorem en_areSignals1 : Enters Try.prog 59 := enters_of Try.func59 rfl rfl
theorem machCodes1_spec (x : Sig) : ASpec Try.prog 48 [sigA x] [] (Pure1 (aT (decide (x.kind = 3)))) := by
  refine ASpec.of Try.func48 rfl rfl fun C hC => ?_
  refine AC.seq ?_
  refine AC.region ?_
  refine AL.q (by exact h_boxF rfl rfl) rfl ?_
  refine AL.p (by exact as1 rfl) rfl ?_
  refine AL.nil ?_
  refine th_n ?_
  refine AC.seq ?_
  refine AC.region ?_
  refine AL.p (by exact g_fa_ref rfl rfl rfl rfl rfl rfl) rfl ?_
  refine AL.p (by exact g_load_ref rfl rfl rfl) rfl ?_
  refine AL.p (by exact g_cmp rfl rfl rfl) rfl ?_
  refine AL.p (by exact as1 rfl) rfl ?_
  refine AL.nil ?_
  refine th_n ?_
  refine AC.ret ?_
  refine bq_r ?_
  exact ret1 rfl rfl
theorem en_machCodes1 : Enters Try.prog 48 := enters_of Try.func48 rfl rfl
set_option maxHeartbeats 1000000 in
theorem areSignals_spec (l : List Sig) (hl : l.length ≤ 1048576) (hn : ∀ t, t ∈ l → t.name.length ≤ 1048576) : ASpec Try.prog 45 [.d (vSigs l)] [] (Pure1 (aT (sigsB l))) := by
  refine ASpec.of Try.func45 rfl rfl fun C hC => ?_
  refine AC.seq ?_
  refine AC.region ?_
  refine AL.p (by exact as1 rfl) rfl ?_
  refine AL.nil ?_
  refine th_n ?_
  refine AC.seq ?_
  refine AC.seq ?_
  refine AC.region ?_
  refine AL.p (by exact mv1 rfl) rfl ?_
  refine AL.p (by exact g_len_view rfl rfl (by exact List.length_map _)) rfl ?_
  refine AL.p (by exact mv1 rfl) rfl ?_
  refine AL.nil ?_
  refine th_n ?_
  refine AC.block ?_
  refine AC.loop (ι := Nat) (fun k => ⟨33, 0, [(0, .d (vSigs l)), (5, .d (vSigs l)), (6, aI l.length), (7, aI k)], []⟩) (fun k => k ≤ l.length ∧ ∀ j (hj : j < l.length), j < k → sigK l j = true) (fun k => l.length - k) (0) ?_ (⟨Nat.zero_le _, fun j _ hj => by omega⟩) ?_
  · refine Weak.ren _ [] hC rfl ?_ ?_ rfl rfl rfl <;> repeat (first | exact True.intro | refine And.intro ?_ ?_ | exact DLead.same)
  · intro k ⟨hk, hall⟩
    refine AC.seq ?_
    refine AC.region ?_
    refine AL.p (by exact g_cmp rfl rfl rfl) rfl ?_
    refine AL.nil ?_
    refine th_n ?_
    refine AC.seq ?_
    refine AC.condD rfl (fun h0 => ?_) (fun h0 => ?_)
    · refine AC.skip ?_
      refine th_n ?_
      refine AC.seq ?_
      refine AC.block ?_
      refine AC.seq ?_
      have hk1 : k < l.length := by omega
      have hget := sigsL_get hk1
      have hnk := hn _ (List.getElem_mem hk1)
      refine AC.region ?_
      refine AL.p (by exact mv1 rfl) rfl ?_
      refine AL.p (by exact g_ia_view rfl rfl rfl rfl rfl (by rfl) (by assumption)) rfl ?_
      refine AL.p (by exact g_load_refN rfl rfl rfl rfl) rfl ?_
      refine AL.q (by exact h_alloc rfl) rfl ?_
      refine AL.p (by exact as1 rfl) rfl ?_
      refine AL.q (by exact h_store rfl rfl rfl rfl rfl rfl) rfl ?_
      refine AL.nil ?_
      refine th_n ?_
      refine AC.seq ?_
      refine AC.weak (Weak.freezeRef (ds := sigD l[k]) 4 rfl rfl) ?_
      have hkl : k ≤ (sigsL l).length := by rw [sigsL_len]; exact hk
      have htk : ((sigsL l).take k).drop 0 = sigsL (l.take k) := by simp [List.map_take]
      have hN := isName_spec l[k].name (by omega)
      have hW := within_spec l[k].kind 1 3
      have hS := containsSig_spec (l.take k) (by rw [List.length_take]; omega) 59 [.ref (sigD l[k])] en_areSignals1 (fun y => decide (y.name = l[k].name)) (fun t _ => areSignals1_spec t l[k])
      have hK : sigK l k = (nameB l[k].name && ((decide ((1 : Int) ≤ l[k].kind) && decide (l[k].kind ≤ 3)) && !(l.take k).any (fun y => decide (y.name = l[k].name)))) := by rw [sigK, sAt_nat hk1]; rfl
      obtain ⟨b1, hb1⟩ : ∃ b, b = nameB l[k].name := ⟨_, rfl⟩
      obtain ⟨b2, hb2⟩ : ∃ b, b = (decide ((1 : Int) ≤ l[k].kind) && decide (l[k].kind ≤ 3)) := ⟨_, rfl⟩
      obtain ⟨b3, hb3⟩ : ∃ b, b = (l.take k).any (fun y => decide (y.name = l[k].name)) := ⟨_, rfl⟩
      rw [← hb1] at hN hK
      rw [← hb2] at hW hK
      rw [← hb3] at hS hK
      clear hb1 hb2 hb3
      refine AC.region ?_
      refine AL.p (by exact g_fa_ref rfl rfl rfl rfl rfl rfl) rfl ?_
      refine AL.p (by exact g_load_ref rfl rfl rfl) rfl ?_
      refine AL.q (by exact h_pure en_isName rfl rfl (by repeat (first | exact rfl | exact DLead.same | refine ⟨_, _, rfl, ?_, ?_⟩)) hN rfl) rfl ?_
      refine AL.p (by exact g_not rfl) rfl ?_
      refine AL.p (by exact mv1 rfl) rfl ?_
      refine AL.caseGB rfl rfl (fun h1 => ?_) (fun h1 => ?_)
      · refine AL.not rfl rfl rfl rfl rfl ?_
        refine AL.not rfl rfl rfl rfl rfl ?_
        refine AL.not rfl rfl rfl rfl rfl ?_
        refine AL.not rfl rfl rfl rfl rfl ?_
        refine AL.p (by exact g_pickT (r := .d _) rfl rfl) rfl ?_
        refine AL.p (by exact mv1 rfl) rfl ?_
        refine AL.not rfl rfl rfl rfl rfl ?_
        refine AL.not rfl rfl rfl rfl rfl ?_
        refine AL.not rfl rfl rfl rfl rfl ?_
        refine AL.not rfl rfl rfl rfl rfl ?_
        refine AL.not rfl rfl rfl rfl rfl ?_
        refine AL.p (by exact g_pickT (r := .d _) rfl rfl) rfl ?_
        refine AL.nil ?_
        refine th_n ?_
        refine AC.condT rfl ?_
        refine AC.seq ?_
        refine AC.region ?_
        refine AL.p (by exact as1 rfl) rfl ?_
        refine AL.nil ?_
        refine th_n ?_
        refine AC.ret ?_
        refine ib_r ?_
        refine th_r ?_
        refine th_r ?_
        refine ib_r ?_
        refine th_r ?_
        refine bq_r ?_
        exact ret1 rfl (by rw [sigsB_no hk1 (by rw [hK]; simp_all)])
      · refine AL.yes rfl rfl rfl ?_
        refine AL.p (by exact g_fa_ref rfl rfl rfl rfl rfl rfl) rfl ?_
        refine AL.yes rfl rfl rfl ?_
        refine AL.p (by exact g_load_ref rfl rfl rfl) rfl ?_
        refine AL.yes rfl rfl rfl ?_
        refine AL.q (by exact h_pure en_within rfl rfl (by repeat (first | exact rfl | exact DLead.same | refine ⟨_, _, rfl, ?_, ?_⟩)) hW rfl) rfl ?_
        refine AL.yes rfl rfl rfl ?_
        refine AL.p (by exact g_not rfl) rfl ?_
        refine AL.p (by exact g_pickF (r := .d _) rfl rfl) rfl ?_
        refine AL.p (by exact mv1 rfl) rfl ?_
        refine AL.caseGB rfl rfl (fun h2 => ?_) (fun h2 => ?_)
        · refine AL.not rfl rfl rfl rfl rfl ?_
          refine AL.not rfl rfl rfl rfl rfl ?_
          refine AL.not rfl rfl rfl rfl rfl ?_
          refine AL.not rfl rfl rfl rfl rfl ?_
          refine AL.not rfl rfl rfl rfl rfl ?_
          refine AL.p (by exact g_pickT (r := .d _) rfl rfl) rfl ?_
          refine AL.nil ?_
          refine th_n ?_
          refine AC.condT rfl ?_
          refine AC.seq ?_
          refine AC.region ?_
          refine AL.p (by exact as1 rfl) rfl ?_
          refine AL.nil ?_
          refine th_n ?_
          refine AC.ret ?_
          refine ib_r ?_
          refine th_r ?_
          refine th_r ?_
          refine ib_r ?_
          refine th_r ?_
          refine bq_r ?_
          exact ret1 rfl (by rw [sigsB_no hk1 (by rw [hK]; simp_all)])
        · refine AL.yes rfl rfl rfl ?_
          refine AL.p (by exact mv1 rfl) rfl ?_
          refine AL.yes rfl rfl rfl ?_
          refine AL.p (by exact mv1 rfl) rfl ?_
          refine AL.yes rfl rfl rfl ?_
          refine AL.p (by exact g_slice_view (r := sigsL (l.take k)) (l := 0) (h := k) rfl rfl rfl rfl .none (.some rfl rfl) (Nat.zero_le _) hkl htk) rfl ?_
          refine AL.yes rfl rfl rfl ?_
          refine AL.p (by exact g_fn rfl) rfl ?_
          refine AL.yes rfl rfl rfl ?_
          refine AL.q (by exact h_pure en_containsSig rfl rfl (by exact ⟨_, _, rfl, .same, _, _, rfl, ⟨_, rfl, leadsL_data _ _⟩, rfl⟩) hS rfl) rfl ?_
          refine AL.p (by exact g_pickF (r := .d _) rfl rfl) rfl ?_
          refine AL.nil ?_
          refine th_n ?_
          refine AC.condB rfl (fun h3 => ?_) (fun h3 => ?_)
          · refine AC.seq ?_
            refine AC.region ?_
            refine AL.p (by exact as1 rfl) rfl ?_
            refine AL.nil ?_
            refine th_n ?_
            refine AC.ret ?_
            refine ib_r ?_
            refine th_r ?_
            refine th_r ?_
            refine ib_r ?_
            refine th_r ?_
            refine bq_r ?_
            exact ret1 rfl (by rw [sigsB_no hk1 (by rw [hK]; simp_all)])
          · refine AC.skip ?_
            refine ib_n ?_
            refine th_n ?_
            refine AC.region ?_
            refine AL.p (by exact g_arith rfl rfl rfl (by exact wrap_i64 (by omega))) rfl ?_
            refine AL.p (by exact mv1 rfl) rfl ?_
            refine AL.nil ?_
            refine th_n ?_
            exact ⟨k + 1, ⟨by omega, fun j hj hj2 => by rcases Nat.lt_succ_iff_lt_or_eq.1 hj2 with h | rfl; exact hall j hj h; rw [hK]; simp_all⟩, by omega, Weak.ren _ [] hC rfl (by repeat (first | exact True.intro | refine And.intro ?_ ?_ | exact DLead.same)) (by repeat (exact True.intro)) rfl rfl rfl⟩
    · refine AC.exit ?_
      refine th_e ?_
      refine th_e ?_
      refine ib_y ?_
      refine th_n ?_
      refine AC.seq ?_
      refine AC.region ?_
      refine AL.p (by exact mv1 rfl) rfl ?_
      refine AL.p (by exact g_len_view rfl rfl (by exact List.length_map _)) rfl ?_
      refine AL.q (by exact h_pure en_within rfl rfl (by repeat (first | exact rfl | exact DLead.same | refine ⟨_, _, rfl, ?_, ?_⟩)) (within_spec _ _ _) rfl) rfl ?_
      refine AL.p (by exact as1 rfl) rfl ?_
      refine AL.nil ?_
      refine th_n ?_
      refine AC.ret ?_
      refine bq_r ?_
      exact ret1 rfl (by rw [sigsB_yes (fun j hj => hall j hj (by omega))]; rfl)
theorem en_areSignals : Enters Try.prog 45 := enters_of Try.func45 rfl rfl
theorem any_take_step {α : Type} {p : α → Bool} {l : List α} {k : Nat} (hk : k < l.length) (h : ∀ j (hj : j < l.length), j < k → p l[j] = false) : (l.take k).any p = false := by
  rw [List.any_eq_false]
  intro x hx
  obtain ⟨j, hj, rfl⟩ := List.getElem_of_mem hx
  rw [List.length_take] at hj
  rw [List.getElem_take, h j (by omega) (by omega)]
  simp
theorem any_take_at {α : Type} {p : α → Bool} {l : List α} {k j : Nat} (hk : k ≤ l.length) (hj : j < k) (h : p (l[j]'(by omega)) = true) : (l.take k).any p = true := by
  rw [List.any_eq_true]
  exact ⟨l[j]'(by omega), List.mem_take_iff_getElem.2 ⟨j, by omega, rfl⟩, h⟩
set_option maxHeartbeats 1000000 in
theorem l2Signals_spec (l : List Sig) (hl : l.length ≤ 1048576) (hn : ∀ t, t ∈ l → t.name.length ≤ 1048576) : ASpec Try.prog 53 [.d (vSigs l)] [] (Pure1 (aT (sigsB l))) := by
  refine ASpec.of Try.func53 rfl rfl fun C hC => ?_
  refine AC.seq ?_
  refine AC.region ?_
  refine AL.p (by exact as1 rfl) rfl ?_
  refine AL.nil ?_
  refine th_n ?_
  refine AC.seq ?_
  refine AC.seq ?_
  refine AC.region ?_
  refine AL.p (by exact mv1 rfl) rfl ?_
  refine AL.p (by exact g_len_view rfl rfl (by exact List.length_map _)) rfl ?_
  refine AL.p (by exact mv1 rfl) rfl ?_
  refine AL.nil ?_
  refine th_n ?_
  refine AC.block ?_
  refine AC.loop (ι := Nat) (fun k => ⟨42, 0, [(0, .d (vSigs l)), (7, .d (vSigs l)), (8, aI l.length), (9, aI k)], []⟩) (fun k => k ≤ l.length ∧ ∀ j (hj : j < l.length), j < k → sigK l j = true) (fun k => l.length - k) (0) ?_ (⟨Nat.zero_le _, fun j _ hj => by omega⟩) ?_
  · refine Weak.ren _ [] hC rfl ?_ ?_ rfl rfl rfl <;> repeat (first | exact True.intro | refine And.intro ?_ ?_ | exact DLead.same)
  · intro k ⟨hk, hall⟩
    refine AC.seq ?_
    refine AC.region ?_
    refine AL.p (by exact g_cmp rfl rfl rfl) rfl ?_
    refine AL.nil ?_
    refine th_n ?_
    refine AC.seq ?_
    refine AC.condD rfl (fun h0 => ?_) (fun h0 => ?_)
    · refine AC.skip ?_
      refine th_n ?_
      refine AC.seq ?_
      refine AC.block ?_
      refine AC.seq ?_
      have hk1 : k < l.length := by omega
      have hget := sigsL_get hk1
      have hnk := hn _ (List.getElem_mem hk1)
      refine AC.region ?_
      refine AL.p (by exact mv1 rfl) rfl ?_
      refine AL.p (by exact g_ia_view rfl rfl rfl rfl rfl (by rfl) (by assumption)) rfl ?_
      refine AL.p (by exact g_load_refN rfl rfl rfl rfl) rfl ?_
      refine AL.q (by exact h_alloc rfl) rfl ?_
      refine AL.p (by exact as1 rfl) rfl ?_
      refine AL.q (by exact h_store rfl rfl rfl rfl rfl rfl) rfl ?_
      refine AL.nil ?_
      refine th_n ?_
      refine AC.seq ?_
      refine AC.seq ?_
      refine AC.weak (Weak.freezeRef (ds := sigD l[k]) 4 rfl rfl) ?_
      have hkl : k ≤ (sigsL l).length := by rw [sigsL_len]; exact hk
      have htk : ((sigsL l).take k).drop 0 = sigsL (l.take k) := by simp [List.map_take]
      have hN := l2Name_spec l[k].name (by omega)
      have hW := l1In_spec l[k].kind 1 3
      have hK : sigK l k = (nameB l[k].name && ((decide ((1 : Int) ≤ l[k].kind) && decide (l[k].kind ≤ 3)) && !(l.take k).any (fun y => decide (y.name = l[k].name)))) := by rw [sigK, sAt_nat hk1]; rfl
      obtain ⟨b1, hb1⟩ : ∃ b, b = nameB l[k].name := ⟨_, rfl⟩
      obtain ⟨b2, hb2⟩ : ∃ b, b = (decide ((1 : Int) ≤ l[k].kind) && decide (l[k].kind ≤ 3)) := ⟨_, rfl⟩
      rw [← hb1] at hN hK
      rw [← hb2] at hW hK
      clear hb1 hb2
      refine AC.region ?_
      refine AL.p (by exact g_fa_ref rfl rfl rfl rfl rfl rfl) rfl ?_
      refine AL.p (by exact g_load_ref rfl rfl rfl) rfl ?_
      refine AL.q (by exact h_pure en_l2Name rfl rfl (by repeat (first | exact rfl | exact DLead.same | refine ⟨_, _, rfl, ?_, ?_⟩)) hN rfl) rfl ?_
      refine AL.p (by exact g_not rfl) rfl ?_
      refine AL.p (by exact mv1 rfl) rfl ?_
      refine AL.caseGB rfl rfl (fun h1 => ?_) (fun h1 => ?_)
      · refine AL.not rfl rfl rfl rfl rfl ?_
        refine AL.not rfl rfl rfl rfl rfl ?_
        refine AL.not rfl rfl rfl rfl rfl ?_
        refine AL.not rfl rfl rfl rfl rfl ?_
        refine AL.p (by exact g_pickT (r := .d _) rfl rfl) rfl ?_
        refine AL.nil ?_
        refine th_n ?_
        refine AC.condT rfl ?_
        refine AC.seq ?_
        refine AC.region ?_
        refine AL.p (by exact as1 rfl) rfl ?_
        refine AL.nil ?_
        refine th_n ?_
        refine AC.ret ?_
        refine th_r ?_
        refine ib_r ?_
        refine th_r ?_
        refine th_r ?_
        refine ib_r ?_
        refine th_r ?_
        refine bq_r ?_
        exact ret1 rfl (by rw [sigsB_no hk1 (by rw [hK]; simp_all)])
      · refine AL.yes rfl rfl rfl ?_
        refine AL.p (by exact g_fa_ref rfl rfl rfl rfl rfl rfl) rfl ?_
        refine AL.yes rfl rfl rfl ?_
        refine AL.p (by exact g_load_ref rfl rfl rfl) rfl ?_
        refine AL.yes rfl rfl rfl ?_
        refine AL.q (by exact h_pure en_l1In rfl rfl (by repeat (first | exact rfl | exact DLead.same | refine ⟨_, _, rfl, ?_, ?_⟩)) hW rfl) rfl ?_
        refine AL.yes rfl rfl rfl ?_
        refine AL.p (by exact g_not rfl) rfl ?_
        refine AL.p (by exact g_pickF (r := .d _) rfl rfl) rfl ?_
        refine AL.nil ?_
        refine th_n ?_
        refine AC.condB rfl (fun h2 => ?_) (fun h2 => ?_)
        · refine AC.seq ?_
          refine AC.region ?_
          refine AL.p (by exact as1 rfl) rfl ?_
          refine AL.nil ?_
          refine th_n ?_
          refine AC.ret ?_
          refine th_r ?_
          refine ib_r ?_
          refine th_r ?_
          refine th_r ?_
          refine ib_r ?_
          refine th_r ?_
          refine bq_r ?_
          exact ret1 rfl (by rw [sigsB_no hk1 (by rw [hK]; simp_all)])
        · refine AC.skip ?_
          refine th_n ?_
          refine AC.seq ?_
          refine AC.region ?_
          refine AL.p (by exact mv1 rfl) rfl ?_
          refine AL.p (by exact mv1 rfl) rfl ?_
          refine AL.p (by exact g_slice_view (r := sigsL (l.take k)) (l := 0) (h := k) rfl rfl rfl rfl .none (.some rfl rfl) (Nat.zero_le _) hkl htk) rfl ?_
          refine AL.p (by exact g_len_view (els := sigsL (l.take k)) (k := k) rfl rfl (by rw [sigsL_len, List.length_take]; omega)) rfl ?_
          refine AL.p (by exact mv1 rfl) rfl ?_
          refine AL.nil ?_
          refine th_n ?_
          refine AC.block ?_
          refine AC.loop (ι := Nat) (fun q => ⟨42, 0, [(0, .d (vSigs l)), (7, .d (vSigs l)), (8, aI l.length), (9, aI k), (4, .d (.ref (sigD l[k]))), (26, .d (vSigs (l.take k))), (27, aI k), (28, aI q)], []⟩) (fun q => q ≤ k ∧ ∀ j (hj : j < l.length), j < q → (fun y : Sig => decide (y.name = l[k].name)) l[j] = false) (fun q => k - q) (0) ?_ (⟨Nat.zero_le _, fun j _ hj => by omega⟩) ?_
          · refine Weak.ren _ [] hC rfl ?_ ?_ rfl rfl rfl <;> repeat (first | exact True.intro | refine And.intro ?_ ?_ | exact DLead.same)
          · intro q ⟨hq, hno⟩
            refine AC.seq ?_
            refine AC.region ?_
            refine AL.p (by exact g_cmp rfl rfl rfl) rfl ?_
            refine AL.nil ?_
            refine th_n ?_
            refine AC.seq ?_
            refine AC.condD rfl (fun h3 => ?_) (fun h3 => ?_)
            · refine AC.skip ?_
              refine th_n ?_
              refine AC.seq ?_
              refine AC.block ?_
              refine AC.seq ?_
              have hq1 : q < k := by omega
              have hget2 : (sigsL (l.take k))[q]? = some (sigD (l[q]'(by omega))) := by rw [sigsL_get (by rw [List.length_take]; omega)]; simp
              refine AC.region ?_
              refine AL.p (by exact g_ia_view rfl rfl rfl rfl rfl (by rfl) (by assumption)) rfl ?_
              refine AL.p (by exact g_load_refN rfl rfl rfl rfl) rfl ?_
              refine AL.q (by exact h_alloc rfl) rfl ?_
              refine AL.q (by exact h_store rfl rfl rfl rfl rfl rfl) rfl ?_
              refine AL.nil ?_
              refine th_n ?_
              refine AC.seq ?_
              refine AC.region ?_
              refine AL.p (by exact g_fa_ref rfl rfl rfl rfl rfl rfl) rfl ?_
              refine AL.p (by exact g_load_ref rfl rfl rfl) rfl ?_
              refine AL.p (by exact g_fa_ptr rfl rfl rfl rfl rfl) rfl ?_
              refine AL.p (by exact g_load_ptr rfl rfl rfl rfl rfl) rfl ?_
              refine AL.p (by exact g_scmp rfl rfl rfl) rfl ?_
              refine AL.nil ?_
              refine th_n ?_
              refine AC.condD rfl (fun h4 => ?_) (fun h4 => ?_)
              · refine AC.seq ?_
                refine AC.region ?_
                refine AL.p (by exact as1 rfl) rfl ?_
                refine AL.nil ?_
                refine th_n ?_
                refine AC.ret ?_
                refine ib_r ?_
                refine th_r ?_
                refine th_r ?_
                refine ib_r ?_
                refine ib_r ?_
                refine th_r ?_
                refine th_r ?_
                refine ib_r ?_
                refine th_r ?_
                refine bq_r ?_
                have hne : (l.take k).any (fun y => decide (y.name = l[k].name)) = true := any_take_at (by omega) hq1 (by have := bstr_inj h4; simp [this])
                exact ret1 rfl (by rw [sigsB_no hk1 (by rw [hK, hne]; simp)])
              · refine AC.skip ?_
                refine ib_n ?_
                refine th_n ?_
                refine AC.region ?_
                refine AL.p (by exact g_arith rfl rfl rfl (by exact wrap_i64 (by omega))) rfl ?_
                refine AL.p (by exact mv1 rfl) rfl ?_
                refine AL.nil ?_
                refine th_n ?_
                exact ⟨q + 1, ⟨by omega, fun j hj hj2 => by rcases Nat.lt_succ_iff_lt_or_eq.1 hj2 with h | rfl; exact hno j hj h; exact decide_eq_false (fun e => h4 (by rw [e]))⟩, by omega, Weak.ren _ [] hC rfl (by repeat (first | exact True.intro | refine And.intro ?_ ?_ | exact DLead.same)) (by repeat (exact True.intro)) rfl rfl rfl⟩
            · refine AC.exit ?_
              refine th_e ?_
              refine th_e ?_
              refine ib_y ?_
              refine ib_n ?_
              refine th_n ?_
              refine AC.region ?_
              refine AL.p (by exact g_arith rfl rfl rfl (by exact wrap_i64 (by omega))) rfl ?_
              refine AL.p (by exact mv1 rfl) rfl ?_
              refine AL.nil ?_
              refine th_n ?_
              exact ⟨k + 1, ⟨by omega, fun j hj hj2 => by rcases Nat.lt_succ_iff_lt_or_eq.1 hj2 with h | rfl; exact hall j hj h; rw [hK, any_take_step hk1 (fun j hj hjk => hno j hj (by omega))]; simp_all⟩, by omega, Weak.ren _ [] hC rfl (by repeat (first | exact True.intro | refine And.intro ?_ ?_ | exact DLead.same)) (by repeat (exact True.intro)) rfl rfl rfl⟩
    · refine AC.exit ?_
      refine th_e ?_
      refine th_e ?_
      refine ib_y ?_
      refine th_n ?_
      refine AC.seq ?_
      refine AC.region ?_
      refine AL.p (by exact mv1 rfl) rfl ?_
      refine AL.p (by exact g_len_view rfl rfl (by exact List.length_map _)) rfl ?_
      refine AL.q (by exact h_pure en_l1In rfl rfl (by repeat (first | exact rfl | exact DLead.same | refine ⟨_, _, rfl, ?_, ?_⟩)) (l1In_spec _ _ _) rfl) rfl ?_
      refine AL.p (by exact as1 rfl) rfl ?_
      refine AL.nil ?_
      refine th_n ?_
      refine AC.ret ?_
      refine bq_r ?_
      exact ret1 rfl (by rw [sigsB_yes (fun j hj => hall j hj (by omega))]; rfl)
theorem en_l2Signals : Enters Try.prog 53 := enters_of Try.func53 rfl rfl
set_option maxHeartbeats 1000000 in
theorem l24Kinds_spec (l : List Sig) (hl : l.length ≤ 1048576) (hn : ∀ t, t ∈ l → t.name.length ≤ 1048576) : ASpec Try.prog 41 [.d (vSigs l)] [] (Pure1 (aT (l.all (fun s => decide (s.kind = 1 ∨ s.kind = 2)) && sigsB l))) := by
  have hS := l2Signals_spec l hl hn
  refine ASpec.of Try.func41 rfl rfl fun C hC => ?_
  refine AC.seq ?_
  refine AC.region ?_
  refine AL.p (by exact as1 rfl) rfl ?_
  refine AL.nil ?_
  refine th_n ?_
  refine AC.seq ?_
  refine AC.seq ?_
  refine AC.region ?_
  refine AL.p (by exact mv1 rfl) rfl ?_
  refine AL.p (by exact g_len_view rfl rfl (by exact List.length_map _)) rfl ?_
  refine AL.p (by exact mv1 rfl) rfl ?_
  refine AL.nil ?_
  refine th_n ?_
  refine AC.block ?_
  refine AC.loop (ι := Nat) (fun k => ⟨22, 0, [(0, .d (vSigs l)), (5, .d (vSigs l)), (6, aI l.length), (7, aI k)], []⟩) (fun k => k ≤ l.length ∧ ∀ j (hj : j < l.length), j < k → l[j].kind = 1 ∨ l[j].kind = 2) (fun k => l.length - k) (0) ?_ (⟨Nat.zero_le _, fun j _ hj => by omega⟩) ?_
  · refine Weak.ren _ [] hC rfl ?_ ?_ rfl rfl rfl <;> repeat (first | exact True.intro | refine And.intro ?_ ?_ | exact DLead.same)
  · intro k ⟨hk, hall⟩
    refine AC.seq ?_
    refine AC.region ?_
    refine AL.p (by exact g_cmp rfl rfl rfl) rfl ?_
    refine AL.nil ?_
    refine th_n ?_
    refine AC.seq ?_
    refine AC.condD rfl (fun h0 => ?_) (fun h0 => ?_)
    · refine AC.skip ?_
      refine th_n ?_
      refine AC.seq ?_
      refine AC.block ?_
      refine AC.seq ?_
      have hk1 : k < l.length := by omega
      have hget := sigsL_get hk1
      refine AC.region ?_
      refine AL.p (by exact g_ia_view rfl rfl rfl rfl rfl (by rfl) (by assumption)) rfl ?_
      refine AL.p (by exact g_load_refN rfl rfl rfl rfl) rfl ?_
      refine AL.q (by exact h_alloc rfl) rfl ?_
      refine AL.q (by exact h_store rfl rfl rfl rfl rfl rfl) rfl ?_
      refine AL.nil ?_
      refine th_n ?_
      refine AC.seq ?_
      refine AC.region ?_
      refine AL.p (by exact g_fa_ptr rfl rfl rfl rfl rfl) rfl ?_
      refine AL.p (by exact g_load_ptr rfl rfl rfl rfl rfl) rfl ?_
      refine AL.p (by exact g_cmp rfl rfl rfl) rfl ?_
      refine AL.p (by exact mv1 rfl) rfl ?_
      refine AL.caseGN rfl rfl (fun h1 => ?_) (fun h1 => ?_)
      · refine AL.yes rfl rfl rfl ?_
        refine AL.p (by exact g_fa_ptr rfl rfl rfl rfl rfl) rfl ?_
        refine AL.yes rfl rfl rfl ?_
        refine AL.p (by exact g_load_ptr rfl rfl rfl rfl rfl) rfl ?_
        refine AL.yes rfl rfl rfl ?_
        refine AL.p (by exact g_cmp rfl rfl rfl) rfl ?_
        refine AL.p (by exact g_pickT (r := .d _) rfl rfl) rfl ?_
        refine AL.nil ?_
        refine th_n ?_
        refine AC.condND rfl (fun h2 => ?_) (fun h2 => ?_)
        · refine AC.seq ?_
          refine AC.region ?_
          refine AL.p (by exact as1 rfl) rfl ?_
          refine AL.nil ?_
          refine th_n ?_
          refine AC.ret ?_
          refine ib_r ?_
          refine th_r ?_
          refine th_r ?_
          refine ib_r ?_
          refine th_r ?_
          refine bq_r ?_
          have hbad : l.all (fun s => decide (s.kind = 1 ∨ s.kind = 2)) = false := List.all_eq_false.2 ⟨_, List.getElem_mem hk1, by simp_all⟩
          exact ret1 rfl (by rw [hbad]; rfl)
        · refine AC.skip ?_
          refine ib_n ?_
          refine th_n ?_
          refine AC.region ?_
          refine AL.p (by exact g_arith rfl rfl rfl (by exact wrap_i64 (by omega))) rfl ?_
          refine AL.p (by exact mv1 rfl) rfl ?_
          refine AL.nil ?_
          refine th_n ?_
          exact ⟨k + 1, ⟨by omega, fun j hj hj2 => by rcases Nat.lt_succ_iff_lt_or_eq.1 hj2 with h | rfl; exact hall j hj h; simp_all⟩, by omega, Weak.ren _ [] hC rfl (by repeat (first | exact True.intro | refine And.intro ?_ ?_ | exact DLead.same)) (by repeat (exact True.intro)) rfl rfl rfl⟩
      · refine AL.not rfl rfl rfl rfl rfl ?_
        refine AL.not rfl rfl rfl rfl rfl ?_
        refine AL.not rfl rfl rfl rfl rfl ?_
        refine AL.p (by exact g_pickF (r := .d _) rfl rfl) rfl ?_
        refine AL.nil ?_
        refine th_n ?_
        refine AC.condF rfl ?_
        refine AC.skip ?_
        refine ib_n ?_
        refine th_n ?_
        refine AC.region ?_
        refine AL.p (by exact g_arith rfl rfl rfl (by exact wrap_i64 (by omega))) rfl ?_
        refine AL.p (by exact mv1 rfl) rfl ?_
        refine AL.nil ?_
        refine th_n ?_
        exact ⟨k + 1, ⟨by omega, fun j hj hj2 => by rcases Nat.lt_succ_iff_lt_or_eq.1 hj2 with h | rfl; exact hall j hj h; simp_all⟩, by omega, Weak.ren _ [] hC rfl (by repeat (first | exact True.intro | refine And.intro ?_ ?_ | exact DLead.same)) (by repeat (exact True.intro)) rfl rfl rfl⟩
    · refine AC.exit ?_
      refine th_e ?_
      refine th_e ?_
      refine ib_y ?_
      refine th_n ?_
      refine AC.seq ?_
      refine AC.region ?_
      refine AL.p (by exact mv1 rfl) rfl ?_
      refine AL.q (by exact h_pure en_l2Signals rfl rfl (by repeat (first | exact rfl | exact DLead.same | refine ⟨_, _, rfl, ?_, ?_⟩)) hS rfl) rfl ?_
      refine AL.p (by exact as1 rfl) rfl ?_
      refine AL.nil ?_
      refine th_n ?_
      refine AC.ret ?_
      refine bq_r ?_
      have hgood : l.all (fun s => decide (s.kind = 1 ∨ s.kind = 2)) = true := List.all_eq_true.2 (fun x hx => by obtain ⟨j, hj, rfl⟩ := List.getElem_of_mem hx; exact decide_eq_true (hall j hj (by omega)))
      exact ret1 rfl (by rw [hgood]; rfl)
theorem en_l24Kinds : Enters Try.prog 41 := enters_of Try.func41 rfl rfl
end Go.Proofs.Ytbmlfcjoeieibaa

set_option linter.all false
set_option maxRecDepth 20000
namespace Go.Proofs.Ytbmlfcjoeieibaa
open Go.RowKit

def intBool (P : Program) (t : Nat) : Bool :=
  match P.underlying t with
  | some (.struct fs) =>
    !P.stoodInHeld t && !P.eqGuardType P.depth t &&
      match fs.toList with
      | [f, g] => f.name != "_" && g.name != "_" && f.offset == 0 && g.offset == 1 &&
        (match P.underlying f.type with | some (.int _) => true | _ => false) && (match P.underlying g.type with | some .bool => true | _ => false) && P.plainKey f.type && P.plainKey g.type
      | _ => false
  | _ => false
section
variable {P : Program} [PT P]
variable {s : ASt} {dst : Option Nat} {ty : Nat} {pos : String} {af : Array Edge} {gd : Option (Nat × Bool)} {x y : Operand} {xt yt : Nat}
theorem equalIB {t : Nat} {a c : Int} {b d : Bool} (h : intBool P t = true) (w : World) : (Op.equalIn 10000 t (.agg #[.int .i64 a, .bool b]) (.agg #[.int .i64 c, .bool d])).run P w = .ok (decide (a = c ∧ b = d)) w ∧ P.eqGuardType P.depth t = false := by
  unfold intBool at h
  split at h
  · rename_i fs hu
    simp only [Bool.and_eq_true, Bool.not_eq_true'] at h
    obtain ⟨⟨h1, h2⟩, h3⟩ := h
    refine ⟨?_, h2⟩
    have hF : P.fieldsOf t = fs := by unfold Program.fieldsOf; rw [hu]
    rw [run_equalIn_agg w 9999 t _ _ (by rw [hF]; exact hu) h1, hF]
    split at h3
    · rename_i f g he
      rw [he]
      simp only [Bool.and_eq_true, bne_iff_ne, ne_eq, beq_iff_eq] at h3
      obtain ⟨⟨⟨⟨⟨⟨⟨n1, n2⟩, o1⟩, o2⟩, u1⟩, u2⟩, p1⟩, p2⟩ := h3
      split at u1
      · rename_i k1 hu1
        split at u2
        · rename_i hu2
          simp only [Op.eqFields, ne_eq, n1, n2, not_false_eq_true, if_true, o1, o2, Sem.run_bind]
          rw [run_part_plain (w := w) p1 (v := .int .i64 a) rfl]
          simp only [Result.andThen_ok, Sem.run_bind]
          rw [run_part_plain (w := w) p1 (v := .int .i64 c) rfl]
          simp only [Result.andThen_ok, Sem.run_bind]
          rw [run_equalIn_int w _ _ _ _ _ _ hu1]
          simp only [Result.andThen_ok, Sem.run_ite]
          by_cases e1 : a = c
          · subst e1
            rw [if_neg (by simp)]
            simp only [Sem.run_bind]
            rw [run_part_plain (w := w) p2 (v := .bool b) rfl]
            simp only [Result.andThen_ok, Sem.run_bind]
            rw [run_part_plain (w := w) p2 (v := .bool d) rfl]
            simp only [Result.andThen_ok, Sem.run_bind]
            rw [run_equalIn_bool' w _ _ _ _ hu2]
            simp only [Result.andThen_ok, Sem.run_ite, Sem.run_pure]
            by_cases e2 : b = d
            · subst e2; simp
            · simp [e2]
          · rw [if_pos (by simp [e1])]
            simp [e1]
        · exact absurd u2 (by decide)
      · exact absurd u1 (by decide)
    · exact absurd h3 (by decide)
  · exact absurd h (by decide)
theorem ib_agg {m : Nat → Option (Option Nat × Nat)} {F : Nat → Prop} {w : World} {a : Int} {b : Bool} {v : Value} (h : ARep m F w (.agg [aI a, aT b]) v) : v = .agg #[.int .i64 a, .bool b] := by
  cases h with
  | agg h1 h2 h3 =>
    rename_i vs
    have e0 := h2 0 _ rfl
    have e1 := h2 1 _ rfl
    obtain ⟨e0, -⟩ := e0.val_eq
    obtain ⟨e1, -⟩ := e1.val_eq
    have hsz : vs.size = 2 := h1
    congr 1
    apply Array.ext
    · exact hsz
    · intro i hi hi2
      match i, hi, hi2 with
      | 0, hi, hi2 => rw [Array.getD_eq_getD_getElem?, Array.getElem?_eq_getElem hi] at e0; exact e0
      | 1, hi, hi2 => rw [Array.getD_eq_getD_getElem?, Array.getElem?_eq_getElem hi] at e1; exact e1
      | n + 2, hi, hi2 => omega
theorem g_eqIB {a c : Int} {b d : Bool} {op : BinOp} {r : Bool} (ht : intBool P xt = true) (hx : s.ev x = .agg [aI a, aT b]) (hy : s.ev y = .agg [aI c, aT d]) (hop : eqOf op (decide (a = c ∧ b = d)) = some r) :
    GOp P [] s ⟨dst, .binOp op xt x y yt, ty, pos, af, gd⟩ (aT r) := by
  refine ⟨fun s' ha C U a' w m hR => ?_⟩
  have h1 := hR.ev x
  have h2 := hR.ev y
  rw [ha.2.1 x (by simp [Op.operands]), hx] at h1
  rw [ha.2.1 y (by simp [Op.operands]), hy] at h2
  have e1 := ib_agg h1
  have e2 := ib_agg h2
  obtain ⟨q1, q2⟩ := equalIB (a := a) (b := b) (c := c) (d := d) ht w
  refine ⟨.bool r, ?_, .d (.val trivial)⟩
  simp only [execOp, e1, e2, Sem.run_bind, run_eqGuard_agg w op xt x y _ _ q2, Result.andThen_ok]
  cases op <;> simp only [eqOf, Option.some.injEq, reduceCtorEq] at hop
  · subst hop; rw [run_eql_struct, q1]; rfl
  · subst hop; rw [run_neq_struct, q1]; rfl
end
end Go.Proofs.Ytbmlfcjoeieibaa

