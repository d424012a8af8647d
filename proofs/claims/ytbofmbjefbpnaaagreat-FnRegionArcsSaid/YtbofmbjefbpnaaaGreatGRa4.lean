/- Contracts of the functions of the program and of the reference, each proved by a walk through its code. -/
import Derived.Sort.Grow
import Derived.Laws.RangeString
import Derived.Below
import Derived.Laws.Small
import Derived.Test.YtbofmbjefbpnaaaGreatGRa3
set_option linter.all false
set_option maxRecDepth 20000
namespace Go.Proofs.YtbofmbjefbpnaaaGreat
open Go.RowKit
set_option maxHeartbeats 1000000 in
theorem l2Name_spec (m : List UInt8) (hm : m.length ≤ 2000000) : ASpec Tryz.prog 170 [aS (bstr m)] [] (Pure1 (aT (nameB m))) := by
 have hsz := bstr_size m;refine ASpec.of Tryz.func170 rfl rfl fun C hC => ?_
 refine AC.seq (AC.region ?_);refine za ?_;refine AL.nil (th_n (AC.seq (AC.seq (AC.region ?_))));refine za ?_;refine AL.nil (th_n (AC.block ?_));refine AC.loop (ι := Nat) (fun k => ⟨42, 0, [(0, aS (bstr m)), (3, aI k)], []⟩) (fun k => k ≤ m.length ∧ ∀ j (hj : j < m.length), j < k → nameC j m[j] = true) (fun k => m.length - k) (0) ?_ (⟨Nat.zero_le _, fun j _ hj => by omega⟩) ?_
 ·refine Weak.ren _ [] hC rfl ?_ ?_ rfl rfl rfl <;> repeat (first | exact True.intro | refine And.intro ?_ ?_ | exact DLead.same)
 intro k ⟨hk, hall⟩;refine AC.seq (AC.seq (AC.region ?_));refine zm ?_;refine zm ?_;refine AL.p (by exact g_len_str rfl rfl rfl) rfl ?_;refine zc ?_;refine AL.nil (th_n ?_);refine AC.condD rfl (fun h0 => ?_) (fun h0 => ?_)
 ·refine AC.skip (th_n (AC.seq (AC.block (AC.seq ?_))));have hk1 : k < m.length := by omega
  have hget := bstr_at hk1;have hlt := m[k].toNat_lt;refine AC.region ?_;refine zm ?_;refine zm ?_;refine AL.p (by exact g_index rfl rfl rfl (by rfl) (by assumption)) rfl ?_;refine zc ?_;refine zm ?_;refine AL.caseG rfl rfl (fun h1 => ?_) (fun h1 => ?_)
  ·refine zy ?_;refine zm ?_;refine zy ?_;refine zm ?_;refine zy ?_;refine AL.p (by exact g_index rfl rfl rfl (by rfl) (by assumption)) rfl ?_;refine zy ?_;refine zc ?_;refine zQ ?_;refine za ?_;refine AL.nil (th_n (AC.seq (AC.region ?_)));refine zm ?_;refine kC ?_;refine zm ?_;refine AL.caseGN rfl rfl (fun h2 => ?_) (fun h2 => ?_)
   ·refine zy ?_;refine zm ?_;refine zy ?_;refine zc ?_;refine zy ?_;refine zm ?_;refine AL.caseG rfl rfl (fun h3 => ?_) (fun h3 => ?_)
    ·refine zn ?_;refine zn ?_;refine zn ?_;refine zn ?_;refine zy ?_;refine zQ ?_;refine zy ?_;refine zm ?_;refine zn ?_;refine zn ?_;refine zn ?_;refine zn ?_;refine zy ?_;refine zQ ?_;refine zQ ?_;refine AL.nil (th_n ?_);refine AC.condT rfl ?_;refine AC.seq (AC.region ?_);refine za ?_;refine AL.nil (th_n (AC.ret (ib_r (th_r (th_r (ib_r (th_r (bq_r ?_))))))));have hb : nameC k m[k] = false := nameC_no (by simp_all <;> omega);exact ret1 rfl (by rw [nameB_no hk1 (by rw [List.getD_eq_getElem?_getD, List.getElem?_eq_getElem hk1]; exact hb)])
    refine zy ?_;refine zm ?_;refine zy ?_;refine zm ?_;refine zy ?_;refine AL.p (by exact g_index rfl rfl rfl (by rfl) (by assumption)) rfl ?_;refine zy ?_;refine zc ?_;refine zy ?_;refine zP ?_;refine zy ?_;refine zm ?_;refine AL.caseG rfl rfl (fun h4 => ?_) (fun h4 => ?_)
    ·refine zn ?_;refine zn ?_;refine zn ?_;refine zn ?_;refine zy ?_;refine zQ ?_;refine zQ ?_;refine AL.nil (th_n ?_);refine AC.condT rfl ?_;refine AC.seq (AC.region ?_);refine za ?_;refine AL.nil (th_n (AC.ret (ib_r (th_r (th_r (ib_r (th_r (bq_r ?_))))))));have hb : nameC k m[k] = false := nameC_no (by simp_all <;> omega);exact ret1 rfl (by rw [nameB_no hk1 (by rw [List.getD_eq_getElem?_getD, List.getElem?_eq_getElem hk1]; exact hb)])
    refine zy ?_;refine zm ?_;refine zy ?_;refine zm ?_;refine zy ?_;refine AL.p (by exact g_index rfl rfl rfl (by rfl) (by assumption)) rfl ?_;refine zy ?_;refine zc ?_;refine zy ?_;refine zP ?_;refine zQ ?_;refine AL.nil (th_n ?_);refine AC.condD rfl (fun h5 => ?_) (fun h5 => ?_)
    ·refine AC.seq (AC.region ?_);refine za ?_;refine AL.nil (th_n (AC.ret (ib_r (th_r (th_r (ib_r (th_r (bq_r ?_))))))));have hb : nameC k m[k] = false := nameC_no (by simp_all <;> omega);exact ret1 rfl (by rw [nameB_no hk1 (by rw [List.getD_eq_getElem?_getD, List.getElem?_eq_getElem hk1]; exact hb)])
    refine AC.skip (ib_n (th_n (AC.region ?_)));refine zm ?_;refine zA ?_;refine za ?_;refine AL.nil (th_n ?_);have hb : nameC k m[k] = true := nameC_iff.2 (by simp_all <;> omega);exact ⟨k + 1, ⟨by omega, fun j hj hj2 => by rcases Nat.lt_succ_iff_lt_or_eq.1 hj2 with h | rfl; exact hall j hj h; exact hb⟩, by omega, Weak.ren _ [] hC rfl (by repeat (first | exact True.intro | refine And.intro ?_ ?_ | exact DLead.same)) (by repeat (exact True.intro)) rfl rfl rfl⟩
   refine zn ?_;refine zn ?_;refine zn ?_;refine AL.notU rfl rfl rfl ?_;refine AL.notU rfl rfl rfl ?_;refine AL.notU rfl rfl rfl ?_;refine AL.notU rfl rfl rfl ?_;refine zn ?_;refine zn ?_;refine AL.notU rfl rfl rfl ?_;refine AL.notU rfl rfl rfl ?_;refine AL.notU rfl rfl rfl ?_;refine AL.notU rfl rfl rfl ?_;refine zn ?_;refine zP ?_;refine AL.nil (th_n ?_);refine AC.condF rfl ?_;refine AC.skip (ib_n (th_n (AC.region ?_)));refine zm ?_;refine zA ?_;refine za ?_;refine AL.nil (th_n ?_);have hb : nameC k m[k] = true := nameC_iff.2 (by simp_all <;> omega);exact ⟨k + 1, ⟨by omega, fun j hj hj2 => by rcases Nat.lt_succ_iff_lt_or_eq.1 hj2 with h | rfl; exact hall j hj h; exact hb⟩, by omega, Weak.ren _ [] hC rfl (by repeat (first | exact True.intro | refine And.intro ?_ ?_ | exact DLead.same)) (by repeat (exact True.intro)) rfl rfl rfl⟩
  refine zn ?_;refine zn ?_;refine zn ?_;refine zn ?_;refine zP ?_;refine za ?_;refine AL.nil (th_n (AC.seq (AC.region ?_)));refine zm ?_;refine kC ?_;refine zm ?_;refine zy ?_;refine zm ?_;refine zy ?_;refine zc ?_;refine zy ?_;refine zm ?_;refine AL.caseG rfl rfl (fun h2 => ?_) (fun h2 => ?_)
  ·refine zn ?_;refine zn ?_;refine zn ?_;refine zn ?_;refine zy ?_;refine zQ ?_;refine zy ?_;refine zm ?_;refine zn ?_;refine zn ?_;refine zn ?_;refine zn ?_;refine zy ?_;refine zQ ?_;refine zQ ?_;refine AL.nil (th_n ?_);refine AC.condT rfl ?_;refine AC.seq (AC.region ?_);refine za ?_;refine AL.nil (th_n (AC.ret (ib_r (th_r (th_r (ib_r (th_r (bq_r ?_))))))));have hb : nameC k m[k] = false := nameC_no (by simp_all <;> omega);exact ret1 rfl (by rw [nameB_no hk1 (by rw [List.getD_eq_getElem?_getD, List.getElem?_eq_getElem hk1]; exact hb)])
  refine zy ?_;refine zm ?_;refine zy ?_;refine zm ?_;refine zy ?_;refine AL.p (by exact g_index rfl rfl rfl (by rfl) (by assumption)) rfl ?_;refine zy ?_;refine zc ?_;refine zy ?_;refine zP ?_;refine zy ?_;refine zm ?_;refine AL.caseG rfl rfl (fun h3 => ?_) (fun h3 => ?_)
  ·refine zn ?_;refine zn ?_;refine zn ?_;refine zn ?_;refine zy ?_;refine zQ ?_;refine zQ ?_;refine AL.nil (th_n ?_);refine AC.condT rfl ?_;refine AC.seq (AC.region ?_);refine za ?_;refine AL.nil (th_n (AC.ret (ib_r (th_r (th_r (ib_r (th_r (bq_r ?_))))))));have hb : nameC k m[k] = false := nameC_no (by simp_all <;> omega);exact ret1 rfl (by rw [nameB_no hk1 (by rw [List.getD_eq_getElem?_getD, List.getElem?_eq_getElem hk1]; exact hb)])
  refine zy ?_;refine zm ?_;refine zy ?_;refine zm ?_;refine zy ?_;refine AL.p (by exact g_index rfl rfl rfl (by rfl) (by assumption)) rfl ?_;refine zy ?_;refine zc ?_;refine zy ?_;refine zP ?_;refine zQ ?_;refine AL.nil (th_n ?_);refine AC.condD rfl (fun h4 => ?_) (fun h4 => ?_)
  ·refine AC.seq (AC.region ?_);refine za ?_;refine AL.nil (th_n (AC.ret (ib_r (th_r (th_r (ib_r (th_r (bq_r ?_))))))));have hb : nameC k m[k] = false := nameC_no (by simp_all <;> omega);exact ret1 rfl (by rw [nameB_no hk1 (by rw [List.getD_eq_getElem?_getD, List.getElem?_eq_getElem hk1]; exact hb)])
  refine AC.skip (ib_n (th_n (AC.region ?_)));refine zm ?_;refine zA ?_;refine za ?_;refine AL.nil (th_n ?_);have hb : nameC k m[k] = true := nameC_iff.2 (by simp_all <;> omega);exact ⟨k + 1, ⟨by omega, fun j hj hj2 => by rcases Nat.lt_succ_iff_lt_or_eq.1 hj2 with h | rfl; exact hall j hj h; exact hb⟩, by omega, Weak.ren _ [] hC rfl (by repeat (first | exact True.intro | refine And.intro ?_ ?_ | exact DLead.same)) (by repeat (exact True.intro)) rfl rfl rfl⟩
 refine AC.exit (th_e (th_e (ib_y (th_n (AC.seq (AC.region ?_))))));refine zm ?_;refine AL.p (by exact g_len_str rfl rfl rfl) rfl ?_;refine AL.q (by exact h_pure en_l1In rfl rfl (by repeat (first | exact rfl | exact DLead.same | refine ⟨_, _, rfl, ?_, ?_⟩)) (l1In_spec _ _ _) rfl) rfl ?_;refine za ?_;refine AL.nil (th_n (AC.ret (bq_r ?_)));exact ret1 rfl (by rw [nameB_yes (fun j hj => by rw [List.getD_eq_getElem?_getD, List.getElem?_eq_getElem hj]; exact hall j hj (by omega)), hsz]; rfl)
theorem en_l2Name : Enters Tryz.prog 170 := enters_of Tryz.func170 rfl rfl
set_option maxHeartbeats 2000000 in
theorem isName_spec (m : List UInt8) (hm : m.length ≤ 2000000) : ASpec Tryz.prog 187 [aS (bstr m)] [] (Pure1 (aT (nameB m))) := by
 have hsz := bstr_size m;refine ASpec.of Tryz.func187 rfl rfl fun C hC => ?_
 refine AC.seq (AC.region ?_);refine za ?_;refine AL.nil (th_n (AC.seq (AC.seq (AC.region ?_))));refine za ?_;refine AL.nil (th_n (AC.block ?_));refine AC.loop (ι := Nat) (fun k => ⟨45, 0, [(0, aS (bstr m)), (3, aI k)], []⟩) (fun k => k ≤ m.length ∧ ∀ j (hj : j < m.length), j < k → nameC j m[j] = true) (fun k => m.length - k) (0) ?_ (⟨Nat.zero_le _, fun j _ hj => by omega⟩) ?_
 ·refine Weak.ren _ [] hC rfl ?_ ?_ rfl rfl rfl <;> repeat (first | exact True.intro | refine And.intro ?_ ?_ | exact DLead.same)
 intro k ⟨hk, hall⟩;refine AC.seq (AC.seq (AC.region ?_));refine zm ?_;refine zm ?_;refine AL.p (by exact g_len_str rfl rfl rfl) rfl ?_;refine zc ?_;refine AL.nil (th_n ?_);refine AC.condD rfl (fun h0 => ?_) (fun h0 => ?_)
 ·refine AC.skip (th_n (AC.seq (AC.block (AC.seq ?_))));have hk1 : k < m.length := by omega
  have hget := bstr_at hk1;have hlt := m[k].toNat_lt;refine AC.drawn' mixed_ok [[], [], [0,1], [0,1,2], [0,1,2,3], [0,1,2,3,4], [0,1,2,3,4], [0,1,2,3,4,5,6], [0,1,2,3,4,5,6,7], [0,1,2,3,4,5,6,7,8], [], [], [10,11], [10,11,12], [0,1,2,3,4,10,11,12,13], [0,1,2,3,4,10,11,12,13,14], [0,1,2,3,4,10,11,12,13,14], [0,1,2,3,4,10,11,12,13,14,15,16], [0,1,2,3,4,10,11,12,13,14,15,16,17], [0,1,2,3,4,10,11,12,13,14,15,16,17,18], [0,1,2,3,4,5,6,7,8,9,10,11,12,13,14], [0,1,2,3,4,5,6,7,8,9,10,11,12,13,14,15,16,17,18,19,20]] (by decide) ?_;refine zd 0 [] 22 (by exact mv1 rfl) ?_;refine zd 1 [] 22 (by exact mv1 rfl) ?_;refine zd 2 [0,1] 22 (by exact g_index rfl rfl rfl (by rfl) (by assumption)) ?_;refine zd 3 [0,1,2] 22 (by exact g_cmp rfl rfl rfl) ?_;refine zd 4 [0,1,2,3] 22 (by exact mv1 rfl) ?_;refine DF.caseD 4 rfl (fun h1 => ?_) (fun h1 => ?_)
  ·refine ze 5 [0,1,2,3,4] 22 (by exact mv1 rfl) ?_;refine ze 6 [0,1,2,3,4] 22 (by exact mv1 rfl) ?_;refine ze 7 [0,1,2,3,4,5,6] 22 (by exact g_index rfl rfl rfl (by rfl) (by assumption)) ?_;refine ze 8 [0,1,2,3,4,5,6,7] 22 (by exact g_cmp rfl rfl rfl) ?_;refine zd 9 (List.range 9) 22 (by exact g_pickT (r := .d _) rfl rfl) ?_;refine zd 10 [] 22 (by exact mv1 rfl) ?_;refine zd 11 [] 22 (by exact mv1 rfl) ?_;refine zd 12 [10,11] 22 (by exact g_index rfl rfl rfl (by rfl) (by assumption)) ?_;refine zd 13 [10,11,12] 22 (by exact g_cmp rfl rfl rfl) ?_;refine zd 14 [0,1,2,3,4,10,11,12,13] 22 (by exact mv1 rfl) ?_;refine DF.caseD 14 rfl (fun h2 => ?_) (fun h2 => ?_)
   ·refine ze 15 [0,1,2,3,4,10,11,12,13,14] 22 (by exact mv1 rfl) ?_;refine ze 16 [0,1,2,3,4,10,11,12,13,14] 22 (by exact mv1 rfl) ?_;refine ze 17 [0,1,2,3,4,10,11,12,13,14,15,16] 22 (by exact g_index rfl rfl rfl (by rfl) (by assumption)) ?_;refine ze 18 [0,1,2,3,4,10,11,12,13,14,15,16,17] 22 (by exact g_cmp rfl rfl rfl) ?_;refine zd 19 [0,1,2,3,4,10,11,12,13,14,15,16,17,18] 22 (by exact g_pickT (r := .d _) rfl rfl) ?_;refine zd 20 (List.range 15) 22 (by exact as1 rfl) ?_;refine zd 21 (List.range 21) 22 (by exact as1 rfl) ?_;refine zj 22 ?_;refine th_n (AC.seq (AC.region ?_));refine zm ?_;refine kC ?_;refine zm ?_;refine AL.caseGN rfl rfl (fun h3 => ?_) (fun h3 => ?_)
    ·refine zy ?_;refine zm ?_;refine zy ?_;refine kC ?_;refine zy ?_;refine zm ?_;refine AL.caseGN rfl rfl (fun h4 => ?_) (fun h4 => ?_)
     ·refine zn ?_;refine zn ?_;refine zy ?_;refine zQ ?_;refine zQ ?_;refine AL.nil (th_n ?_);refine AC.condT rfl ?_;refine AC.seq (AC.region ?_);refine za ?_;refine AL.nil (th_n (AC.ret (ib_r (th_r (th_r (ib_r (th_r (bq_r ?_))))))));have hb : nameC k m[k] = false := nameC_no (by simp_all <;> omega);exact ret1 rfl (by rw [nameB_no hk1 (by rw [List.getD_eq_getElem?_getD, List.getElem?_eq_getElem hk1]; exact hb)])
     refine zy ?_;refine zm ?_;refine zy ?_;refine zc ?_;refine zy ?_;refine zP ?_;refine zQ ?_;refine AL.nil (th_n ?_);refine AC.condD rfl (fun h5 => ?_) (fun h5 => ?_)
     ·refine AC.seq (AC.region ?_);refine za ?_;refine AL.nil (th_n (AC.ret (ib_r (th_r (th_r (ib_r (th_r (bq_r ?_))))))));have hb : nameC k m[k] = false := nameC_no (by simp_all <;> omega);exact ret1 rfl (by rw [nameB_no hk1 (by rw [List.getD_eq_getElem?_getD, List.getElem?_eq_getElem hk1]; exact hb)])
     refine AC.skip (ib_n (th_n (AC.region ?_)));refine zm ?_;refine zA ?_;refine za ?_;refine AL.nil (th_n ?_);have hb : nameC k m[k] = true := nameC_iff.2 (by simp_all <;> omega);exact ⟨k + 1, ⟨by omega, fun j hj hj2 => by rcases Nat.lt_succ_iff_lt_or_eq.1 hj2 with h | rfl; exact hall j hj h; exact hb⟩, by omega, Weak.ren _ [] hC rfl (by repeat (first | exact True.intro | refine And.intro ?_ ?_ | exact DLead.same)) (by repeat (exact True.intro)) rfl rfl rfl⟩
    refine zn ?_;refine zn ?_;refine zn ?_;refine AL.notU rfl rfl rfl ?_;refine AL.notU rfl rfl rfl ?_;refine zn ?_;refine zP ?_;refine AL.nil (th_n ?_);refine AC.condF rfl ?_;refine AC.skip (ib_n (th_n (AC.region ?_)));refine zm ?_;refine zA ?_;refine za ?_;refine AL.nil (th_n ?_);have hb : nameC k m[k] = true := nameC_iff.2 (by simp_all <;> omega);exact ⟨k + 1, ⟨by omega, fun j hj hj2 => by rcases Nat.lt_succ_iff_lt_or_eq.1 hj2 with h | rfl; exact hall j hj h; exact hb⟩, by omega, Weak.ren _ [] hC rfl (by repeat (first | exact True.intro | refine And.intro ?_ ?_ | exact DLead.same)) (by repeat (exact True.intro)) rfl rfl rfl⟩
   refine zg 15 [0,1,2,3,4,10,11,12,13,14] 22 ?_;refine zg 16 [0,1,2,3,4,10,11,12,13,14] 22 ?_;refine zg 17 [0,1,2,3,4,10,11,12,13,14,15,16] 22 ?_;refine zg 18 [0,1,2,3,4,10,11,12,13,14,15,16,17] 22 ?_;refine zd 19 [0,1,2,3,4,10,11,12,13,14,15,16,17,18] 22 (by exact g_pickF (r := .d _) rfl rfl) ?_;refine zd 20 (List.range 15) 22 (by exact as1 rfl) ?_;refine zd 21 (List.range 21) 22 (by exact as1 rfl) ?_;refine zj 22 ?_;refine th_n (AC.seq (AC.region ?_));refine zm ?_;refine kC ?_;refine zm ?_;refine AL.caseGN rfl rfl (fun h3 => ?_) (fun h3 => ?_)
   ·refine zy ?_;refine zm ?_;refine zy ?_;refine kC ?_;refine zy ?_;refine zm ?_;refine zn ?_;refine zn ?_;refine zy ?_;refine zQ ?_;refine zQ ?_;refine AL.nil (th_n ?_);refine AC.condT rfl ?_;refine AC.seq (AC.region ?_);refine za ?_;refine AL.nil (th_n (AC.ret (ib_r (th_r (th_r (ib_r (th_r (bq_r ?_))))))));have hb : nameC k m[k] = false := nameC_no (by simp_all <;> omega);exact ret1 rfl (by rw [nameB_no hk1 (by rw [List.getD_eq_getElem?_getD, List.getElem?_eq_getElem hk1]; exact hb)])
   refine zn ?_;refine zn ?_;refine zn ?_;refine AL.notU rfl rfl rfl ?_;refine AL.notU rfl rfl rfl ?_;refine zn ?_;refine zP ?_;refine AL.nil (th_n ?_);refine AC.condF rfl ?_;refine AC.skip (ib_n (th_n (AC.region ?_)));refine zm ?_;refine zA ?_;refine za ?_;refine AL.nil (th_n ?_);have hb : nameC k m[k] = true := nameC_iff.2 (by simp_all <;> omega);exact ⟨k + 1, ⟨by omega, fun j hj hj2 => by rcases Nat.lt_succ_iff_lt_or_eq.1 hj2 with h | rfl; exact hall j hj h; exact hb⟩, by omega, Weak.ren _ [] hC rfl (by repeat (first | exact True.intro | refine And.intro ?_ ?_ | exact DLead.same)) (by repeat (exact True.intro)) rfl rfl rfl⟩
  refine zg 5 [0,1,2,3,4] 22 ?_;refine zg 6 [0,1,2,3,4] 22 ?_;refine zg 7 [0,1,2,3,4,5,6] 22 ?_;refine zg 8 [0,1,2,3,4,5,6,7] 22 ?_;refine zd 9 (List.range 9) 22 (by exact g_pickF (r := .d _) rfl rfl) ?_;refine zd 10 [] 22 (by exact mv1 rfl) ?_;refine zd 11 [] 22 (by exact mv1 rfl) ?_;refine zd 12 [10,11] 22 (by exact g_index rfl rfl rfl (by rfl) (by assumption)) ?_;refine zd 13 [10,11,12] 22 (by exact g_cmp rfl rfl rfl) ?_;refine zd 14 [0,1,2,3,4,10,11,12,13] 22 (by exact mv1 rfl) ?_;refine DF.caseD 14 rfl (fun h2 => ?_) (fun h2 => ?_)
  ·refine ze 15 [0,1,2,3,4,10,11,12,13,14] 22 (by exact mv1 rfl) ?_;refine ze 16 [0,1,2,3,4,10,11,12,13,14] 22 (by exact mv1 rfl) ?_;refine ze 17 [0,1,2,3,4,10,11,12,13,14,15,16] 22 (by exact g_index rfl rfl rfl (by rfl) (by assumption)) ?_;refine ze 18 [0,1,2,3,4,10,11,12,13,14,15,16,17] 22 (by exact g_cmp rfl rfl rfl) ?_;refine zd 19 [0,1,2,3,4,10,11,12,13,14,15,16,17,18] 22 (by exact g_pickT (r := .d _) rfl rfl) ?_;refine zd 20 (List.range 15) 22 (by exact as1 rfl) ?_;refine zd 21 (List.range 21) 22 (by exact as1 rfl) ?_;refine zj 22 ?_;refine th_n (AC.seq (AC.region ?_));refine zm ?_;refine kC ?_;refine zm ?_;refine zy ?_;refine zm ?_;refine zy ?_;refine kC ?_;refine zy ?_;refine zm ?_;refine AL.caseGN rfl rfl (fun h3 => ?_) (fun h3 => ?_)
   ·refine zn ?_;refine zn ?_;refine zy ?_;refine zQ ?_;refine zQ ?_;refine AL.nil (th_n ?_);refine AC.condT rfl ?_;refine AC.seq (AC.region ?_);refine za ?_;refine AL.nil (th_n (AC.ret (ib_r (th_r (th_r (ib_r (th_r (bq_r ?_))))))));have hb : nameC k m[k] = false := nameC_no (by simp_all <;> omega);exact ret1 rfl (by rw [nameB_no hk1 (by rw [List.getD_eq_getElem?_getD, List.getElem?_eq_getElem hk1]; exact hb)])
   refine zy ?_;refine zm ?_;refine zy ?_;refine zc ?_;refine zy ?_;refine zP ?_;refine zQ ?_;refine AL.nil (th_n ?_);refine AC.condD rfl (fun h4 => ?_) (fun h4 => ?_)
   ·refine AC.seq (AC.region ?_);refine za ?_;refine AL.nil (th_n (AC.ret (ib_r (th_r (th_r (ib_r (th_r (bq_r ?_))))))));have hb : nameC k m[k] = false := nameC_no (by simp_all <;> omega);exact ret1 rfl (by rw [nameB_no hk1 (by rw [List.getD_eq_getElem?_getD, List.getElem?_eq_getElem hk1]; exact hb)])
   refine AC.skip (ib_n (th_n (AC.region ?_)));refine zm ?_;refine zA ?_;refine za ?_;refine AL.nil (th_n ?_);have hb : nameC k m[k] = true := nameC_iff.2 (by simp_all <;> omega);exact ⟨k + 1, ⟨by omega, fun j hj hj2 => by rcases Nat.lt_succ_iff_lt_or_eq.1 hj2 with h | rfl; exact hall j hj h; exact hb⟩, by omega, Weak.ren _ [] hC rfl (by repeat (first | exact True.intro | refine And.intro ?_ ?_ | exact DLead.same)) (by repeat (exact True.intro)) rfl rfl rfl⟩
  refine zg 15 [0,1,2,3,4,10,11,12,13,14] 22 ?_;refine zg 16 [0,1,2,3,4,10,11,12,13,14] 22 ?_;refine zg 17 [0,1,2,3,4,10,11,12,13,14,15,16] 22 ?_;refine zg 18 [0,1,2,3,4,10,11,12,13,14,15,16,17] 22 ?_;refine zd 19 [0,1,2,3,4,10,11,12,13,14,15,16,17,18] 22 (by exact g_pickF (r := .d _) rfl rfl) ?_;refine zd 20 (List.range 15) 22 (by exact as1 rfl) ?_;refine zd 21 (List.range 21) 22 (by exact as1 rfl) ?_;refine zj 22 ?_;refine th_n (AC.seq (AC.region ?_));refine zm ?_;refine kC ?_;refine zm ?_;refine zy ?_;refine zm ?_;refine zy ?_;refine kC ?_;refine zy ?_;refine zm ?_;refine zn ?_;refine zn ?_;refine zy ?_;refine zQ ?_;refine zQ ?_;refine AL.nil (th_n ?_);refine AC.condT rfl ?_;refine AC.seq (AC.region ?_);refine za ?_;refine AL.nil (th_n (AC.ret (ib_r (th_r (th_r (ib_r (th_r (bq_r ?_))))))));have hb : nameC k m[k] = false := nameC_no (by simp_all <;> omega);exact ret1 rfl (by rw [nameB_no hk1 (by rw [List.getD_eq_getElem?_getD, List.getElem?_eq_getElem hk1]; exact hb)])
 refine AC.exit (th_e (th_e (ib_y (th_n (AC.seq (AC.region ?_))))));refine zm ?_;refine AL.p (by exact g_len_str rfl rfl rfl) rfl ?_;refine AL.q (by exact h_pure en_within rfl rfl (by repeat (first | exact rfl | exact DLead.same | refine ⟨_, _, rfl, ?_, ?_⟩)) (within_spec _ _ _) rfl) rfl ?_;refine za ?_;refine AL.nil (th_n (AC.ret (bq_r ?_)));exact ret1 rfl (by rw [nameB_yes (fun j hj => by rw [List.getD_eq_getElem?_getD, List.getElem?_eq_getElem hj]; exact hall j hj (by omega)), hsz]; rfl)
theorem en_isName : Enters Tryz.prog 187 := enters_of Tryz.func187 rfl rfl
set_option maxHeartbeats 1000000 in
theorem indexSig_spec (l : List Sig) (hl : l.length ≤ 2000000) (g : FuncId) (ds : List DV) (hen : Enters Tryz.prog g) (p : Sig → Bool) (hp : ∀ t, t ∈ l → ASpec Tryz.prog g (sigA t :: ds.map .d) [] (Pure1 (aT (p t)))) : ASpec Tryz.prog 225 [.d (vSigs l), .clo g (ds.map .d)] [] (Pure1 (aI (findI p l))) := by
 refine ASpec.of Tryz.func225 rfl rfl fun C hC => ?_
 refine AC.seq (AC.region ?_);refine za ?_;refine AL.nil (th_n (AC.seq (AC.seq (AC.region ?_))));refine zm ?_;refine kH ?_;refine zm ?_;refine AL.nil (th_n (AC.block ?_));refine AC.loop (ι := Nat) (fun k => ⟨19, 0, [(0, .d (vSigs l)), (1, .clo g (ds.map .d)), (6, .d (vSigs l)), (7, aI l.length), (8, aI k)], []⟩) (fun k => k ≤ l.length ∧ ∀ j (hj : j < l.length), j < k → p l[j] = false) (fun k => l.length - k) (0) ?_ (⟨Nat.zero_le _, fun j _ hj => by omega⟩) ?_
 ·refine Weak.ren _ [] hC rfl ⟨.same, ⟨_, rfl, leadsL_data _ ds⟩, ?_⟩ trivial rfl rfl rfl; repeat (first | exact True.intro | refine And.intro ?_ ?_ | exact DLead.same)
 intro k ⟨hk, hall⟩;refine AC.seq (AC.region ?_);refine zc ?_;refine AL.nil (th_n (AC.seq ?_));refine AC.condD rfl (fun h0 => ?_) (fun h0 => ?_)
 ·refine AC.skip (th_n (AC.seq (AC.block (AC.seq ?_))));have hk1 : k < l.length := by omega
  have hget := sigsL_get hk1;refine AC.region ?_;refine zm ?_;refine za ?_;refine AL.nil (th_n (AC.seq (AC.region ?_)));refine AL.p (by exact mv6 rfl) rfl ?_;refine zm ?_;refine zm ?_;refine AL.p (by exact g_ia_view rfl rfl rfl rfl rfl (by rfl) (by assumption)) rfl ?_;refine kG ?_;refine AL.q (by exact h_pure hen rfl rfl (by exact ⟨_, _, rfl, ⟨_, rfl, _, _, rfl, .same, _, _, rfl, .same, rfl⟩, leadsL_data _ ds⟩) (hp l[k] (List.getElem_mem hk1)) rfl) rfl ?_;refine AL.nil (th_n ?_);refine AC.condB rfl (fun h1 => ?_) (fun h1 => ?_)
  ·refine AC.seq (AC.region ?_);refine zm ?_;refine za ?_;refine AL.nil (th_n (AC.ret (ib_r (th_r (th_r (ib_r (th_r (bq_r ?_))))))));exact ret1 rfl (by rw [findI_at hk1 h1 (fun j hj => hall j (by omega) hj)])
  refine AC.skip (ib_n (th_n (AC.region ?_)));refine zA ?_;refine zm ?_;refine AL.nil (th_n ?_);exact ⟨k + 1, ⟨by omega, fun j hj hj2 => by rcases Nat.lt_succ_iff_lt_or_eq.1 hj2 with h | rfl; exact hall j hj h; exact h1⟩, by omega, Weak.ren _ [] hC rfl ⟨.same, ⟨_, rfl, leadsL_data _ ds⟩, by repeat (first | exact True.intro | refine And.intro ?_ ?_ | exact DLead.same)⟩ trivial rfl rfl rfl⟩
 refine AC.exit (th_e (th_e (ib_y (th_n (AC.seq (AC.region ?_))))));refine za ?_;refine AL.nil (th_n (AC.ret (bq_r ?_)));exact ret1 rfl (by rw [findI_none (fun j hj => hall j hj (by omega))])
theorem en_indexSig : Enters Tryz.prog 225 := enters_of Tryz.func225 rfl rfl
set_option maxHeartbeats 1000000 in
theorem containsSig_spec (l : List Sig) (hl : l.length ≤ 2000000) (g : FuncId) (ds : List DV) (hen : Enters Tryz.prog g) (p : Sig → Bool) (hp : ∀ t, t ∈ l → ASpec Tryz.prog g (sigA t :: ds.map .d) [] (Pure1 (aT (p t)))) : ASpec Tryz.prog 188 [.d (vSigs l), .clo g (ds.map .d)] [] (Pure1 (aT (l.any p))) := by
 refine ASpec.of Tryz.func188 rfl rfl fun C hC => ?_
 refine AC.seq (AC.region ?_);refine za ?_;refine AL.nil (th_n (AC.seq (AC.region ?_)));refine zm ?_;refine AL.p (by exact mv6 rfl) rfl ?_;refine AL.q (by exact h_pure en_indexSig rfl rfl (by exact ⟨_, _, rfl, .same, _, _, rfl, ⟨_, rfl, leadsL_data _ ds⟩, rfl⟩) (indexSig_spec l hl g ds hen p hp) rfl) rfl ?_;refine zc ?_;refine za ?_;refine AL.nil (th_n (AC.ret (bq_r ?_)));exact ret1 rfl (by rw [findI_any])
theorem en_containsSig : Enters Tryz.prog 188 := enters_of Tryz.func188 rfl rfl
theorem areSignals1_spec (x s : Sig) : ASpec Tryz.prog 189 [sigA x, .d (.ref (sigD s))] [] (Pure1 (aT (decide (x.name = s.name)))) := by
 refine ASpec.of Tryz.func189 rfl rfl fun C hC => ?_
 refine AC.seq (AC.region ?_);refine kD ?_;refine za ?_;refine AL.nil (th_n (AC.seq (AC.region ?_)));refine zf ?_;refine zr ?_;refine zf ?_;refine zr ?_;refine AL.p (by exact g_scmp rfl rfl rfl) rfl ?_;refine za ?_;refine AL.nil (th_n (AC.ret (bq_r ?_)));exact ret1 rfl (by simp only [bstr_iff])
theorem en_areSignals1 : Enters Tryz.prog 189 := enters_of Tryz.func189 rfl rfl
set_option maxHeartbeats 1000000 in
theorem areSignals_spec (l : List Sig) (hl : l.length ≤ 1048576) (hn : ∀ t, t ∈ l → t.name.length ≤ 1048576) : ASpec Tryz.prog 142 [.d (vSigs l)] [] (Pure1 (aT (sigsB l))) := by
 refine ASpec.of Tryz.func142 rfl rfl fun C hC => ?_
 refine AC.seq (AC.region ?_);refine za ?_;refine AL.nil (th_n (AC.seq (AC.seq (AC.region ?_))));refine zm ?_;refine kH ?_;refine zm ?_;refine AL.nil (th_n (AC.block ?_));refine AC.loop (ι := Nat) (fun k => ⟨33, 0, [(0, .d (vSigs l)), (5, .d (vSigs l)), (6, aI l.length), (7, aI k)], []⟩) (fun k => k ≤ l.length ∧ ∀ j (hj : j < l.length), j < k → sigK l j = true) (fun k => l.length - k) (0) ?_ (⟨Nat.zero_le _, fun j _ hj => by omega⟩) ?_
 ·refine Weak.ren _ [] hC rfl ?_ ?_ rfl rfl rfl <;> repeat (first | exact True.intro | refine And.intro ?_ ?_ | exact DLead.same)
 intro k ⟨hk, hall⟩;refine AC.seq (AC.region ?_);refine zc ?_;refine AL.nil (th_n (AC.seq ?_));refine AC.condD rfl (fun h0 => ?_) (fun h0 => ?_)
 ·refine AC.skip (th_n (AC.seq (AC.block (AC.seq ?_))));have hk1 : k < l.length := by omega
  have hget := sigsL_get hk1;have hnk := hn _ (List.getElem_mem hk1);refine AC.region ?_;refine zm ?_;refine AL.p (by exact g_ia_view rfl rfl rfl rfl rfl (by rfl) (by assumption)) rfl ?_;refine kG ?_;refine kE ?_;refine za ?_;refine zs ?_;refine AL.nil (th_n (AC.seq ?_));refine AC.weak (Weak.freezeRef (ds := sigD l[k]) 4 rfl rfl) ?_;have hkl : k ≤ (sigsL l).length := by rw [sigsL_len]; exact hk
  have htk : ((sigsL l).take k).drop 0 = sigsL (l.take k) := by simp [List.map_take]
  have hN := isName_spec l[k].name (by omega);have hW := within_spec l[k].kind 1 3;have hS := containsSig_spec (l.take k) (by rw [List.length_take]; omega) 189 [.ref (sigD l[k])] en_areSignals1 (fun y => decide (y.name = l[k].name)) (fun t _ => areSignals1_spec t l[k]);have hK : sigK l k = (nameB l[k].name && ((decide ((1 : Int) ≤ l[k].kind) && decide (l[k].kind ≤ 3)) && !(l.take k).any (fun y => decide (y.name = l[k].name)))) := by rw [sigK, sAt_nat hk1]; rfl
  obtain ⟨b1, hb1⟩ := eqx (nameB l[k].name);obtain ⟨b2, hb2⟩ := eqx ((decide ((1 : Int) ≤ l[k].kind) && decide (l[k].kind ≤ 3)));obtain ⟨b3, hb3⟩ := eqx ((l.take k).any (fun y => decide (y.name = l[k].name)));rw [← hb1] at hN hK;rw [← hb2] at hW hK;rw [← hb3] at hS hK;clear hb1 hb2 hb3;refine AC.region ?_;refine zf ?_;refine zr ?_;refine kV en_isName hN ?_;refine kC ?_;refine zm ?_;refine AL.caseGB rfl rfl (fun h1 => ?_) (fun h1 => ?_)
  ·refine zn ?_;refine zn ?_;refine zn ?_;refine zn ?_;refine zQ ?_;refine zm ?_;refine zn ?_;refine zn ?_;refine zn ?_;refine zn ?_;refine zn ?_;refine zQ ?_;refine AL.nil (th_n ?_);refine AC.condT rfl ?_;refine AC.seq (AC.region ?_);refine za ?_;refine AL.nil (th_n (AC.ret (ib_r (th_r (th_r (ib_r (th_r (bq_r ?_))))))));exact ret1 rfl (by rw [sigsB_no hk1 (by rw [hK]; simp_all)])
  refine zy ?_;refine zf ?_;refine zy ?_;refine zr ?_;refine zy ?_;refine kV en_within hW ?_;refine zy ?_;refine kC ?_;refine zP ?_;refine zm ?_;refine AL.caseGB rfl rfl (fun h2 => ?_) (fun h2 => ?_)
  ·refine zn ?_;refine zn ?_;refine zn ?_;refine zn ?_;refine zn ?_;refine zQ ?_;refine AL.nil (th_n ?_);refine AC.condT rfl ?_;refine AC.seq (AC.region ?_);refine za ?_;refine AL.nil (th_n (AC.ret (ib_r (th_r (th_r (ib_r (th_r (bq_r ?_))))))));exact ret1 rfl (by rw [sigsB_no hk1 (by rw [hK]; simp_all)])
  refine zy ?_;refine zm ?_;refine zy ?_;refine zm ?_;refine zy ?_;refine AL.p (by exact g_slice_view (r := sigsL (l.take k)) (l := 0) (h := k) rfl rfl rfl rfl .none (.some rfl rfl) (Nat.zero_le _) hkl htk) rfl ?_;refine zy ?_;refine AL.p (by exact g_fn rfl) rfl ?_;refine zy ?_;refine AL.q (by exact h_pure en_containsSig rfl rfl (by exact ⟨_, _, rfl, .same, _, _, rfl, ⟨_, rfl, leadsL_data _ _⟩, rfl⟩) hS rfl) rfl ?_;refine zP ?_;refine AL.nil (th_n ?_);refine AC.condB rfl (fun h3 => ?_) (fun h3 => ?_)
  ·refine AC.seq (AC.region ?_);refine za ?_;refine AL.nil (th_n (AC.ret (ib_r (th_r (th_r (ib_r (th_r (bq_r ?_))))))));exact ret1 rfl (by rw [sigsB_no hk1 (by rw [hK]; simp_all)])
  refine AC.skip (ib_n (th_n (AC.region ?_)));refine zA ?_;refine zm ?_;refine AL.nil (th_n ?_);exact ⟨k + 1, ⟨by omega, fun j hj hj2 => by rcases Nat.lt_succ_iff_lt_or_eq.1 hj2 with h | rfl; exact hall j hj h; rw [hK]; simp_all⟩, by omega, Weak.ren _ [] hC rfl (by repeat (first | exact True.intro | refine And.intro ?_ ?_ | exact DLead.same)) (by repeat (exact True.intro)) rfl rfl rfl⟩
 refine AC.exit (th_e (th_e (ib_y (th_n (AC.seq (AC.region ?_))))));refine zm ?_;refine kH ?_;refine AL.q (by exact h_pure en_within rfl rfl (by repeat (first | exact rfl | exact DLead.same | refine ⟨_, _, rfl, ?_, ?_⟩)) (within_spec _ _ _) rfl) rfl ?_;refine za ?_;refine AL.nil (th_n (AC.ret (bq_r ?_)));exact ret1 rfl (by rw [sigsB_yes (fun j hj => hall j hj (by omega))]; rfl)
theorem en_areSignals : Enters Tryz.prog 142 := enters_of Tryz.func142 rfl rfl
theorem any_take_step {α : Type} {p : α → Bool} {l : List α} {k : Nat} (hk : k < l.length) (h : ∀ j (hj : j < l.length), j < k → p l[j] = false) : (l.take k).any p = false := by
 rw [List.any_eq_false];intro x hx;obtain ⟨j, hj, rfl⟩ := List.getElem_of_mem hx;rw [List.length_take] at hj;rw [List.getElem_take, h j (by omega) (by omega)];simp
theorem any_take_at {α : Type} {p : α → Bool} {l : List α} {k j : Nat} (hk : k ≤ l.length) (hj : j < k) (h : p (l[j]'(by omega)) = true) : (l.take k).any p = true := by
 rw [List.any_eq_true];exact ⟨l[j]'(by omega), List.mem_take_iff_getElem.2 ⟨j, by omega, rfl⟩, h⟩
set_option maxHeartbeats 1000000 in
theorem l2Signals_spec (l : List Sig) (hl : l.length ≤ 1048576) (hn : ∀ t, t ∈ l → t.name.length ≤ 1048576) : ASpec Tryz.prog 126 [.d (vSigs l)] [] (Pure1 (aT (sigsB l))) := by
 refine ASpec.of Tryz.func126 rfl rfl fun C hC => ?_
 refine AC.seq (AC.region ?_);refine za ?_;refine AL.nil (th_n (AC.seq (AC.seq (AC.region ?_))));refine zm ?_;refine kH ?_;refine zm ?_;refine AL.nil (th_n (AC.block ?_));refine AC.loop (ι := Nat) (fun k => ⟨42, 0, [(0, .d (vSigs l)), (7, .d (vSigs l)), (8, aI l.length), (9, aI k)], []⟩) (fun k => k ≤ l.length ∧ ∀ j (hj : j < l.length), j < k → sigK l j = true) (fun k => l.length - k) (0) ?_ (⟨Nat.zero_le _, fun j _ hj => by omega⟩) ?_
 ·refine Weak.ren _ [] hC rfl ?_ ?_ rfl rfl rfl <;> repeat (first | exact True.intro | refine And.intro ?_ ?_ | exact DLead.same)
 intro k ⟨hk, hall⟩;refine AC.seq (AC.region ?_);refine zc ?_;refine AL.nil (th_n (AC.seq ?_));refine AC.condD rfl (fun h0 => ?_) (fun h0 => ?_)
 ·refine AC.skip (th_n (AC.seq (AC.block (AC.seq ?_))));have hk1 : k < l.length := by omega
  have hget := sigsL_get hk1;have hnk := hn _ (List.getElem_mem hk1);refine AC.region ?_;refine zm ?_;refine AL.p (by exact g_ia_view rfl rfl rfl rfl rfl (by rfl) (by assumption)) rfl ?_;refine kG ?_;refine kE ?_;refine za ?_;refine zs ?_;refine AL.nil (th_n (AC.seq (AC.seq ?_)));refine AC.weak (Weak.freezeRef (ds := sigD l[k]) 4 rfl rfl) ?_;have hkl : k ≤ (sigsL l).length := by rw [sigsL_len]; exact hk
  have htk : ((sigsL l).take k).drop 0 = sigsL (l.take k) := by simp [List.map_take]
  have hN := l2Name_spec l[k].name (by omega);have hW := l1In_spec l[k].kind 1 3;have hK : sigK l k = (nameB l[k].name && ((decide ((1 : Int) ≤ l[k].kind) && decide (l[k].kind ≤ 3)) && !(l.take k).any (fun y => decide (y.name = l[k].name)))) := by rw [sigK, sAt_nat hk1]; rfl
  obtain ⟨b1, hb1⟩ := eqx (nameB l[k].name);obtain ⟨b2, hb2⟩ := eqx ((decide ((1 : Int) ≤ l[k].kind) && decide (l[k].kind ≤ 3)));rw [← hb1] at hN hK;rw [← hb2] at hW hK;clear hb1 hb2;refine AC.region ?_;refine zf ?_;refine zr ?_;refine kV en_l2Name hN ?_;refine kC ?_;refine zm ?_;refine AL.caseGB rfl rfl (fun h1 => ?_) (fun h1 => ?_)
  ·refine zn ?_;refine zn ?_;refine zn ?_;refine zn ?_;refine zQ ?_;refine AL.nil (th_n ?_);refine AC.condT rfl ?_;refine AC.seq (AC.region ?_);refine za ?_;refine AL.nil (th_n (AC.ret (th_r (ib_r (th_r (th_r (ib_r (th_r (bq_r ?_)))))))));exact ret1 rfl (by rw [sigsB_no hk1 (by rw [hK]; simp_all)])
  refine zy ?_;refine zf ?_;refine zy ?_;refine zr ?_;refine zy ?_;refine kV en_l1In hW ?_;refine zy ?_;refine kC ?_;refine zP ?_;refine AL.nil (th_n ?_);refine AC.condB rfl (fun h2 => ?_) (fun h2 => ?_)
  ·refine AC.seq (AC.region ?_);refine za ?_;refine AL.nil (th_n (AC.ret (th_r (ib_r (th_r (th_r (ib_r (th_r (bq_r ?_)))))))));exact ret1 rfl (by rw [sigsB_no hk1 (by rw [hK]; simp_all)])
  refine AC.skip (th_n (AC.seq (AC.region ?_)));refine zm ?_;refine zm ?_;refine AL.p (by exact g_slice_view (r := sigsL (l.take k)) (l := 0) (h := k) rfl rfl rfl rfl .none (.some rfl rfl) (Nat.zero_le _) hkl htk) rfl ?_;refine AL.p (by exact g_len_view (els := sigsL (l.take k)) (k := k) rfl rfl (by rw [sigsL_len, List.length_take]; omega)) rfl ?_;refine zm ?_;refine AL.nil (th_n (AC.block ?_));refine AC.loop (ι := Nat) (fun q => ⟨42, 0, [(0, .d (vSigs l)), (7, .d (vSigs l)), (8, aI l.length), (9, aI k), (4, .d (.ref (sigD l[k]))), (26, .d (vSigs (l.take k))), (27, aI k), (28, aI q)], []⟩) (fun q => q ≤ k ∧ ∀ j (hj : j < l.length), j < q → (fun y : Sig => decide (y.name = l[k].name)) l[j] = false) (fun q => k - q) (0) ?_ (⟨Nat.zero_le _, fun j _ hj => by omega⟩) ?_
  ·refine Weak.ren _ [] hC rfl ?_ ?_ rfl rfl rfl <;> repeat (first | exact True.intro | refine And.intro ?_ ?_ | exact DLead.same)
  intro q ⟨hq, hno⟩;refine AC.seq (AC.region ?_);refine zc ?_;refine AL.nil (th_n (AC.seq ?_));refine AC.condD rfl (fun h3 => ?_) (fun h3 => ?_)
  ·refine AC.skip (th_n (AC.seq (AC.block (AC.seq ?_))));have hq1 : q < k := by omega
   have hget2 : (sigsL (l.take k))[q]? = some (sigD (l[q]'(by omega))) := by rw [sigsL_get (by rw [List.length_take]; omega)]; simp
   refine AC.region ?_;refine AL.p (by exact g_ia_view rfl rfl rfl rfl rfl (by rfl) (by assumption)) rfl ?_;refine kG ?_;refine kE ?_;refine zs ?_;refine AL.nil (th_n (AC.seq (AC.region ?_)));refine zf ?_;refine zr ?_;refine zF ?_;refine zl ?_;refine AL.p (by exact g_scmp rfl rfl rfl) rfl ?_;refine AL.nil (th_n ?_);refine AC.condD rfl (fun h4 => ?_) (fun h4 => ?_)
   ·refine AC.seq (AC.region ?_);refine za ?_;refine AL.nil (th_n (AC.ret (ib_r (th_r (th_r (ib_r (ib_r (th_r (th_r (ib_r (th_r (bq_r ?_))))))))))));have hne : (l.take k).any (fun y => decide (y.name = l[k].name)) = true := any_take_at (by omega) hq1 (by have := bstr_inj h4; simp [this]);exact ret1 rfl (by rw [sigsB_no hk1 (by rw [hK, hne]; simp)])
   refine AC.skip (ib_n (th_n (AC.region ?_)));refine zA ?_;refine zm ?_;refine AL.nil (th_n ?_);exact ⟨q + 1, ⟨by omega, fun j hj hj2 => by rcases Nat.lt_succ_iff_lt_or_eq.1 hj2 with h | rfl; exact hno j hj h; exact decide_eq_false (fun e => h4 (by rw [e]))⟩, by omega, Weak.ren _ [] hC rfl (by repeat (first | exact True.intro | refine And.intro ?_ ?_ | exact DLead.same)) (by repeat (exact True.intro)) rfl rfl rfl⟩
  refine AC.exit (th_e (th_e (ib_y (ib_n (th_n (AC.region ?_))))));refine zA ?_;refine zm ?_;refine AL.nil (th_n ?_);exact ⟨k + 1, ⟨by omega, fun j hj hj2 => by rcases Nat.lt_succ_iff_lt_or_eq.1 hj2 with h | rfl; exact hall j hj h; rw [hK, any_take_step hk1 (fun j hj hjk => hno j hj (by omega))]; simp_all⟩, by omega, Weak.ren _ [] hC rfl (by repeat (first | exact True.intro | refine And.intro ?_ ?_ | exact DLead.same)) (by repeat (exact True.intro)) rfl rfl rfl⟩
 refine AC.exit (th_e (th_e (ib_y (th_n (AC.seq (AC.region ?_))))));refine zm ?_;refine kH ?_;refine AL.q (by exact h_pure en_l1In rfl rfl (by repeat (first | exact rfl | exact DLead.same | refine ⟨_, _, rfl, ?_, ?_⟩)) (l1In_spec _ _ _) rfl) rfl ?_;refine za ?_;refine AL.nil (th_n (AC.ret (bq_r ?_)));exact ret1 rfl (by rw [sigsB_yes (fun j hj => hall j hj (by omega))]; rfl)
theorem en_l2Signals : Enters Tryz.prog 126 := enters_of Tryz.func126 rfl rfl
def intBool (P : Program) (t : Nat) : Bool :=
 match P.underlying t with
 | some (.struct fs) =>
  !P.stoodInHeld t && !P.eqGuardType P.depth t &&
   match fs.toList with
   | [f, g] => f.name != "_" && g.name != "_" && f.offset == 0 && g.offset == 1 &&
    (match P.underlying f.type with | some (.int _) => true | _ => false) && (match P.underlying g.type with | some .bool => true | _ => false) && P.plainKey f.type && P.plainKey g.type
   | _ => false
 | _ => false
section
variable {P : Program} [PT P]
variable {s : ASt} {dst : Option Nat} {ty : Nat} {pos : String} {af : Array Edge} {gd : Option (Nat × Bool)} {x y : Operand} {xt yt : Nat}
theorem equalIB {t : Nat} {a c : Int} {b d : Bool} (h : intBool P t = true) (w : World) : (Op.equalIn 10000 t (.agg #[.int .i64 a, .bool b]) (.agg #[.int .i64 c, .bool d])).run P w = .ok (decide (a = c ∧ b = d)) w ∧ P.eqGuardType P.depth t = false := by
 unfold intBool at h
 split at h
 ·rename_i fs hu;simp only [Bool.and_eq_true, Bool.not_eq_true'] at h;obtain ⟨⟨h1, h2⟩, h3⟩ := h;refine ⟨?_, h2⟩;have hF : P.fieldsOf t = fs := by unfold Program.fieldsOf; rw [hu]
  rw [run_equalIn_agg w 9999 t _ _ (by rw [hF]; exact hu) h1, hF]
  split at h3
  ·rename_i f g he;rw [he];simp only [Bool.and_eq_true, bne_iff_ne, ne_eq, beq_iff_eq] at h3;obtain ⟨⟨⟨⟨⟨⟨⟨n1, n2⟩, o1⟩, o2⟩, u1⟩, u2⟩, p1⟩, p2⟩ := h3
   split at u1
   ·rename_i k1 hu1
    split at u2
    ·rename_i hu2;simp only [Op.eqFields, ne_eq, n1, n2, not_false_eq_true, if_true, o1, o2, Sem.run_bind];rw [run_part_plain (w := w) p1 (v := .int .i64 a) rfl];simp only [Result.andThen_ok, Sem.run_bind];rw [run_part_plain (w := w) p1 (v := .int .i64 c) rfl];simp only [Result.andThen_ok, Sem.run_bind];rw [run_equalIn_int w _ _ _ _ _ _ hu1];simp only [Result.andThen_ok, Sem.run_ite]
     by_cases e1 : a = c
     ·subst e1;rw [if_neg (by simp)];simp only [Sem.run_bind];rw [run_part_plain (w := w) p2 (v := .bool b) rfl];simp only [Result.andThen_ok, Sem.run_bind];rw [run_part_plain (w := w) p2 (v := .bool d) rfl];simp only [Result.andThen_ok, Sem.run_bind];rw [run_equalIn_bool' w _ _ _ _ hu2];simp only [Result.andThen_ok, Sem.run_ite, Sem.run_pure]
      by_cases e2 : b = d
      ·subst e2; simp
      simp [e2]
     rw [if_pos (by simp [e1])];simp [e1]
    exact absurd u2 (by decide)
   exact absurd u1 (by decide)
  exact absurd h3 (by decide)
 exact absurd h (by decide)
theorem ib_agg {m : Nat → Option (Option Nat × Nat)} {F : Nat → Prop} {w : World} {a : Int} {b : Bool} {v : Value} (h : ARep m F w (.agg [aI a, aT b]) v) : v = .agg #[.int .i64 a, .bool b] := by
 cases h with
 | agg h1 h2 h3 =>
  rename_i vs;have e0 := h2 0 _ rfl;have e1 := h2 1 _ rfl;obtain ⟨e0, -⟩ := e0.val_eq;obtain ⟨e1, -⟩ := e1.val_eq;have hsz : vs.size = 2 := h1;congr 1
  apply Array.ext
  ·exact hsz
  intro i hi hi2
  match i, hi, hi2 with
  | 0, hi, hi2 => rw [Array.getD_eq_getD_getElem?, Array.getElem?_eq_getElem hi] at e0; exact e0
  | 1, hi, hi2 => rw [Array.getD_eq_getD_getElem?, Array.getElem?_eq_getElem hi] at e1; exact e1
  | n + 2, hi, hi2 => omega
theorem g_eqIB {a c : Int} {b d : Bool} {op : BinOp} {r : Bool} (ht : intBool P xt = true) (hx : s.ev x = .agg [aI a, aT b]) (hy : s.ev y = .agg [aI c, aT d]) (hop : eqOf op (decide (a = c ∧ b = d)) = some r) :
  GOp P [] s ⟨dst, .binOp op xt x y yt, ty, pos, af, gd⟩ (aT r) := by
 refine ⟨fun s' ha C U a' w m hR => ?_⟩;have h1 := hR.ev x;have h2 := hR.ev y;rw [ha.2.1 x (by simp [Op.operands]), hx] at h1;rw [ha.2.1 y (by simp [Op.operands]), hy] at h2;have e1 := ib_agg h1;have e2 := ib_agg h2;obtain ⟨q1, q2⟩ := equalIB (a := a) (b := b) (c := c) (d := d) ht w;refine ⟨.bool r, ?_, .d (.val trivial)⟩;simp only [execOp, e1, e2, Sem.run_bind, run_eqGuard_agg w op xt x y _ _ q2, Result.andThen_ok];cases op <;> simp only [eqOf, Option.some.injEq, reduceCtorEq] at hop
 ·subst hop; rw [run_eql_struct, q1]; rfl
 subst hop; rw [run_neq_struct, q1]; rfl
end
structure Stg where
 net : Net
 sigs : List Sig
 labs : List Lab
 start : List UInt8
abbrev stgD (s : Stg) : List DV := [dI s.net.places, vTs s.net.ts, vSigs s.sigs, vLabs s.labs, dS (bstr s.start)]
abbrev stgA (s : Stg) : AV := .agg [aI s.net.places, .d (vTs s.net.ts), .d (vSigs s.sigs), .d (vLabs s.labs), aS (bstr s.start)]
def labOk (x : Lab) (n : Int) : Bool := (decide (0 ≤ x.sig) && decide (x.sig ≤ n - 1)) || (decide (x.sig = -1) && !x.up)
def goodS (s : Stg) : Bool := (goodN s.net && bitsB s.start s.net.places) && (sigsB s.sigs && (decide ((s.labs.length : Int) = s.net.ts.length) && s.labs.all (fun x => labOk x s.sigs.length)))
structure StgL (s : Stg) : Prop where
 n : NetL s.net
 sg : s.sigs.length ≤ 1048576
 sn : ∀ t, t ∈ s.sigs → t.name.length ≤ 1048576
 l : s.labs.length ≤ 1048576
 st : s.start.length ≤ 2000000
theorem l2Label_spec (x : Lab) (n : Nat) (hn : n ≤ 1048576) : ASpec Tryz.prog 171 [labA x, aI n] [] (Pure1 (aT (labOk x n))) := by
 have hX := l1In_spec x.sig 0 ((n : Int) - 1);have hk : labOk x n = ((decide (0 ≤ x.sig) && decide (x.sig ≤ (n : Int) - 1)) || (decide (x.sig = -1) && !x.up)) := rfl;obtain ⟨b, hb⟩ := eqx ((decide (0 ≤ x.sig) && decide (x.sig ≤ (n : Int) - 1)));rw [← hb] at hX hk;clear hb;refine ASpec.of Tryz.func171 rfl rfl fun C hC => ?_
 refine AC.seq (AC.region ?_);refine kD ?_;refine za ?_;refine AL.nil (th_n (AC.seq (AC.region ?_)));refine zf ?_;refine zr ?_;refine zm ?_;refine zA ?_;refine kV en_l1In hX ?_;refine zm ?_;refine AL.caseGB rfl rfl (fun h0 => ?_) (fun h0 => ?_)
 ·refine zn ?_;refine zn ?_;refine zn ?_;refine zn ?_;refine AL.notU rfl rfl rfl ?_;refine AL.notU rfl rfl rfl ?_;refine AL.notU rfl rfl rfl ?_;refine zn ?_;refine zQ ?_;refine za ?_;refine AL.nil (th_n (AC.ret (bq_r ?_)));exact ret1 rfl (by rw [hk]; simp_all)
 refine zy ?_;refine zf ?_;refine zy ?_;refine zr ?_;refine zy ?_;refine zc ?_;refine zy ?_;refine zm ?_;refine AL.caseG rfl rfl (fun h1 => ?_) (fun h1 => ?_)
 ·refine zy ?_;refine zf ?_;refine zy ?_;refine zr ?_;refine zy ?_;refine kC ?_;refine zy ?_;refine zQ ?_;refine zP ?_;refine za ?_;refine AL.nil (th_n (AC.ret (bq_r ?_)));exact ret1 rfl (by rw [hk]; simp_all)
 refine zn ?_;refine zn ?_;refine zn ?_;refine zy ?_;refine zP ?_;refine zP ?_;refine za ?_;refine AL.nil (th_n (AC.ret (bq_r ?_)));exact ret1 rfl (by rw [hk]; simp_all)
theorem en_l2Label : Enters Tryz.prog 171 := enters_of Tryz.func171 rfl rfl
theorem isEdge_spec (x : Lab) (n : Nat) (hn : n ≤ 1048576) : ASpec Tryz.prog 144 [labA x, aI n] [] (Pure1 (aT (labOk x n))) := by
 have hX := within_spec x.sig 0 ((n : Int) - 1)
 have hk : labOk x n = ((decide (0 ≤ x.sig) && decide (x.sig ≤ (n : Int) - 1)) || decide (x.sig = -1 ∧ x.up = false)) := by
  unfold labOk;congr 1;cases x.up <;> by_cases h : x.sig = -1 <;> simp [h]
 obtain ⟨b, hb⟩ := eqx ((decide (0 ≤ x.sig) && decide (x.sig ≤ (n : Int) - 1)));rw [← hb] at hX hk;clear hb;refine ASpec.of Tryz.func144 rfl rfl fun C hC => ?_
 refine AC.seq (AC.region ?_);refine kD ?_;refine za ?_;refine AL.nil (th_n (AC.seq (AC.region ?_)));refine zf ?_;refine zr ?_;refine zm ?_;refine zA ?_;refine kV en_within hX ?_;refine zm ?_;refine AL.caseGB rfl rfl (fun h0 => ?_) (fun h0 => ?_)
 ·refine zn ?_;refine zn ?_;refine zn ?_;refine zQ ?_;refine za ?_;refine AL.nil (th_n (AC.ret (bq_r ?_)));exact ret1 rfl (by rw [hk, h0]; rfl)
 refine zy ?_;refine kG ?_;refine zy ?_;refine AL.p (by exact g_build rfl rfl rfl) rfl ?_;refine zy ?_;refine AL.p (by exact g_eqIB (a := x.sig) (b := x.up) (c := -1) (d := false) (by decide +kernel) rfl rfl rfl) rfl ?_;refine zP ?_;refine za ?_;refine AL.nil (th_n (AC.ret (bq_r ?_)));exact ret1 rfl (by rw [hk, h0]; rfl)
theorem en_isEdge : Enters Tryz.prog 144 := enters_of Tryz.func144 rfl rfl
set_option maxHeartbeats 2000000 in
theorem l2Good_spec (s : Stg) (h : StgL s) : ASpec Tryz.prog 240 [stgA s] [] (Pure1 (aT (goodS s))) := by
 have hM := l1Mark_spec s.net s.start h.st;have hN := l1Good_gen s.net h.n;have hS := l2Signals_spec s.sigs h.sg h.sn;have hll := h.l;have htl := h.n.l;have hg : goodS s = ((goodN s.net && bitsB s.start s.net.places) && (sigsB s.sigs && (decide ((s.labs.length : Int) = s.net.ts.length) && s.labs.all (fun x => labOk x s.sigs.length)))) := rfl;obtain ⟨b1, hb1⟩ := eqx (goodN s.net);obtain ⟨b2, hb2⟩ := eqx (sigsB s.sigs);obtain ⟨b3, hb3⟩ := eqx (bitsB s.start s.net.places);rw [← hb1] at hN hg;rw [← hb2] at hS hg;rw [← hb3] at hM hg;clear hb1 hb2 hb3;refine ASpec.of Tryz.func240 rfl rfl fun C hC => ?_
 refine AC.seq (AC.region ?_);refine kD ?_;refine za ?_;refine AL.nil (th_n (AC.seq (AC.seq (AC.region ?_))));refine zf ?_;refine zr ?_;refine kH ?_;refine zm ?_;refine AL.nil (th_n (AC.block ?_));refine AC.loop (ι := Nat) (fun k => ⟨44, 0, [(1, .d (.ref (stgD s))), (6, .d (vLabs s.labs)), (7, aI s.labs.length), (8, aI k)], []⟩) (fun k => k ≤ s.labs.length ∧ ∀ j (hj : j < s.labs.length), j < k → labOk s.labs[j] s.sigs.length = true) (fun k => s.labs.length - k) (0) ?_ (⟨Nat.zero_le _, fun j _ hj => by omega⟩) ?_
 ·refine Weak.ren _ [] hC rfl ?_ ?_ rfl rfl rfl <;> repeat (first | exact True.intro | refine And.intro ?_ ?_ | exact DLead.same)
 intro k ⟨hk, hall⟩;refine AC.seq (AC.region ?_);refine zc ?_;refine AL.nil (th_n (AC.seq ?_));refine AC.condD rfl (fun h0 => ?_) (fun h0 => ?_)
 ·refine AC.skip (th_n (AC.seq (AC.block (AC.seq ?_))));have hk1 : k < s.labs.length := by omega
  have hget := labsL_get hk1;have hL := l2Label_spec s.labs[k] s.sigs.length h.sg;obtain ⟨c, hc⟩ := eqx (labOk s.labs[k] s.sigs.length);rw [← hc] at hL;refine AC.region ?_;refine AL.p (by exact g_ia_view rfl rfl rfl rfl rfl (by rfl) (by assumption)) rfl ?_;refine kG ?_;refine kE ?_;refine zs ?_;refine AL.nil (th_n (AC.seq ?_));refine AC.weak (Weak.freezeRef (ds := labD s.labs[k]) 4 rfl rfl) ?_;refine AC.region ?_;refine kG ?_;refine zf ?_;refine zr ?_;refine kH ?_;refine kV en_l2Label hL ?_;refine kC ?_;refine AL.nil (th_n ?_);refine AC.condB rfl (fun h1 => ?_) (fun h1 => ?_)
  ·refine AC.seq (AC.region ?_);refine za ?_;refine AL.nil (th_n (AC.ret (ib_r (th_r (th_r (ib_r (th_r (bq_r ?_))))))));have hbad : s.labs.all (fun x => labOk x s.sigs.length) = false := List.all_eq_false.2 ⟨_, List.getElem_mem hk1, by rw [← hc]; simpa using h1⟩;exact ret1 rfl (by rw [hg, hbad]; simp)
  refine AC.skip (ib_n (th_n (AC.region ?_)));refine zA ?_;refine zm ?_;refine AL.nil (th_n ?_);exact ⟨k + 1, ⟨by omega, fun j hj hj2 => by rcases Nat.lt_succ_iff_lt_or_eq.1 hj2 with h | rfl; exact hall j hj h; exact hc.symm.trans (by simpa using h1)⟩, by omega, Weak.ren _ [] hC rfl (by repeat (first | exact True.intro | refine And.intro ?_ ?_ | exact DLead.same)) (by repeat (exact True.intro)) rfl rfl rfl⟩
 refine AC.exit (th_e (th_e (ib_y (th_n (AC.seq ?_)))));have hA : s.labs.all (fun x => labOk x s.sigs.length) = true := List.all_eq_true.2 (fun x hx => by obtain ⟨j, hj, rfl⟩ := List.getElem_of_mem hx; exact hall j hj (by omega));rw [hA, Bool.and_true] at hg;refine AC.region ?_;refine zf ?_;refine kG ?_;refine kV en_l1Good hN ?_;refine zm ?_;refine AL.caseGB rfl rfl (fun h1 => ?_) (fun h1 => ?_)
 ·refine zy ?_;refine zf ?_;refine zy ?_;refine zr ?_;refine zy ?_;refine kV en_l2Signals hS ?_;refine zQ ?_;refine zm ?_;refine AL.caseGB rfl rfl (fun h2 => ?_) (fun h2 => ?_)
  ·refine zy ?_;refine zf ?_;refine zy ?_;refine zr ?_;refine zy ?_;refine kH ?_;refine zy ?_;refine zf ?_;refine zy ?_;refine zf ?_;refine zy ?_;refine zr ?_;refine zy ?_;refine kH ?_;refine zy ?_;refine zc ?_;refine zQ ?_;refine zm ?_;refine AL.caseG rfl rfl (fun h3 => ?_) (fun h3 => ?_)
   ·refine zy ?_;refine zf ?_;refine zy ?_;refine kG ?_;refine zy ?_;refine zf ?_;refine zy ?_;refine zr ?_;refine zy ?_;refine kV en_l1Mark hM ?_;refine zQ ?_;refine za ?_;refine AL.nil (th_n (AC.ret (bq_r ?_)));exact ret1 rfl (by clear hM hN hS hall; rw [hg]; simp_all)
   refine zn ?_;refine zn ?_;refine zn ?_;refine zn ?_;refine zn ?_;refine zP ?_;refine za ?_;refine AL.nil (th_n (AC.ret (bq_r ?_)));exact ret1 rfl (by clear hM hN hS hall; rw [hg]; simp_all)
  refine zn ?_;refine zn ?_;refine zn ?_;refine zn ?_;refine zn ?_;refine zn ?_;refine zn ?_;refine zn ?_;refine zP ?_;refine zm ?_;refine zn ?_;refine zn ?_;refine zn ?_;refine zn ?_;refine zn ?_;refine zP ?_;refine za ?_;refine AL.nil (th_n (AC.ret (bq_r ?_)));exact ret1 rfl (by clear hM hN hS hall; rw [hg]; simp_all)
 refine zn ?_;refine zn ?_;refine zn ?_;refine zP ?_;refine zm ?_;refine zn ?_;refine zn ?_;refine zn ?_;refine zn ?_;refine zn ?_;refine zn ?_;refine zn ?_;refine zn ?_;refine zP ?_;refine zm ?_;refine zn ?_;refine zn ?_;refine zn ?_;refine zn ?_;refine zn ?_;refine zP ?_;refine za ?_;refine AL.nil (th_n (AC.ret (bq_r ?_)));exact ret1 rfl (by clear hM hN hS hall; rw [hg]; simp_all)
theorem en_l2Good : Enters Tryz.prog 240 := enters_of Tryz.func240 rfl rfl
def sortI (l : List Int) : List Int := l.mergeSort (fun x y => decide (x ≤ y))
theorem sortI_len (l : List Int) : (sortI l).length = l.length := List.length_mergeSort _
theorem DRep.val_is {F : Nat → Prop} {w : World} {u v : Value} (h : DRep F w (.val u) v) : v = u ∧ okV u := by
 cases h with
 | val h => exact ⟨rfl, h⟩
section
variable {P : Program} [PT P] {s : ASt} {dst : Option Nat} {ty : Nat} {pos : String} {af : Array Edge} {gd : Option (Nat × Bool)} {x : Operand} {f t : Nat}
theorem fr_iter (w : World) (b : Nat) (o : Obj) : Fr [b] w { w with heap := w.heap.setIfInBounds b o } :=
 ⟨rfl, rfl, rfl, by simp, fun k hk hn => by
  show (w.heap.setIfInBounds b o)[k]? = _
  rw [Array.getElem?_setIfInBounds_ne (by simpa [eq_comm] using hn)]⟩
end
section
variable {P : Program} [PT P]
variable {s : ASt} {dst : Option Nat} {ty : Nat} {pos : String} {af : Array Edge} {gd : Option (Nat × Bool)} {x y : Operand} {t : Nat}
theorem g_saddB {a b : List UInt8} {xt yt : Nat} (hx : s.ev x = aS (bstr a)) (hy : s.ev y = aS (bstr b)) (hl : a.length + b.length ≤ 4611686018427387904) : GOp P [] s ⟨dst, .binOp .add xt x y yt, ty, pos, af, gd⟩ (aS (bstr (a ++ b))) := by
 rw [← bstr_append];exact g_sadd hx hy (by rw [bstr_size, bstr_size]; omega)
end
open Go.ChangeShapes Go.WideShapes Go.ChangeAt Go.RowKit
section
variable {H : Type} {enc : TypeId × Value → H} {P : Program}
structure RT (enc : TypeId × Value → H) (P : Program) (t : TypeId) (k : Nat) {α : Type} (f : α → List DV) (ok : α → Prop) : Prop where
 rd : ∀ (W : World) (fuel : Nat) (cs : List Value) (x : DataW H × List MemPlace), DataW.trod enc P W 0 (fun _ => true) true fuel t cs = some x →
  cs.length = k ∧ ∃ a, ok a ∧ (f a).length = k ∧ ∀ j d, (f a)[j]? = some d → DRep (fun k => k < W.heap.size) W d (cs.getD j undef)
theorem get1 {x d : DV} {j : Nat} (h : [x][j]? = some d) : j = 0 ∧ d = x := by
 cases j with
 | zero => simp at h; exact ⟨rfl, h.symm⟩
 | succ j => simp at h
def okI (n : Int) : Prop := -9223372036854775808 ≤ n ∧ n ≤ 9223372036854775807
theorem RT.int {t : TypeId} (ht : P.underlying t = some (.int .i64)) : RT enc P t 1 (fun n : Int => [dI n]) okI := by
 refine ⟨fun W fuel cs x h => ?_⟩;obtain ⟨n, rfl, rfl, hwf⟩ := DataW.trod_int ht h;have hb := bounds_i64 hwf;refine ⟨rfl, n, hb, rfl, fun j d hj => ?_⟩;obtain ⟨rfl, rfl⟩ := get1 hj;refine .val ?_;show IntKind.i64.wrap n = n;exact wrap_i64 hb
theorem RT.bool {t : TypeId} (ht : P.underlying t = some .bool) : RT enc P t 1 (fun b : Bool => [dT b]) (fun _ => True) := by
 refine ⟨fun W fuel cs x h => ?_⟩;obtain ⟨b, rfl, rfl⟩ := DataW.trod_bool ht h;exact ⟨rfl, b, trivial, rfl, fun j d hj => by obtain ⟨rfl, rfl⟩ := get1 hj; exact .val trivial⟩
theorem RT.str {t : TypeId} (ht : P.underlying t = some .string) : RT enc P t 1 (fun s : List UInt8 => [dS (bstr s)]) (fun s => s.length ≤ 9223372036854775807) := by
 refine ⟨fun W fuel cs x h => ?_⟩;obtain ⟨s, rfl, rfl, hm⟩ := DataW.trod_string ht h;have hsz : s.data.toList.length = s.size := by simp
 have he : bstr s.data.toList = s := by
  apply ByteArray.ext
  simp [bstr]
 refine ⟨rfl, s.data.toList, by rw [hsz]; exact hm, rfl, fun j d hj => ?_⟩;simp only [he] at hj;obtain ⟨rfl, rfl⟩ := get1 hj;exact .val hm
theorem list_of {α : Type} {n : Nat} {Q : Nat → α → Prop} (h : ∀ i, i < n → ∃ a, Q i a) : ∃ l : List α, l.length = n ∧ ∀ i a, l[i]? = some a → Q i a := by
 induction n with
 | zero => exact ⟨[], rfl, fun i a h => by simp at h⟩
 | succ n ih =>
  obtain ⟨l, hl, hq⟩ := ih fun i hi => h i (by omega)
  obtain ⟨a, ha⟩ := h n (by omega);refine ⟨l ++ [a], by simp [hl], fun i b hb => ?_⟩
  by_cases hi : i < l.length
  ·rw [List.getElem?_append_left hi] at hb; exact hq i b hb
  rw [List.getElem?_append_right (by omega)] at hb
  have h0 : i - l.length = 0 := by
   by_cases e : i - l.length = 0
   ·exact e
   rw [List.getElem?_eq_none (by simp; omega)] at hb; cases hb
  rw [h0] at hb;simp at hb; subst hb;have : i = n := by omega
  subst this; exact ha
theorem RT.slice {t e : TypeId} {k : Nat} {α : Type} {f : α → List DV} {ok : α → Prop} (te : Nat) (ht : P.underlying t = some (.slice e)) (hc : P.cellsOf e = k) (hk : 0 < k) (hr : RT enc P e k f ok) :
  RT enc P t 1 (fun l : List α => [.view te k (l.map f)]) (fun l => l.length ≤ 9223372036854775807 ∧ ∀ a, a ∈ l → ok a) := by
 refine ⟨fun W fuel cs x h => ?_⟩;rcases DataW.trod_slice ht h with ⟨rfl, _⟩ | ⟨a, len, cap, elems, rest, n, _, rfl, _, _, hl, hm, hlen, hel, hsp, _⟩
 ·exact ⟨rfl, [], ⟨Nat.zero_le _, fun a ha => absurd ha List.not_mem_nil⟩, rfl, fun j d hj => by obtain ⟨rfl, rfl⟩ := get1 hj; exact .nil⟩
 refine ⟨rfl, ?_⟩;rw [hc] at hel hsp;obtain ⟨hrl, hrs⟩ := hsp rfl
 -- every element up to the capacity is there
 have hcell : ∀ i, i < cap → ∃ cs', W.cells? 0 (a.add (i * k)) k = some cs' ∧ ∃ y, DataW.trod enc P W 0 (fun _ => true) true n e cs' = some y := by
  intro i hi
  by_cases hil : i < len
  ·have h1 := hel i hil;rw [List.getElem?_eq_getElem (by omega)] at h1;obtain ⟨cs', h2, h3⟩ := Option.bind_eq_some_iff.1 h1;exact ⟨cs', h2, _, h3⟩
  have h1 := hrs (i - len) (by omega);rw [show len + (i - len) = i by omega, List.getElem?_eq_getElem (by omega)] at h1;obtain ⟨cs', h2, h3⟩ := Option.bind_eq_some_iff.1 h1;exact ⟨cs', h2, _, h3⟩
 by_cases hc0 : cap = 0
 ·subst hc0;have : len = 0 := by omega
  subst this;exact ⟨[], ⟨Nat.zero_le _, fun a ha => absurd ha List.not_mem_nil⟩, rfl, fun j d hj => by obtain ⟨rfl, rfl⟩ := get1 hj; exact .empty⟩
 obtain ⟨b, off, sp⟩ := a
 have hrow : ∀ i, i < cap → ∀ j, j < k → ∃ v, W.cell? (((⟨b, off, sp⟩ : Addr).add (i * k)).add j) = some v := by
  intro i hi j hj;obtain ⟨cs', h1, _⟩ := hcell i hi;obtain ⟨_, h2, h3⟩ := World.cells?_some h1;rw [h3 j hj, List.getElem?_eq_getElem (by omega)];exact ⟨_, rfl⟩
 have h00 := hrow 0 (by omega) 0 hk
 have hsp0 : sp = none := by
  obtain ⟨v, hv⟩ := h00;cases sp with
  | none => rfl
  | some q =>
   unfold World.cell? Addr.add at hv
   split at hv
   ·split at hv <;> simp_all
   cases hv
 subst hsp0;have hadd : ∀ i j, ((⟨b, off, none⟩ : Addr).add (i * k)).add j = ⟨b, off + i * k + j, none⟩ := fun i j => by rw [Addr.add_mid, Addr.add_mid]
 simp only [hadd] at hrow
 obtain ⟨arr, e2, fz, hb⟩ : ∃ arr e2 fz, W.heap[b]? = some (.cells arr e2 fz) := by
  obtain ⟨v, hv⟩ := hrow 0 (by omega) 0 hk;unfold World.cell? at hv
  split at hv
  ·rename_i c e2 fz hb; exact ⟨c, e2, fz, hb⟩
  cases hv
 have hget : ∀ q, W.cell? ⟨b, q, none⟩ = arr[q]? := by intro q; simp [World.cell?, hb]
 have hsz : off + cap * k ≤ arr.size := by
  obtain ⟨v, hv⟩ := hrow (cap - 1) (by omega) (k - 1) (by omega);rw [hget] at hv;have := (Array.getElem?_eq_some_iff.1 hv).1;obtain ⟨c, rfl⟩ : ∃ c, cap = c + 1 := ⟨cap - 1, by omega⟩;rw [Nat.add_sub_cancel] at this;rw [Nat.succ_mul]; omega
 have hall : ∀ i, i < len → ∃ a, ok a ∧ (f a).length = k ∧ ∀ j d, (f a)[j]? = some d → DRep (fun k => k < W.heap.size) W d (arr.getD (off + i * k + j) undef) := by
  intro i hi;obtain ⟨cs', h1, y, h2⟩ := hcell i (by omega);obtain ⟨h3, a, h4, h5, h6⟩ := hr.rd W n cs' y h2;obtain ⟨_, h7, h8⟩ := World.cells?_some h1;refine ⟨a, h4, h5, fun j d hj => ?_⟩;have hj1 := (List.getElem?_eq_some_iff.1 hj).1;have h9 := h8 j (by omega);rw [hadd, hget] at h9
  have : arr.getD (off + i * k + j) undef = cs'.getD j undef := by
   rw [Array.getD_eq_getD_getElem?, h9, List.getD_eq_getElem?_getD]
  rw [this];exact h6 j d hj
 obtain ⟨l, hll, hq⟩ := list_of hall
 have hin : ∀ a, a ∈ l → ok a ∧ (f a).length = k := by
  intro a ha;obtain ⟨i, hi⟩ := List.getElem?_of_mem ha;exact ⟨(hq i a hi).1, (hq i a hi).2.1⟩
 refine ⟨l, ⟨by have : cap ≤ 9223372036854775807 := hm; omega, fun a ha => (hin a ha).1⟩, rfl, fun j d hj => ?_⟩;obtain ⟨rfl, rfl⟩ := get1 hj;have hle : (l.map f).length = len := by rw [List.length_map, hll]
 have hv := DRep.view (F := fun k => k < W.heap.size) (w := W) (e := te) (sz := k) (els := l.map f) (b := b) (off := off) (cap := cap) (arr := arr) (lt_of_block hb) hb (by omega) hm hsz (fun i cs hi => ?_) (fun i cs j d hi hj => ?_)
 ·rw [hle] at hv; exact hv
 ·rw [List.getElem?_map, Option.map_eq_some_iff] at hi;obtain ⟨a, ha, rfl⟩ := hi;exact (hin a (List.mem_of_getElem? ha)).2
 rw [List.getElem?_map, Option.map_eq_some_iff] at hi;obtain ⟨a, ha, rfl⟩ := hi;exact (hq i a ha).2.2 j d hj
theorem RT.imp {t : TypeId} {k : Nat} {α β : Type} {f : α → List DV} {ok : α → Prop} {f' : β → List DV} {ok' : β → Prop} (h : RT enc P t k f ok) (g : α → β) (hf : ∀ a, ok a → f' (g a) = f a) (ho : ∀ a, ok a → ok' (g a)) : RT enc P t k f' ok' :=
 ⟨fun W fuel cs x hx => by
  obtain ⟨h1, a, h2, h3, h4⟩ := h.rd W fuel cs x hx
  exact ⟨h1, g a, ho a h2, by rw [hf a h2]; exact h3, by rw [hf a h2]; exact h4⟩⟩
end
inductive AReps (m : Nat → Option (Option Nat × Nat)) (F : Nat → Prop) (W : World) : List AV → List Value → Prop
 | nil : AReps m F W [] []
 | cons {x : AV} {v : Value} {xs : List AV} {vs : List Value} : ARep m F W x v → AReps m F W xs vs → AReps m F W (x :: xs) (v :: vs)
theorem AReps.at {m : Nat → Option (Option Nat × Nat)} {F : Nat → Prop} {W : World} {xs : List AV} {vs : List Value} (h : AReps m F W xs vs) : ∀ (i : Nat) a, xs[i]? = some a → ARep m F W a (vs.toArray.getD i undef) := by
 have key : ∀ (i : Nat) a, xs[i]? = some a → ARep m F W a (vs.getD i undef) := by
  induction h with
  | nil => intro i a h; simp at h
  | cons h _ ih =>
   intro i a hi;cases i with
   | zero => simp at hi; subst hi; exact h
   | succ i => simp at hi; exact ih i a hi
 intro i a hi;have := key i a hi;have e : vs.toArray.getD i undef = vs.getD i undef := by simp [List.getD_eq_getElem?_getD, Array.getD_eq_getD_getElem?]
 rwa [e]
section
variable {P : Program} [PT P]
variable {s : ASt} {dst : Option Nat} {ty : Nat} {pos : String} {af : Array Edge} {gd : Option (Nat × Bool)} {x y : Operand} {t f : Nat}
theorem g_max {a b : Int} {ats : Array TypeId} (hx : s.ev x = aI a) (hy : s.ev y = aI b) : GOp P [] s ⟨dst, .call { callee := .builtin .max, args := #[x, y], argTypes := ats }, ty, pos, af, gd⟩ (aI (max a b)) := by
 refine g_vals2 x y (by simp [Op.operands, Call.operands]) (by simp [Op.operands, Call.operands]) hx hy fun A w e1 e2 o1 o2 => ?_
 have hm : max a b = if b > a then b else a := by
  by_cases h : b > a
  ·rw [if_pos h]; omega
  rw [if_neg h]; omega
 refine ⟨?_, ?_⟩
 ·rw [hm];simp [execOp, resolve, invoke, builtin, e1, e2, run_max_int2]
 show IntKind.i64.wrap (max a b) = max a b;have h1 : IntKind.i64.wrap a = a := o1;have h2 : IntKind.i64.wrap b = b := o2;rw [hm]; split
 ·exact h2
 exact h1
end
inductive TRep (w : World) : (Nat → Prop) → DV → Value → Prop
 | val {S : Nat → Prop} {v : Value} : (∀ k, ¬ S k) → okV v → TRep w S (.val v) v
 | nil {S : Nat → Prop} {e sz : Nat} : (∀ k, ¬ S k) → TRep w S (.view e sz []) (.slice none 0 0)
 | view {S : Nat → Prop} {e sz : Nat} {els : List (List DV)} {b cap : Nat} {vs : Array Value} {fz : Nat × Nat} (Ts : Nat → Nat → Prop) : w.heap[b]? = some (.cells vs e fz) → (∀ (i : Nat), i < vs.size → ¬ (fz.1 ≤ i ∧ i < fz.2)) → vs.size = cap * sz → els.length ≤ cap → cap ≤ maxLen → 0 < sz →
   (∀ (i : Nat) (cs : List DV), els[i]? = some cs → cs.length = sz) → (∀ (i : Nat) (cs : List DV) (j : Nat) (d : DV), els[i]? = some cs → cs[j]? = some d → TRep w (Ts (i * sz + j)) d (vs.getD (i * sz + j) undef)) →
   (∀ c, ¬ Ts c b) → (∀ c c' k, Ts c k → Ts c' k → c = c') → (∀ k, S k ↔ k = b ∨ ∃ c, c < els.length * sz ∧ Ts c k) → TRep w S (.view e sz els) (.slice (some ⟨b, 0, none⟩) els.length cap)
theorem TRep.lt {w : World} {S : Nat → Prop} {x : DV} {v : Value} (h : TRep w S x v) : ∀ k, S k → k < w.heap.size := by
 induction h with
 | val h _ => intro k h'; exact absurd h' (h k)
 | nil h => intro k h'; exact absurd h' (h k)
 | @view S e sz els b cap vs fz Ts hb _ _ _ _ hz hr _ _ _ hS ih =>
  intro k hk;rcases (hS k).1 hk with rfl | ⟨c, hc, hk⟩
  ·exact lt_of_block hb
  have h1 : c / sz < els.length := Nat.div_lt_of_lt_mul (by rw [Nat.mul_comm]; exact hc);have h2 : c % sz < sz := Nat.mod_lt _ hz;have e1 := List.getElem?_eq_getElem h1;have h3 := hr _ _ e1;have e2 : c / sz * sz + c % sz = c := Nat.div_add_mod' c sz;have := ih _ _ _ _ e1 (List.getElem?_eq_getElem (by rw [h3]; exact h2)) k;rw [e2] at this;exact this hk
theorem TRep.turn {w w' : World} {S : Nat → Prop} {x : DV} {v : Value} (h : TRep w S x v) : (∀ k, S k → w'.heap[k]? = w.heap[k]?) → TRep w' S x v := by
 induction h with
 | val h0 h => intro _; exact .val h0 h
 | nil h0 => intro _; exact .nil h0
 | @view S e sz els b cap vs fz Ts hb h1 h2 h3 h4 h5 h6 h7 h8 h9 h10 ih =>
  intro hk;refine .view Ts ((hk _ ((h10 _).2 (.inl rfl))).trans hb) h1 h2 h3 h4 h5 h6 (fun i cs j d hi hj => ih i cs j d hi hj (fun k hk' => hk k ((h10 k).2 (.inr ⟨_, ?_, hk'⟩)))) h8 h9 h10;have hi1 := (List.getElem?_eq_some_iff.1 hi).1;have hj1 := (List.getElem?_eq_some_iff.1 hj).1;rw [h6 i cs hi] at hj1;have h := Nat.mul_le_mul_right sz hi1;rw [Nat.succ_mul] at h;omega
theorem TRep.data {w : World} {S : Nat → Prop} {x : DV} {v : Value} (h : TRep w S x v) : DRep S w x v := by
 induction h with
 | val _ h => exact .val h
 | nil _ => exact .nil
 | @view S e sz els b cap vs fz Ts hb h1 h2 h3 h4 h5 h6 h7 h8 h9 h10 ih =>
  refine .view ((h10 _).2 (.inl rfl)) hb h3 h4 (by rw [Nat.zero_add, h2]; exact Nat.le_refl _) h6 (fun i cs j d hi hj => ?_);rw [Nat.zero_add];refine (ih i cs j d hi hj).mono fun k hk => (h10 k).2 (.inr ⟨_, ?_, hk⟩)
  have hi1 := (List.getElem?_eq_some_iff.1 hi).1;have hj1 := (List.getElem?_eq_some_iff.1 hj).1;rw [h6 i cs hi] at hj1;have h := Nat.mul_le_mul_right sz hi1;rw [Nat.succ_mul] at h;omega
theorem TRep.congr {w : World} {S S' : Nat → Prop} {x : DV} {v : Value} (h : TRep w S x v) (he : ∀ k, S k ↔ S' k) : TRep w S' x v := by
 have : S = S' := funext fun k => propext (he k)
 subst this; exact h
def TL (w : World) (S : Nat → Prop) (L : List DV) (V : List Value) : Prop :=
 ∃ Ts : Nat → Nat → Prop, V.length = L.length ∧ (∀ i d v, L[i]? = some d → V[i]? = some v → TRep w (Ts i) d v) ∧ (∀ i j k, Ts i k → Ts j k → i = j) ∧ ∀ k, S k ↔ ∃ i, i < L.length ∧ Ts i k
theorem TL.turn {w w' : World} {S : Nat → Prop} {L : List DV} {V : List Value} (h : TL w S L V) (hk : ∀ k, S k → w'.heap[k]? = w.heap[k]?) : TL w' S L V := by
 obtain ⟨Ts, h1, h2, h3, h4⟩ := h;exact ⟨Ts, h1, fun i d v hd hv => (h2 i d v hd hv).turn fun k hk' => hk k ((h4 k).2 ⟨i, (List.getElem?_eq_some_iff.1 hd).1, hk'⟩), h3, h4⟩
theorem TL.lt {w : World} {S : Nat → Prop} {L : List DV} {V : List Value} (h : TL w S L V) (k : Nat) (hk : S k) : k < w.heap.size := by
 obtain ⟨Ts, h1, h2, h3, h4⟩ := h;obtain ⟨i, hi, hk'⟩ := (h4 k).1 hk;exact (h2 i _ _ (List.getElem?_eq_getElem hi) (List.getElem?_eq_getElem (by omega))).lt k hk'
theorem TL.data {w : World} {S : Nat → Prop} {L : List DV} {V : List Value} (h : TL w S L V) (i : Nat) {d : DV} {v : Value} (hd : L[i]? = some d) (hv : V[i]? = some v) : DRep S w d v := by
 obtain ⟨Ts, h1, h2, h3, h4⟩ := h;exact (h2 i d v hd hv).data.mono fun k hk => (h4 k).2 ⟨i, (List.getElem?_eq_some_iff.1 hd).1, hk⟩
theorem TL.len {w : World} {S : Nat → Prop} {L : List DV} {V : List Value} (h : TL w S L V) : V.length = L.length := h.choose_spec.1
theorem TL.nil (w : World) : TL w (fun _ => False) [] [] := ⟨fun _ _ => False, rfl, fun i d v h => by simp at h, fun _ _ _ h => h.elim, fun k => ⟨fun h => h.elim, fun ⟨_, h, _⟩ => by simp at h⟩⟩
theorem TL.one {w : World} {S : Nat → Prop} {d : DV} {v : Value} (h : TRep w S d v) : TL w S [d] [v] := by
 refine ⟨fun i k => i = 0 ∧ S k, rfl, fun i d' v' hd hv => ?_, fun i j k h1 h2 => h1.1.trans h2.1.symm, fun k => ⟨fun h => ⟨0, by simp, rfl, h⟩, fun ⟨_, _, h⟩ => h.2⟩⟩;cases i with
 | zero =>
  simp at hd hv; subst hd; subst hv;exact h.congr fun k => by simp
 | succ i => simp at hd
theorem TL.app {w : World} {S S' : Nat → Prop} {L L' : List DV} {V V' : List Value} (h : TL w S L V) (h' : TL w S' L' V') (hd : ∀ k, S k → ¬ S' k) : TL w (fun k => S k ∨ S' k) (L ++ L') (V ++ V') := by
 obtain ⟨Ts, h1, h2, h3, h4⟩ := h;obtain ⟨Ts', g1, g2, g3, g4⟩ := h';refine ⟨fun i k => (i < L.length ∧ Ts i k) ∨ (L.length ≤ i ∧ i < L.length + L'.length ∧ Ts' (i - L.length) k), by simp [h1, g1], fun i d v hd' hv => ?_, fun i j k hi hj => ?_, fun k => ⟨fun h => ?_, fun h => ?_⟩⟩
 ·by_cases hi : i < L.length
  ·rw [List.getElem?_append_left hi] at hd';rw [List.getElem?_append_left (by omega)] at hv;exact (h2 i d v hd' hv).congr fun k => by simp [hi, Nat.not_le.2 hi]
  have hlt := (List.getElem?_eq_some_iff.1 hd').1;rw [List.length_append] at hlt;rw [List.getElem?_append_right (by omega)] at hd' hv;rw [h1] at hv;exact (g2 _ d v hd' hv).congr fun k => by simp [hi, hlt, Nat.le_of_not_lt hi]
 ·rcases hi with ⟨a1, a2⟩ | ⟨a1, a2, a3⟩ <;> rcases hj with ⟨b1, b2⟩ | ⟨b1, b2, b3⟩
  ·exact h3 i j k a2 b2
  ·exact absurd ((g4 k).2 ⟨_, by omega, b3⟩) (hd k ((h4 k).2 ⟨i, a1, a2⟩))
  ·exact absurd ((g4 k).2 ⟨_, by omega, a3⟩) (hd k ((h4 k).2 ⟨j, b1, b2⟩))
  have := g3 _ _ k a3 b3; omega
 ·rcases h with h | h
  ·obtain ⟨i, hi, hk⟩ := (h4 k).1 h;exact ⟨i, by rw [List.length_append]; omega, .inl ⟨hi, hk⟩⟩
  obtain ⟨i, hi, hk⟩ := (g4 k).1 h;refine ⟨L.length + i, by rw [List.length_append]; omega, .inr ⟨by omega, by omega, ?_⟩⟩;rw [show L.length + i - L.length = i by omega]; exact hk
 obtain ⟨i, _, ⟨a1, a2⟩ | ⟨a1, a2, a3⟩⟩ := h
 ·exact .inl ((h4 k).2 ⟨i, a1, a2⟩)
 exact .inr ((g4 k).2 ⟨_, by omega, a3⟩)
theorem TL.cons {w : World} {S S' : Nat → Prop} {d : DV} {v : Value} {L : List DV} {V : List Value} (h : TRep w S d v) (h' : TL w S' L V) (hd : ∀ k, S k → ¬ S' k) : TL w (fun k => S k ∨ S' k) (d :: L) (v :: V) := (TL.one h).app h' hd
def TX (w : World) (S : Nat → Prop) (c : Nat) (L : List DV) (V : List Value) : Prop :=
 ∃ Ts : Nat → Nat → Prop, V.length = L.length ∧ (∀ i d v, i ≠ c → L[i]? = some d → V[i]? = some v → TRep w (Ts i) d v) ∧ (∀ i j k, Ts i k → Ts j k → i = j) ∧ (∀ k, ¬ Ts c k) ∧ ∀ k, S k ↔ ∃ i, i < L.length ∧ Ts i k
theorem TX.turn {w w' : World} {S : Nat → Prop} {c : Nat} {L : List DV} {V : List Value} (h : TX w S c L V) (hk : ∀ k, S k → w'.heap[k]? = w.heap[k]?) : TX w' S c L V := by
 obtain ⟨Ts, h1, h2, h3, h4, h5⟩ := h;exact ⟨Ts, h1, fun i d v hi hd hv => (h2 i d v hi hd hv).turn fun k hk' => hk k ((h5 k).2 ⟨i, (List.getElem?_eq_some_iff.1 hd).1, hk'⟩), h3, h4, h5⟩
theorem TL.split {w : World} {S : Nat → Prop} {L : List DV} {V : List Value} (h : TL w S L V) {c : Nat} {d : DV} {v : Value} (hd : L[c]? = some d) (hv : V[c]? = some v) : ∃ S1 S2, TRep w S1 d v ∧ TX w S2 c L V ∧ (∀ k, S1 k → ¬ S2 k) ∧ ∀ k, S k ↔ S1 k ∨ S2 k := by
 obtain ⟨Ts, h1, h2, h3, h4⟩ := h;have hlt := (List.getElem?_eq_some_iff.1 hd).1;refine ⟨Ts c, fun k => ∃ i, i < L.length ∧ i ≠ c ∧ Ts i k, h2 c d v hd hv, ⟨fun i k => i ≠ c ∧ Ts i k, h1, fun i d v hi hd hv => ?_, fun i j k hi hj => h3 i j k hi.2 hj.2, fun k hk => hk.1 rfl, fun k => Iff.rfl⟩, fun k hk ⟨i, _, hi, hk'⟩ => hi (h3 i c k hk' hk), fun k => ⟨fun hk => ?_, fun hk => ?_⟩⟩
 ·exact (h2 i d v hd hv).congr fun k => by simp [hi]
 ·obtain ⟨i, hi, hk⟩ := (h4 k).1 hk
  by_cases hic : i = c
  ·subst hic; exact .inl hk
  exact .inr ⟨i, hi, hic, hk⟩
 rcases hk with hk | ⟨i, hi, _, hk⟩
 ·exact (h4 k).2 ⟨c, hlt, hk⟩
 exact (h4 k).2 ⟨i, hi, hk⟩
theorem TX.join {w : World} {S1 S2 : Nat → Prop} {c : Nat} {L : List DV} {V : List Value} {d : DV} {v : Value} (h : TX w S2 c L V) (h1 : TRep w S1 d v) (hc : c < L.length) (hv : V[c]? = some v) (hd : ∀ k, S1 k → ¬ S2 k) : TL w (fun k => S1 k ∨ S2 k) (L.set c d) V := by
 obtain ⟨Ts, g1, g2, g3, g4, g5⟩ := h;refine ⟨fun i k => (i = c ∧ S1 k) ∨ (i < L.length ∧ Ts i k), by simpa using g1, fun i d' v' hd' hv' => ?_, fun i j k hi hj => ?_, fun k => ⟨fun hk => ?_, fun hk => ?_⟩⟩
 ·by_cases hi : c = i
  ·subst hi;rw [List.getElem?_set_self hc] at hd';rw [hv] at hv';simp only [Option.some.injEq] at hd' hv';subst hd'; subst hv';exact h1.congr fun k => by simp [g4]
  rw [List.getElem?_set_ne hi] at hd';have hl := (List.getElem?_eq_some_iff.1 hd').1;have hi' : ¬ i = c := fun e => hi e.symm
  exact (g2 i d' v' hi' hd' hv').congr fun k => by simp [hi', hl]
 ·rcases hi with ⟨a1, a2⟩ | ⟨a1, a2⟩ <;> rcases hj with ⟨b1, b2⟩ | ⟨b1, b2⟩
  ·rw [a1, b1]
  ·exact absurd ((g5 k).2 ⟨j, b1, b2⟩) (hd k a2)
  ·exact absurd ((g5 k).2 ⟨i, a1, a2⟩) (hd k b2)
  exact g3 i j k a2 b2
 ·rcases hk with hk | hk
  ·exact ⟨c, by simpa using hc, .inl ⟨rfl, hk⟩⟩
  obtain ⟨i, hi, hk⟩ := (g5 k).1 hk;exact ⟨i, by simpa using hi, .inr ⟨hi, hk⟩⟩
 obtain ⟨i, _, ⟨_, hk⟩ | ⟨hi, hk⟩⟩ := hk
 ·exact .inl hk
 exact .inr ((g5 k).2 ⟨i, hi, hk⟩)
section
variable {P : Program} [PT P] {C : Ctx} {Q : Exit → ASt → Prop} {s : ASt} {ops : Array Oper} {U U' : Nat → Prop} {a : Act} {w : World} {m : Nat → Option (Option Nat × Nat)}
def mNew (m : Nat → Option (Option Nat × Nat)) (new : List (Nat × Chunk)) (pm : Nat → Option Nat × Nat) (j : Nat) : Option (Option Nat × Nat) :=
 match getL j new with
 | some _ => some (pm j)
 | none => m j
theorem mNew_some {new : List (Nat × Chunk)} {pm : Nat → Option Nat × Nat} {j : Nat} {c : Chunk} (h : getL j new = some c) : mNew m new pm j = some (pm j) := by simp [mNew, h]
theorem mNew_none {new : List (Nat × Chunk)} {pm : Nat → Option Nat × Nat} {j : Nat} (h : getL j new = none) : mNew m new pm j = m j := by simp [mNew, h]
theorem RelM.repack (h : RelM C U s a w m) {t : ASt} (new : List (Nat × Chunk)) (pm : Nat → Option Nat × Nat) (gone : List Nat) (hn : t.n = s.n)
  (ht : ∀ id c, t.chunk id = some c → getL id new = some c ∨ (getL id new = none ∧ id ∉ gone ∧ s.chunk id = some c))
  (hU : ∀ id c, getL id new = some c → U id ∨ m id = some (pm id))
  (hU' : ∀ j, U' j → U j ∧ getL j new = none)
  (hocc : ∀ id c b, getL id new = some c → occ (pm id) c b → ∃ j c0 q, j ∈ gone ∧ s.chunk j = some c0 ∧ m j = some q ∧ occ q c0 b)
  (hdis : ∀ id id' c c' b, getL id new = some c → getL id' new = some c' → occ (pm id) c b → occ (pm id') c' b → id = id')
  (hrep : ∀ F', (∀ k, Fz C m s w k → F' k) → ∀ id c, getL id new = some c → CRep (mNew m new pm) F' w (pm id) c)
  (hsl : MLe m (mNew m new pm) → ∀ F', (∀ k, Fz C m s w k → F' k) → ∀ i, ARep (mNew m new pm) F' w (t.get i) (a.tmps.getD i undef)) : RelM C U' t a w (mNew m new pm) := by
 have hle : MLe m (mNew m new pm) := by
  intro j p hp;cases hg : getL j new with
  | none => rw [mNew_none hg]; exact hp
  | some c =>
   rcases hU j c hg with h1 | h1
   ·rw [h.un j h1] at hp; cases hp
   rw [hp] at h1; rw [mNew_some hg, h1]
 have hF : ∀ k, Fz C m s w k → Fz C (mNew m new pm) t w k := by
  intro k hk;refine ⟨hk.1, hk.2.1, fun id c p h1 h2 ho => ?_⟩;rcases ht id c h1 with g | ⟨g, _, g3⟩
  ·rw [mNew_some g] at h2;obtain rfl : pm id = p := by simpa using h2
   obtain ⟨j, c0, q, _, q2, q3, q4⟩ := hocc id c k g ho;exact hk.2.2 j c0 q q2 q3 q4
  rw [mNew_none g] at h2;exact hk.2.2 id c p g3 h2 ho
 refine ⟨h.fr, h.fin, by rw [hn]; exact h.sz, hsl hle _ hF, fun id c h1 => ?_, fun id id' c c' p p' h1 h2 hp hp' b hb hb' => ?_, fun j hj => ?_, h.defers, fun id p hp => hle id p (h.m0 id p hp), h.m0k⟩
 ·rcases ht id c h1 with g | ⟨g, _, g3⟩
  ·refine ⟨pm id, mNew_some g, hrep _ hF id c g, fun b hb => ?_⟩;obtain ⟨j, c0, q, _, q2, q3, q4⟩ := hocc id c b g hb;obtain ⟨q', hq', _, hl⟩ := h.ch j c0 q2;rw [q3] at hq';obtain rfl : q = q' := by simpa using hq'
   exact hl b q4
  obtain ⟨p, hp, hr, hl⟩ := h.ch id c g3;exact ⟨p, hle _ _ hp, hr.turn hle (fun k hk _ => ⟨hF k hk, rfl⟩) (fun _ _ => rfl), hl⟩
 ·rcases ht id c h1 with g | ⟨g, g2, g3⟩ <;> rcases ht id' c' h2 with g' | ⟨g', g2', g3'⟩
  ·rw [mNew_some g] at hp;rw [mNew_some g'] at hp';obtain rfl : pm id = p := by simpa using hp
   obtain rfl : pm id' = p' := by simpa using hp'
   exact hdis id id' c c' b g g' hb hb'
  ·rw [mNew_some g] at hp;rw [mNew_none g'] at hp';obtain rfl : pm id = p := by simpa using hp
   obtain ⟨j, c0, q, q1, q2, q3, q4⟩ := hocc id c b g hb;have := h.inj j id' c0 c' q p' q2 g3' q3 hp' b q4 hb';subst this;exact absurd q1 g2'
  ·rw [mNew_none g] at hp;rw [mNew_some g'] at hp';obtain rfl : pm id' = p' := by simpa using hp'
   obtain ⟨j, c0, q, q1, q2, q3, q4⟩ := hocc id' c' b g' hb';have := h.inj j id c0 c q p q2 g3 q3 hp b q4 hb;subst this;exact absurd q1 g2
  rw [mNew_none g] at hp;rw [mNew_none g'] at hp';exact h.inj id id' c c' p p' g3 g3' hp hp' b hb hb'
 obtain ⟨h1, h2⟩ := hU' j hj;rw [mNew_none h2];exact h.un j h1
structure WeakR (C : Ctx) (s : ASt) (T : ASt → Prop) : Prop where
 run : ∀ a w, Rel C s a w → ∃ t, T t ∧ Rel C t a w
theorem AC.weakR {T : ASt → Prop} {c : Code} (h : WeakR C s T) (k : ∀ t, T t → ACode P C c Q t) : ACode P C c Q s := ⟨fun a w hR => by
 obtain ⟨t, ht, hR'⟩ := h.run a w hR
 exact (k t ht).run a w hR'⟩
theorem AL.weakR {T : ASt → Prop} {l : List Oper} (h : WeakR C s T) (k : ∀ t, T t → AL P C ops l Q t) : AL P C ops l Q s := ⟨fun a w hR => by
 obtain ⟨t, ht, hR'⟩ := h.run a w hR
 exact (k t ht).run a w hR'⟩
theorem CRep.predAt {F : Nat → Prop} {p : Option Nat × Nat} {S : Nat → Prop} {K : World → Prop} (h : CRep m F w p (.pred S K)) : p = (none, 0) ∧ K w ∧ (∀ w w', (∀ k, S k → w'.heap[k]? = w.heap[k]?) → K w → K w') ∧ ∀ k, S k → k < w.heap.size := by
 cases h with
 | pred h1 h2 h3 => exact ⟨rfl, h1, h2, h3⟩
theorem occ_pred' {S : Nat → Prop} {K : World → Prop} {k : Nat} (h : occ (none, 0) (.pred S K) k) : S k := by
 rcases h with h | h
 ·cases h
 exact h
theorem Weak.join (id1 id2 : Nat) {S1 S2 : Nat → Prop} {K1 K2 : World → Prop} (K : World → Prop) (h1 : s.chunk id1 = some (.pred S1 K1)) (h2 : s.chunk id2 = some (.pred S2 K2)) (hne : Nat.beq id1 id2 = false)
  (hK : ∀ w, K1 w → K2 w → (∀ k, S1 k → ¬ S2 k) → K w) (hcl : ∀ w w', (∀ k, S1 k ∨ S2 k → w'.heap[k]? = w.heap[k]?) → K w → K w') :
  Weak C s { n := s.n, nx := s.nx, sl := s.sl, ch := (id1, some (.pred (fun k => S1 k ∨ S2 k) K)) :: (id2, none) :: s.ch } := by
 refine ⟨?_⟩;rintro a w ⟨m, hR⟩;have hne : id1 ≠ id2 := Nat.ne_of_beq_eq_false hne;obtain ⟨p1, q1, c1, l1⟩ := hR.ch id1 _ h1;obtain ⟨p2, q2, c2, l2⟩ := hR.ch id2 _ h2;obtain ⟨rfl, k1, cl1, lt1⟩ := c1.predAt;obtain ⟨rfl, k2, cl2, lt2⟩ := c2.predAt;have hd : ∀ k, S1 k → ¬ S2 k := fun k g1 g2 => hne (hR.inj id1 id2 _ _ _ _ h1 h2 q1 q2 k (.inr g1) (.inr g2))
 refine ⟨_, hR.repack (U' := fun i => s.nx ≤ i) [(id1, .pred (fun k => S1 k ∨ S2 k) K)] (fun _ => (none, 0)) [id1, id2] rfl (fun i c h => ?_) (fun i c h => .inr ?_) (fun i hi => ⟨hi, ?_⟩) (fun i c b h hb => ?_) (fun i i' c c' b h h' _ _ => ?_) (fun F' _ i c h => ?_) (fun hle F' hF i => (hR.sl i).turn hle (fun k hk _ => ⟨hF k hk, rfl⟩))⟩
 ·change (getL i (_ :: _ :: _)).getD none = _ at h
  rw [getL_cons] at h;rw [getL_cons]
  split at h
  ·rename_i ei; rw [if_pos ei]; exact .inl (by simpa using h)
  rename_i ei;rw [if_neg ei];rw [getL_cons] at h
  split at h
  ·cases h
  rename_i ei'; exact .inr ⟨rfl, by simp [ei, ei'], h⟩
 ·obtain ⟨rfl, _⟩ := getL_one h; exact q1
 ·rw [getL_cons]
  split
  ·rename_i ei; subst ei; have := hR.un i hi; rw [q1] at this; cases this
  rfl
 ·obtain ⟨rfl, rfl⟩ := getL_one h;rcases occ_pred' hb with g | g
  ·exact ⟨i, _, _, by simp, h1, q1, .inr g⟩
  exact ⟨id2, _, _, by simp, h2, q2, .inr g⟩
 ·rw [(getL_one h).1, (getL_one h').1]
 obtain ⟨rfl, rfl⟩ := getL_one h;exact .pred (hK w k1 k2 hd) hcl (fun k hk => hk.elim (lt1 k) (lt2 k))
theorem Weak.cons (id : Nat) {S : Nat → Prop} {K : World → Prop} (K' : World → Prop) (h0 : s.chunk id = some (.pred S K)) (hK : ∀ w, K w → K' w) (hcl : ∀ w w', (∀ k, S k → w'.heap[k]? = w.heap[k]?) → K' w → K' w') :
  Weak C s { n := s.n, nx := s.nx, sl := s.sl, ch := (id, some (.pred S K')) :: s.ch } := by
 refine ⟨?_⟩;rintro a w ⟨m, hR⟩;obtain ⟨p1, q1, c1, l1⟩ := hR.ch id _ h0;obtain ⟨rfl, k1, cl1, lt1⟩ := c1.predAt;refine ⟨_, hR.repack (U' := fun i => s.nx ≤ i) [(id, .pred S K')] (fun _ => (none, 0)) [id] rfl (fun i c h => ?_) (fun i c h => .inr ?_) (fun i hi => ⟨hi, ?_⟩) (fun i c b h hb => ?_) (fun i i' c c' b h h' _ _ => ?_) (fun F' _ i c h => ?_) (fun hle F' hF i => (hR.sl i).turn hle (fun k hk _ => ⟨hF k hk, rfl⟩))⟩
 ·change (getL i (_ :: _)).getD none = _ at h
  rw [getL_cons] at h;rw [getL_cons]
  split at h
  ·rename_i ei; rw [if_pos ei]; exact .inl (by simpa using h)
  rename_i ei;rw [if_neg ei];exact .inr ⟨rfl, by simpa using ei, h⟩
 ·obtain ⟨rfl, _⟩ := getL_one h; exact q1
 ·rw [getL_cons]
  split
  ·rename_i ei; subst ei; have := hR.un i hi; rw [q1] at this; cases this
  rfl
 ·obtain ⟨rfl, rfl⟩ := getL_one h;exact ⟨_, _, _, by simp, h0, q1, .inr (occ_pred' hb)⟩
 ·rw [(getL_one h).1, (getL_one h').1]
 obtain ⟨rfl, rfl⟩ := getL_one h;exact .pred (hK w k1) hcl lt1
end
section
variable {P : Program} [PT P] {C : Ctx} {s : ASt}
def DTo (c d : DV) : Prop := ∀ (F : Nat → Prop) (w : World) (v : Value), DRep F w c v → DRep F w d v
theorem DTo.refl (d : DV) : DTo d d := fun _ _ _ h => h
theorem DTo.nil {e sz : Nat} : DTo (.val (.slice none 0 0)) (.view e sz []) := fun F w v h => by
 cases h;exact .nil
theorem Weak.arrTo (id : Nat) {e sz : Nat} {els els' : List (List DV)} (h0 : s.chunk id = some (.arr e sz els)) (hl : els'.length = els.length) (h : ∀ (i : Nat) (cs' : List DV), els'[i]? = some cs' → ∃ cs, els[i]? = some cs ∧ cs'.length = cs.length ∧ ∀ (j : Nat) (d' : DV), cs'[j]? = some d' → ∃ d, cs[j]? = some d ∧ DTo d d') :
  Weak C s { n := s.n, nx := s.nx, sl := s.sl, ch := (id, some (.arr e sz els')) :: s.ch } := by
 refine ⟨?_⟩;rintro a w ⟨m, hR⟩;obtain ⟨p1, q1, c1, l1⟩ := hR.ch id _ h0
 have hc : ∀ (m' : Nat → Option (Option Nat × Nat)) F', (∀ k, Fz C m s w k → F' k) → CRep m' F' w p1 (.arr e sz els') := by
  intro m' F' hF;cases c1 with
  | arr g1 g2 g3 g4 g5 g6 g7 g8 =>
   refine .arr g1 g2 g3 (by omega) g5 g6 (fun i cs' hi => ?_) (fun i cs' j d' hi hj => ?_)
   ·obtain ⟨cs, k1, k2, _⟩ := h i cs' hi;rw [k2]; exact g7 i cs k1
   obtain ⟨cs, k1, k2, k3⟩ := h i cs' hi;obtain ⟨d, k4, k5⟩ := k3 j d' hj;exact k5 _ _ _ ((g8 i cs j d k1 k4).turn (fun k hk _ => ⟨hF k hk, rfl⟩))
  | nil g =>
   obtain rfl : els' = [] := List.length_eq_zero_iff.1 (by simpa using hl);exact .nil g
 refine ⟨_, hR.repack (U' := fun i => s.nx ≤ i) [(id, .arr e sz els')] (fun _ => p1) [id] rfl (fun i c h => ?_) (fun i c h => .inr ?_) (fun i hi => ⟨hi, ?_⟩) (fun i c b h hb => ?_) (fun i i' c c' b h h' _ _ => ?_) (fun F' hF i c h => ?_) (fun hle F' hF i => (hR.sl i).turn hle (fun k hk _ => ⟨hF k hk, rfl⟩))⟩
 ·change (getL i (_ :: _)).getD none = _ at h
  rw [getL_cons] at h;rw [getL_cons]
  split at h
  ·rename_i ei; rw [if_pos ei]; exact .inl (by simpa using h)
  rename_i ei;rw [if_neg ei];exact .inr ⟨rfl, by simpa using ei, h⟩
 ·obtain ⟨rfl, _⟩ := getL_one h; exact q1
 ·rw [getL_cons]
  split
  ·rename_i ei; subst ei; have := hR.un i hi; rw [q1] at this; cases this
  rfl
 ·obtain ⟨rfl, rfl⟩ := getL_one h;exact ⟨_, _, _, by simp, h0, q1, .inl hb.one_arr⟩
 ·rw [(getL_one h).1, (getL_one h').1]
 obtain ⟨rfl, rfl⟩ := getL_one h;exact hc _ F' hF
end
abbrev sxL (l : List (List UInt8)) : List (List DV) := l.map (fun s => [dS (bstr s)])
abbrev vSx (l : List (List UInt8)) : DV := .view 9 1 (sxL l)
theorem sxL_len (l : List (List UInt8)) : (sxL l).length = l.length := List.length_map _
theorem sxL_get {l : List (List UInt8)} {k : Nat} (h : k < l.length) : (sxL l)[k]? = some [dS (bstr l[k])] := by rw [List.getElem?_map, List.getElem?_eq_getElem h]; rfl
theorem h_appendSx (acc new : List (List UInt8)) {s : ASt} {dst : Option Nat} {ty : Nat} {pos : String} {af : Array Edge} {gd : Option (Nat × Bool)} {x y : Operand} {f : Nat} {ids ids2 : List Nat} {gone : List (Nat × Option Chunk)}
  (hto : AppTo s x 9 1 (sxL acc) ids gone) (harg : AppArg s y 1 (sxL new) ids2) (h : (acc ++ new).length ≤ 100000000) (hnew : gone = [] → 0 < new.length) :
  NOp Tryz.prog (ids ++ ids2) s ⟨dst, .call { callee := .builtin .append, args := #[x, y], argTypes := #[24, 24] }, ty, pos, af, gd⟩ f ⟨.own f (acc ++ new).length, (f, some (.arr 9 1 (sxL (acc ++ new)))) :: gone⟩ := by
 have := h_append (P := Tryz.prog) (s := s) (dst := dst) (ty := ty) (pos := pos) (af := af) (gd := gd) (x := x) (y := y) (f := f) (t := 24) (tx := 24) (k := (acc ++ new).length) rfl rfl rfl rfl rfl rfl hto harg (by simp) (by omega) (by show (acc ++ new).length * 16 ≤ _; omega) (fun h => by rw [sxL_len]; exact hnew h)
 rwa [← List.map_append] at this
theorem h_appendLx (acc new : List Lab) {s : ASt} {dst : Option Nat} {ty : Nat} {pos : String} {af : Array Edge} {gd : Option (Nat × Bool)} {x y : Operand} {f : Nat} {ids ids2 : List Nat} {gone : List (Nat × Option Chunk)}
  (hto : AppTo s x 64 2 (labsL acc) ids gone) (harg : AppArg s y 2 (labsL new) ids2) (h : (acc ++ new).length ≤ 100000000) (hnew : gone = [] → 0 < new.length) :
  NOp Tryz.prog (ids ++ ids2) s ⟨dst, .call { callee := .builtin .append, args := #[x, y], argTypes := #[45, 45] }, ty, pos, af, gd⟩ f ⟨.own f (acc ++ new).length, (f, some (.arr 64 2 (labsL (acc ++ new)))) :: gone⟩ := by
 have := h_append (P := Tryz.prog) (s := s) (dst := dst) (ty := ty) (pos := pos) (af := af) (gd := gd) (x := x) (y := y) (f := f) (t := 45) (tx := 45) (k := (acc ++ new).length) rfl rfl rfl rfl rfl rfl hto harg (by simp) (by omega) (by show (acc ++ new).length * 16 ≤ _; omega) (fun h => by rw [labsL_len]; exact hnew h)
 rwa [← List.map_append] at this
theorem ownl {α : Type} (l : List α) (f : α → List DV) : l.length ≤ (l.map f).length := Nat.le_of_eq (List.length_map _).symm
theorem ownt {α : Type} (l : List α) (f : α → List DV) : (l.map f).take l.length = l.map f := List.take_of_length_le (Nat.le_of_eq (List.length_map _))
def splitK (s : List UInt8) (b : UInt8) : Nat → List (List UInt8) × Nat
 | 0 => ([], 0)
 | k + 1 => if s.getD k 0 = b then ((splitK s b k).1 ++ [(s.take k).drop (splitK s b k).2], k + 1) else splitK s b k
def splitL (s : List UInt8) (b : UInt8) : List (List UInt8) := (splitK s b s.length).1 ++ [s.drop (splitK s b s.length).2]
theorem splitK_in (s : List UInt8) (b : UInt8) : ∀ k, (splitK s b k).2 ≤ k ∧ (splitK s b k).1.length ≤ k
 | 0 => ⟨Nat.le_refl _, Nat.le_refl _⟩
 | k + 1 => by
  have := splitK_in s b k;rw [splitK]
  split
  ·exact ⟨Nat.le_refl _, by rw [List.length_append]; simp only [List.length_cons, List.length_nil]; omega⟩
  omega
theorem splitK_mem (s : List UInt8) (b : UInt8) : ∀ k x, x ∈ (splitK s b k).1 → x.length ≤ s.length
 | 0, x, h => by cases h
 | k + 1, x, h => by
  rw [splitK] at h
  split at h
  ·rcases List.mem_append.1 h with h | h
   ·exact splitK_mem s b k x h
   rw [List.mem_singleton] at h; subst h; rw [List.length_drop, List.length_take]; omega
  exact splitK_mem s b k x h
theorem splitL_mem {s : List UInt8} {b : UInt8} {x : List UInt8} (h : x ∈ splitL s b) : x.length ≤ s.length := by
 rcases List.mem_append.1 h with h | h
 ·exact splitK_mem s b _ x h
 rw [List.mem_singleton] at h; subst h; rw [List.length_drop]; omega
set_option maxHeartbeats 2000000 in
theorem l1Split_spec (s : List UInt8) (b : UInt8) (hs : s.length ≤ 1000000) : ASpec Tryz.prog 210 [aS (bstr s), aB b] [] (Pure1 (.d (vSx (splitL s b)))) := by
 have hsz := bstr_size s;refine ASpec.of Tryz.func210 rfl rfl fun C hC => ?_
 refine AC.seq (AC.region ?_);refine za ?_;refine AL.nil (th_n (AC.seq (AC.region ?_)));refine za ?_;refine AL.nil (th_n (AC.seq (AC.region ?_)));refine za ?_;refine AL.nil (th_n (AC.seq (AC.seq (AC.region ?_))));refine za ?_;refine AL.nil (th_n (AC.block ?_));refine AC.loop (ι := Nat) (fun k => ⟨34, 108, [(0, aS (bstr s)), (1, aB b), (5, .own 100 (splitK s b k).1.length), (6, aI (splitK s b k).2), (7, aI k)], [(100, some (.arr 9 1 (sxL (splitK s b k).1)))]⟩) (fun k => k ≤ s.length) (fun k => s.length - k) (0) ?_ (Nat.zero_le _) ?_
 ·exact (Weak.nilOwn (i := 5) (e := 9) (sz := 1) rfl (by decide)).trans (zw [(100, _)] hC)
 intro k hk;refine AC.seq (AC.seq (AC.region ?_));refine zm ?_;refine zm ?_;refine AL.p (by exact g_len_str rfl rfl rfl) rfl ?_;refine zc ?_;refine AL.nil (th_n ?_);refine AC.condD rfl (fun h0 => ?_) (fun h0 => ?_)
 ·refine AC.skip (th_n (AC.seq (AC.block (AC.seq ?_))));have hk1 : k < s.length := by omega
  have hget : (bstr s).data.toList[k]? = some (s.getD k 0) := bstr_getD hk1;have hin := splitK_in s b k;have hb1 : ((s.getD k 0).toNat : Int) = (b.toNat : Int) → splitK s b (k + 1) = ((splitK s b k).1 ++ [(s.take k).drop (splitK s b k).2], k + 1) := fun h => by rw [splitK, if_pos (UInt8.toNat_inj.1 (by omega))]
  have hb0 : ¬ ((s.getD k 0).toNat : Int) = (b.toNat : Int) → splitK s b (k + 1) = splitK s b k := fun h => by rw [splitK, if_neg (fun e => h (by rw [e]))]
  have hex : (bstr s).extract (splitK s b k).2 k = bstr ((s.take k).drop (splitK s b k).2) := bstr_cut s hin.1 (by omega);refine AC.region ?_;refine zm ?_;refine zm ?_;refine AL.p (by exact g_index rfl rfl rfl (by rfl) (by assumption)) rfl ?_;refine zm ?_;refine zc ?_;refine AL.nil (th_n ?_);refine AC.condD rfl (fun h1 => ?_) (fun h1 => ?_)
  ·refine AC.seq (AC.region ?_);refine kB ?_;refine zm ?_;refine zm ?_;refine zm ?_;refine AL.p (by exact g_slice_str (l := (splitK s b k).2) (h := k) rfl rfl (.some rfl rfl) (.some rfl rfl) hin.1 (by omega) hex) rfl ?_;refine AL.q (by exact h_litF rfl rfl rfl rfl rfl rfl rfl rfl) rfl ?_;refine AL.q (by exact h_appendSx (splitK s b k).1 [(s.take k).drop (splitK s b k).2] (.own rfl rfl (sxL_len _).symm) (.view rfl) (by rw [List.length_append]; simp only [List.length_cons, List.length_nil]; omega) (by simp)) rfl ?_;refine AL.p (by exact as2 rfl) rfl ?_;refine AL.nil (th_n (AC.region ?_));refine zm ?_;refine zA ?_;refine za ?_;refine AL.nil (ib_n (th_n (AC.region ?_)));refine zm ?_;refine zA ?_;refine za ?_;refine AL.nil (th_n ?_)
   (have e := hb1 h1; exact ⟨k + 1, by omega, by omega, zw [(100, _)] hC (by rw [e]; repeat (first | exact True.intro | refine And.intro ?_ ?_ | exact DLead.same | exact rfl | refine ⟨_, rfl, ?_⟩)) (by rw [e]; repeat (first | exact True.intro | refine And.intro ?_ ?_ | exact rfl | refine ⟨_, _, rfl, rfl, ?_⟩))⟩)
  refine AC.skip (ib_n (th_n (AC.region ?_)));refine zm ?_;refine zA ?_;refine za ?_;refine AL.nil (th_n ?_)
  (have e := hb0 h1; exact ⟨k + 1, by omega, by omega, zw [(100, _)] hC (by rw [e]; repeat (first | exact True.intro | refine And.intro ?_ ?_ | exact DLead.same | exact rfl | refine ⟨_, rfl, ?_⟩)) (by rw [e]; repeat (first | exact True.intro | refine And.intro ?_ ?_ | exact rfl | refine ⟨_, _, rfl, rfl, ?_⟩))⟩)
 refine AC.exit (th_e (th_e (ib_y (th_n (AC.seq ?_)))));have hkk : k = s.length := by omega
 subst hkk;have hin := splitK_in s b s.length;have hex : (bstr s).extract (splitK s b s.length).2 (bstr s).size = bstr (s.drop (splitK s b s.length).2) := by rw [hsz, bstr_cut s hin.1 (Nat.le_refl _), List.take_length]
 refine AC.region ?_;refine kB ?_;refine zm ?_;refine zm ?_;refine AL.p (by exact g_slice_str (l := (splitK s b s.length).2) rfl rfl (.some rfl rfl) .none (by omega) (Nat.le_refl _) hex) rfl ?_;refine AL.q (by exact h_litF rfl rfl rfl rfl rfl rfl rfl rfl) rfl ?_;refine AL.q (by exact h_appendSx (splitK s b s.length).1 [s.drop (splitK s b s.length).2] (.own rfl rfl (sxL_len _).symm) (.view rfl) (by rw [List.length_append]; simp only [List.length_cons, List.length_nil]; omega) (by simp)) rfl ?_;refine AL.weak (Weak.freeze (i := 33) rfl rfl (ownl _ _) (ownt _ _)) ?_;refine za ?_;refine AL.nil (th_n (AC.ret (bq_r ?_)));exact ret1 rfl rfl
theorem en_l1Split : Enters Tryz.prog 210 := enters_of Tryz.func210 rfl rfl
set_option maxHeartbeats 1000000 in
theorem l2Signal_spec (l : List Sig) (hl : l.length ≤ 2000000) (nm : List UInt8) : ASpec Tryz.prog 263 [.d (vSigs l), aS (bstr nm)] [] (Pure1 (aI (findI (fun x => decide (x.name = nm)) l))) := by
 refine ASpec.of Tryz.func263 rfl rfl fun C hC => ?_
 refine AC.seq (AC.region ?_);refine za ?_;refine AL.nil (th_n (AC.seq (AC.seq (AC.region ?_))));refine zm ?_;refine kH ?_;refine zm ?_;refine AL.nil (th_n (AC.block ?_));refine AC.loop (ι := Nat) (fun k => ⟨20, 0, [(1, aS (bstr nm)), (7, .d (vSigs l)), (8, aI l.length), (9, aI k)], []⟩) (fun k => k ≤ l.length ∧ ∀ j (hj : j < l.length), j < k → (fun x : Sig => decide (x.name = nm)) l[j] = false) (fun k => l.length - k) (0) ?_ (⟨Nat.zero_le _, fun j _ hj => by omega⟩) ?_
 ·refine Weak.ren _ [] hC rfl ?_ ?_ rfl rfl rfl <;> repeat (first | exact True.intro | refine And.intro ?_ ?_ | exact DLead.same)
 intro k ⟨hk, hall⟩;refine AC.seq (AC.region ?_);refine zc ?_;refine AL.nil (th_n (AC.seq ?_));refine AC.condD rfl (fun h0 => ?_) (fun h0 => ?_)
 ·refine AC.skip (th_n (AC.seq (AC.block (AC.seq ?_))));have hk1 : k < l.length := by omega
  have hget := sigsL_get hk1;refine AC.region ?_;refine zm ?_;refine AL.p (by exact g_ia_view rfl rfl rfl rfl rfl (by rfl) (by assumption)) rfl ?_;refine kG ?_;refine kE ?_;refine za ?_;refine zs ?_;refine AL.nil (th_n (AC.seq ?_));refine AC.weak (Weak.freezeRef (ds := sigD l[k]) 6 rfl rfl) ?_;refine AC.region ?_;refine zf ?_;refine zr ?_;refine zm ?_;refine AL.p (by exact g_scmp rfl rfl rfl) rfl ?_;refine AL.nil (th_n ?_);refine AC.condD rfl (fun h1 => ?_) (fun h1 => ?_)
  ·refine AC.seq (AC.region ?_);refine zm ?_;refine za ?_;refine AL.nil (th_n (AC.ret (ib_r (th_r (th_r (ib_r (th_r (bq_r ?_))))))));exact ret1 rfl (by rw [findI_at hk1 (p := fun x : Sig => decide (x.name = nm)) (decide_eq_true (bstr_inj h1)) (fun j hj => hall j (by omega) hj)])
  refine AC.skip (ib_n (th_n (AC.region ?_)));refine zA ?_;refine zm ?_;refine AL.nil (th_n ?_);exact ⟨k + 1, ⟨by omega, fun j hj hj2 => by rcases Nat.lt_succ_iff_lt_or_eq.1 hj2 with h | rfl; exact hall j hj h; exact decide_eq_false (fun e => h1 (by rw [e]))⟩, by omega, Weak.ren _ [] hC rfl (by repeat (first | exact True.intro | refine And.intro ?_ ?_ | exact DLead.same)) (by repeat (exact True.intro)) rfl rfl rfl⟩
 refine AC.exit (th_e (th_e (ib_y (th_n (AC.seq (AC.region ?_))))));refine za ?_;refine AL.nil (th_n (AC.ret (bq_r ?_)));exact ret1 rfl (by rw [findI_none (fun j hj => hall j hj (by omega))])
theorem en_l2Signal : Enters Tryz.prog 263 := enters_of Tryz.func263 rfl rfl
structure Bs where
 sigs : List Sig
 ts : List Tn
 labs : List Lab
 start : List UInt8
 ps : List (List UInt8)
 ws : List (List UInt8)
abbrev bC (b : Bs) (i1 i2 i3 i4 i5 : Nat) : Chunk := .cells 217 [aI b.ps.length, .own i1 b.ts.length, .own i2 b.sigs.length, .own i3 b.labs.length, aS (bstr b.start), .own i4 b.ps.length, .own i5 b.ws.length]
abbrev bChs (b : Bs) (i1 i2 i3 i4 i5 : Nat) : List (Nat × Chunk) := [(0, bC b i1 i2 i3 i4 i5), (i1, .arr 249 2 (tsL b.ts)), (i2, .arr 123 2 (sigsL b.sigs)), (i3, .arr 64 2 (labsL b.labs)), (i4, .arr 9 1 (sxL b.ps)), (i5, .arr 9 1 (sxL b.ws))]
structure BsL (b : Bs) : Prop where
 s : b.sigs.length ≤ 100000
 t : b.ts.length ≤ 100000
 l : b.labs.length ≤ 100000
 st : b.start.length ≤ 100000
 p : b.ps.length ≤ 100000
 w : b.ws.length ≤ 100000
def placeF (b : Bs) (nm : List UInt8) : Nat × Bs := if b.ps.findIdx (fun x => decide (x = nm)) < b.ps.length then (b.ps.findIdx (fun x => decide (x = nm)), b) else (b.ps.length, { b with ps := b.ps ++ [nm], start := b.start ++ [48] })
theorem placeF_yes {b : Bs} {nm : List UInt8} {k : Nat} (hk : k < b.ps.length) (h : b.ps[k] = nm) (hp : ∀ j (hj : j < b.ps.length), j < k → ¬ b.ps[j] = nm) : placeF b nm = (k, b) := by
 have e : b.ps.findIdx (fun x => decide (x = nm)) = k := (List.findIdx_eq hk).2 ⟨decide_eq_true h, fun j hj => by simpa using hp j (by omega) hj⟩;rw [placeF, e, if_pos hk]
theorem placeF_no {b : Bs} {nm : List UInt8} (hp : ∀ j (hj : j < b.ps.length), ¬ b.ps[j] = nm) : placeF b nm = (b.ps.length, { b with ps := b.ps ++ [nm], start := b.start ++ [48] }) := by
 have e : b.ps.findIdx (fun x => decide (x = nm)) = b.ps.length := List.findIdx_eq_length.2 (fun x hx => by obtain ⟨j, hj, rfl⟩ := List.getElem_of_mem hx; simpa using hp j hj);rw [placeF, e, if_neg (Nat.lt_irrefl _)]
set_option maxHeartbeats 4000000 in
theorem bPlace_spec (b : Bs) (nm : List UInt8) (hb : BsL b) : ASpec Tryz.prog 243 [.ptr 0 0, aS (bstr nm)] (bChs b 1 2 3 4 5) (Fun1 (aI (placeF b nm).1) (bChs (placeF b nm).2 1 2 3 6 5)) := by
 have hps := hb.p;have hss := hb.st;refine ASpec.of Tryz.func243 rfl rfl fun C hC => ?_
 refine AC.seq (AC.region ?_);refine za ?_;refine AL.nil (th_n (AC.seq (AC.seq (AC.region ?_))));refine AL.p (by exact mv3 rfl) rfl ?_;refine AL.p (by exact g_nilP rfl) rfl ?_;refine zF ?_;refine zl ?_;refine AL.p (by exact g_len_own (sz := 1) (els := []) (e' := 0) rfl rfl (by simp only [maxLen]; omega)) rfl ?_;refine zm ?_;refine AL.nil (th_n (AC.block ?_));refine AC.loop (ι := Nat) (fun k => ⟨58, 136, [(0, .ptr 0 0), (1, aS (bstr nm)), (10, .own 4 b.ps.length), (11, aI b.ps.length), (12, aI k)], chL (bChs b 1 2 3 4 5)⟩) (fun k => k ≤ b.ps.length ∧ ∀ j (hj : j < b.ps.length), j < k → ¬ b.ps[j] = nm) (fun k => b.ps.length - k) (0) ?_ (⟨Nat.zero_le _, fun j _ hj => by omega⟩) ?_
 ·exact zw [] hC
 intro k ⟨hk, hall⟩;refine AC.seq (AC.region ?_);refine zc ?_;refine AL.nil (th_n (AC.seq ?_));refine AC.condD rfl (fun h0 => ?_) (fun h0 => ?_)
 ·refine AC.skip (th_n (AC.seq (AC.block (AC.seq ?_))));have hk1 : k < b.ps.length := by omega
  have hget := sxL_get hk1;refine AC.region ?_;refine zm ?_;refine AL.p (by exact g_ia_own rfl rfl rfl rfl rfl (by rfl) (by omega) (by exact Nat.mul_one _)) rfl ?_;refine AL.p (by exact g_load_arr1 rfl rfl rfl rfl (by assumption)) rfl ?_;refine za ?_;refine za ?_;refine AL.nil (th_n (AC.seq (AC.region ?_)));refine zm ?_;refine zm ?_;refine AL.p (by exact g_scmp rfl rfl rfl) rfl ?_;refine AL.nil (th_n ?_);refine AC.condD rfl (fun h1 => ?_) (fun h1 => ?_)
  ·refine AC.seq (AC.region ?_);refine zm ?_;refine za ?_;refine AL.nil (th_n (AC.ret (ib_r (th_r (th_r (ib_r (th_r (bq_r ?_))))))));have e := placeF_yes hk1 (bstr_inj h1) hall;exact retN [(6, 4)] rfl (by rw [e]; repeat (exact DLead.same)) (by rw [e]; repeat (first | exact True.intro | refine And.intro ?_ ?_ | exact DLead.same | exact rfl | refine ⟨_, _, rfl, rfl, ?_⟩ | refine ⟨_, rfl, ?_⟩ | refine ⟨_, _, rfl, ?_, ?_⟩)) rfl rfl
  refine AC.skip (ib_n (th_n (AC.region ?_)));refine zA ?_;refine zm ?_;refine AL.nil (th_n ?_);exact ⟨k + 1, ⟨by omega, fun j hj hj2 => by rcases Nat.lt_succ_iff_lt_or_eq.1 hj2 with h | rfl; exact hall j hj h; exact fun e => h1 (by rw [e])⟩, by omega, zw [] hC⟩
 refine AC.exit (th_e (th_e (ib_y (th_n (AC.seq ?_)))));have e := placeF_no (fun j hj => hall j hj (by omega));have hln : (b.ps ++ [nm]).length = b.ps.length + 1 := by simp
 refine AC.region ?_;refine AL.p (by exact mv3 rfl) rfl ?_;refine AL.p (by exact mv3 rfl) rfl ?_;refine AL.p (by exact g_nilP rfl) rfl ?_;refine zF ?_;refine zl ?_;refine zm ?_;refine AL.q (by exact h_litF rfl rfl rfl rfl rfl rfl rfl rfl) rfl ?_;refine AL.q (by exact h_appendSx b.ps [nm] (.own rfl rfl (sxL_len _).symm) (.view rfl) (by omega) (by simp)) rfl ?_;refine AL.p (by exact g_nilP rfl) rfl ?_;refine zF ?_;refine zs ?_;refine AL.nil (th_n (AC.seq (AC.region ?_)));refine AL.p (by exact mv3 rfl) rfl ?_;refine AL.p (by exact g_nilP rfl) rfl ?_;refine zF ?_;refine zF ?_;refine zl ?_;refine AL.p (by exact g_saddB (a := b.start) (b := [48]) rfl rfl (by simp only [List.length_cons, List.length_nil]; omega)) rfl ?_;refine AL.p (by exact g_nilP rfl) rfl ?_;refine zF ?_;refine zF ?_;refine zs ?_;refine AL.nil (th_n (AC.seq (AC.region ?_)));refine AL.p (by exact mv3 rfl) rfl ?_;refine AL.p (by exact g_nilP rfl) rfl ?_;refine zF ?_;refine zF ?_;refine zF ?_;refine zl ?_;refine zA ?_;refine AL.p (by exact g_nilP rfl) rfl ?_;refine zF ?_;refine zF ?_;refine zF ?_;refine zs ?_;refine AL.nil (th_n (AC.seq (AC.region ?_)));refine AL.p (by exact mv3 rfl) rfl ?_;refine AL.p (by exact g_nilP rfl) rfl ?_;refine zF ?_;refine zl ?_;refine AL.p (by exact g_len_own (sz := 1) (els := []) (e' := 0) rfl rfl (by simp only [maxLen]; omega)) rfl ?_;refine zA ?_;refine za ?_;refine AL.nil (th_n (AC.ret (bq_r ?_)));exact retN [(6, 144)] rfl (by rw [e]; exact DLead.eqI (by omega)) (by rw [e]; dsimp only; repeat (first | exact True.intro | refine And.intro ?_ ?_ | exact DLead.same | exact DLead.eqI (by dsimp only; omega) | exact rfl | refine ⟨_, _, rfl, rfl, ?_⟩ | refine ⟨_, rfl, ?_⟩ | refine ⟨_, _, rfl, ?_, ?_⟩)) rfl rfl
theorem en_bPlace : Enters Tryz.prog 243 := enters_of Tryz.func243 rfl rfl
end Go.Proofs.YtbofmbjefbpnaaaGreat
