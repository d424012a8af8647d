/- Contracts of the functions of the program and of the reference, each proved by a walk through its code. -/
import Derived.Lib.IndexAny
import Derived.Test.YtjodfopifgiipaaGreatGGb7
set_option linter.all false
set_option maxRecDepth 20000
namespace Go.Proofs.YtjodfopifgiipaaGreat
open Go.RowKit
def lit3 (b : UInt8) : Bool := decide ((b.toNat : Int) = 48) || decide ((b.toNat : Int) = 49) || decide ((b.toNat : Int) = 45)
def cubeB (s : List UInt8) (n : Int) : Bool := s.all lit3 && (decide ((s.length : Int) = n) && (decide (1 ≤ n) && decide (n ≤ 8)))
theorem all_of {p : UInt8 → Bool} {m : List UInt8} (h : ∀ j (hj : j < m.length), p m[j] = true) : m.all p = true := List.all_eq_true.2 (fun x hx => by obtain ⟨j, hj, rfl⟩ := List.getElem_of_mem hx; exact h j hj)
theorem not_all {p : UInt8 → Bool} {m : List UInt8} {j : Nat} (hj : j < m.length) (h : p m[j] = false) : m.all p = false := List.all_eq_false.2 ⟨_, List.getElem_mem hj, by simp [h]⟩
set_option maxHeartbeats 1000000 in
theorem isCube_spec (m : List UInt8) (n : Int) (hm : m.length ≤ 2000000) : ASpec Tryz.prog 49 [aS (bstr m), aI n] [] (Pure1 (aT (cubeB m n))) := by
 have hsz := bstr_size m;refine ASpec.of Tryz.func49 rfl rfl fun C hC => ?_
 refine AC.seq (AC.region ?_);refine za ?_;refine AL.nil (th_n (AC.seq (AC.seq (AC.region ?_))));refine za ?_;refine AL.nil (th_n (AC.block ?_));refine AC.loop (ι := Nat) (fun k => ⟨36, 0, [(0, aS (bstr m)), (1, aI n), (5, aI k)], []⟩) (fun k => k ≤ m.length ∧ ∀ j (hj : j < m.length), j < k → lit3 m[j] = true) (fun k => m.length - k) (0) ?_ (⟨Nat.zero_le _, fun j _ hj => by omega⟩) ?_
 ·refine Weak.ren _ [] hC rfl ?_ ?_ rfl rfl rfl <;> repeat (first | exact True.intro | refine And.intro ?_ ?_ | exact DLead.same)
 intro k ⟨hk, hall⟩;refine AC.seq (AC.seq (AC.region ?_));refine zm ?_;refine zm ?_;refine AL.p (by exact g_len_str rfl rfl rfl) rfl ?_;refine zc ?_;refine AL.nil (th_n ?_);refine AC.condD rfl (fun h0 => ?_) (fun h0 => ?_)
 ·refine AC.skip (th_n (AC.seq (AC.block (AC.seq ?_))));have hk1 : k < m.length := by omega
  have hget := bstr_at hk1;have hlt := m[k].toNat_lt;refine AC.region ?_;refine zm ?_;refine zm ?_;refine AL.p (by exact g_index rfl rfl rfl (by rfl) (by assumption)) rfl ?_;refine zc ?_;refine zm ?_;refine AL.caseGN rfl rfl (fun h1 => ?_) (fun h1 => ?_)
  ·refine zy ?_;refine zm ?_;refine zy ?_;refine zm ?_;refine zy ?_;refine AL.p (by exact g_index rfl rfl rfl (by rfl) (by assumption)) rfl ?_;refine zy ?_;refine zc ?_;refine zQ ?_;refine zm ?_;refine AL.caseGN rfl rfl (fun h2 => ?_) (fun h2 => ?_)
   ·refine zy ?_;refine zm ?_;refine zy ?_;refine zm ?_;refine zy ?_;refine AL.p (by exact g_index rfl rfl rfl (by rfl) (by assumption)) rfl ?_;refine zy ?_;refine zc ?_;refine zQ ?_;refine AL.nil (th_n ?_);refine AC.condND rfl (fun h3 => ?_) (fun h3 => ?_)
    ·refine AC.seq (AC.region ?_);refine za ?_;refine AL.nil (th_n (AC.ret (ib_r (th_r (th_r (ib_r (th_r (bq_r ?_))))))));have hb : lit3 m[k] = false := by simp_all [lit3]
     exact ret1 rfl (by rw [cubeB, not_all hk1 hb]; rfl)
    refine AC.skip (ib_n (th_n (AC.region ?_)));refine zm ?_;refine zA ?_;refine za ?_;refine AL.nil (th_n ?_);have hb : lit3 m[k] = true := by simp_all [lit3]
    exact ⟨k + 1, ⟨by omega, fun j hj hj2 => by rcases Nat.lt_succ_iff_lt_or_eq.1 hj2 with h | rfl; exact hall j hj h; exact hb⟩, by omega, Weak.ren _ [] hC rfl (by repeat (first | exact True.intro | refine And.intro ?_ ?_ | exact DLead.same)) (by repeat (exact True.intro)) rfl rfl rfl⟩
   refine zn ?_;refine zn ?_;refine zn ?_;refine zn ?_;refine zP ?_;refine AL.nil (th_n ?_);refine AC.condF rfl ?_;refine AC.skip (ib_n (th_n (AC.region ?_)));refine zm ?_;refine zA ?_;refine za ?_;refine AL.nil (th_n ?_);have hb : lit3 m[k] = true := by simp_all [lit3]
   exact ⟨k + 1, ⟨by omega, fun j hj hj2 => by rcases Nat.lt_succ_iff_lt_or_eq.1 hj2 with h | rfl; exact hall j hj h; exact hb⟩, by omega, Weak.ren _ [] hC rfl (by repeat (first | exact True.intro | refine And.intro ?_ ?_ | exact DLead.same)) (by repeat (exact True.intro)) rfl rfl rfl⟩
  refine zn ?_;refine zn ?_;refine zn ?_;refine zn ?_;refine zP ?_;refine zm ?_;refine zn ?_;refine zn ?_;refine zn ?_;refine zn ?_;refine zP ?_;refine AL.nil (th_n ?_);refine AC.condF rfl ?_;refine AC.skip (ib_n (th_n (AC.region ?_)));refine zm ?_;refine zA ?_;refine za ?_;refine AL.nil (th_n ?_);have hb : lit3 m[k] = true := by simp_all [lit3]
  exact ⟨k + 1, ⟨by omega, fun j hj hj2 => by rcases Nat.lt_succ_iff_lt_or_eq.1 hj2 with h | rfl; exact hall j hj h; exact hb⟩, by omega, Weak.ren _ [] hC rfl (by repeat (first | exact True.intro | refine And.intro ?_ ?_ | exact DLead.same)) (by repeat (exact True.intro)) rfl rfl rfl⟩
 refine AC.exit (th_e (th_e (ib_y (th_n (AC.seq (AC.region ?_))))));refine zm ?_;refine AL.p (by exact g_len_str rfl rfl rfl) rfl ?_;refine zm ?_;refine zc ?_;refine zm ?_;refine AL.caseG rfl rfl (fun h1 => ?_) (fun h1 => ?_)
 ·refine zy ?_;refine zm ?_;refine zy ?_;refine AL.q (by exact h_pure en_within rfl rfl (by repeat (first | exact rfl | exact DLead.same | refine ⟨_, _, rfl, ?_, ?_⟩)) (within_spec _ _ _) rfl) rfl ?_;refine zQ ?_;refine za ?_;refine AL.nil (th_n (AC.ret (bq_r ?_)));have ha : m.all lit3 = true := all_of (fun j hj => hall j hj (by omega));exact ret1 rfl (by rw [cubeB, ha, ← hsz, h1]; simp; done)
 refine zn ?_;refine zn ?_;refine zP ?_;refine za ?_;refine AL.nil (th_n (AC.ret (bq_r ?_)));have ha : m.all lit3 = true := all_of (fun j hj => hall j hj (by omega));exact ret1 rfl (by rw [cubeB, ha, ← hsz, decide_eq_false h1]; rfl)
theorem en_isCube : Enters Tryz.prog 49 := enters_of Tryz.func49 rfl rfl
set_option maxHeartbeats 1000000 in
theorem l13Cube_spec (m : List UInt8) (hm : m.length ≤ 2000000) : ASpec Tryz.prog 100 [aS (bstr m)] [] (Pure1 (aT (cubeB m m.length))) := by
 have hsz := bstr_size m;refine ASpec.of Tryz.func100 rfl rfl fun C hC => ?_
 refine AC.seq (AC.region ?_);refine za ?_;refine AL.nil (th_n (AC.seq (AC.seq (AC.region ?_))));refine za ?_;refine AL.nil (th_n (AC.block ?_));refine AC.loop (ι := Nat) (fun k => ⟨29, 0, [(0, aS (bstr m)), (3, aI k)], []⟩) (fun k => k ≤ m.length ∧ ∀ j (hj : j < m.length), j < k → lit3 m[j] = true) (fun k => m.length - k) (0) ?_ (⟨Nat.zero_le _, fun j _ hj => by omega⟩) ?_
 ·refine Weak.ren _ [] hC rfl ?_ ?_ rfl rfl rfl <;> repeat (first | exact True.intro | refine And.intro ?_ ?_ | exact DLead.same)
 intro k ⟨hk, hall⟩;refine AC.seq (AC.seq (AC.region ?_));refine zm ?_;refine zm ?_;refine AL.p (by exact g_len_str rfl rfl rfl) rfl ?_;refine zc ?_;refine AL.nil (th_n ?_);refine AC.condD rfl (fun h0 => ?_) (fun h0 => ?_)
 ·refine AC.skip (th_n (AC.seq (AC.block (AC.seq ?_))));have hk1 : k < m.length := by omega
  have hget := bstr_at hk1;have hlt := m[k].toNat_lt;refine AC.region ?_;refine zm ?_;refine zm ?_;refine AL.p (by exact g_index rfl rfl rfl (by rfl) (by assumption)) rfl ?_;refine zc ?_;refine zm ?_;refine AL.caseGN rfl rfl (fun h1 => ?_) (fun h1 => ?_)
  ·refine zy ?_;refine zm ?_;refine zy ?_;refine zm ?_;refine zy ?_;refine AL.p (by exact g_index rfl rfl rfl (by rfl) (by assumption)) rfl ?_;refine zy ?_;refine zc ?_;refine zQ ?_;refine zm ?_;refine AL.caseGN rfl rfl (fun h2 => ?_) (fun h2 => ?_)
   ·refine zy ?_;refine zm ?_;refine zy ?_;refine zm ?_;refine zy ?_;refine AL.p (by exact g_index rfl rfl rfl (by rfl) (by assumption)) rfl ?_;refine zy ?_;refine zc ?_;refine zQ ?_;refine AL.nil (th_n ?_);refine AC.condND rfl (fun h3 => ?_) (fun h3 => ?_)
    ·refine AC.seq (AC.region ?_);refine za ?_;refine AL.nil (th_n (AC.ret (ib_r (th_r (th_r (ib_r (th_r (bq_r ?_))))))));have hb : lit3 m[k] = false := by simp_all [lit3]
     exact ret1 rfl (by rw [cubeB, not_all hk1 hb]; rfl)
    refine AC.skip (ib_n (th_n (AC.region ?_)));refine zm ?_;refine zA ?_;refine za ?_;refine AL.nil (th_n ?_);have hb : lit3 m[k] = true := by simp_all [lit3]
    exact ⟨k + 1, ⟨by omega, fun j hj hj2 => by rcases Nat.lt_succ_iff_lt_or_eq.1 hj2 with h | rfl; exact hall j hj h; exact hb⟩, by omega, Weak.ren _ [] hC rfl (by repeat (first | exact True.intro | refine And.intro ?_ ?_ | exact DLead.same)) (by repeat (exact True.intro)) rfl rfl rfl⟩
   refine zn ?_;refine zn ?_;refine zn ?_;refine zn ?_;refine zP ?_;refine AL.nil (th_n ?_);refine AC.condF rfl ?_;refine AC.skip (ib_n (th_n (AC.region ?_)));refine zm ?_;refine zA ?_;refine za ?_;refine AL.nil (th_n ?_);have hb : lit3 m[k] = true := by simp_all [lit3]
   exact ⟨k + 1, ⟨by omega, fun j hj hj2 => by rcases Nat.lt_succ_iff_lt_or_eq.1 hj2 with h | rfl; exact hall j hj h; exact hb⟩, by omega, Weak.ren _ [] hC rfl (by repeat (first | exact True.intro | refine And.intro ?_ ?_ | exact DLead.same)) (by repeat (exact True.intro)) rfl rfl rfl⟩
  refine zn ?_;refine zn ?_;refine zn ?_;refine zn ?_;refine zP ?_;refine zm ?_;refine zn ?_;refine zn ?_;refine zn ?_;refine zn ?_;refine zP ?_;refine AL.nil (th_n ?_);refine AC.condF rfl ?_;refine AC.skip (ib_n (th_n (AC.region ?_)));refine zm ?_;refine zA ?_;refine za ?_;refine AL.nil (th_n ?_);have hb : lit3 m[k] = true := by simp_all [lit3]
  exact ⟨k + 1, ⟨by omega, fun j hj hj2 => by rcases Nat.lt_succ_iff_lt_or_eq.1 hj2 with h | rfl; exact hall j hj h; exact hb⟩, by omega, Weak.ren _ [] hC rfl (by repeat (first | exact True.intro | refine And.intro ?_ ?_ | exact DLead.same)) (by repeat (exact True.intro)) rfl rfl rfl⟩
 refine AC.exit (th_e (th_e (ib_y (th_n (AC.seq (AC.region ?_))))));refine zm ?_;refine AL.p (by exact g_len_str rfl rfl rfl) rfl ?_;refine AL.q (by exact h_pure en_l1In rfl rfl (by repeat (first | exact rfl | exact DLead.same | refine ⟨_, _, rfl, ?_, ?_⟩)) (l1In_spec _ _ _) rfl) rfl ?_;refine za ?_;refine AL.nil (th_n (AC.ret (bq_r ?_)));have ha : m.all lit3 = true := all_of (fun j hj => hall j hj (by omega));exact ret1 rfl (by rw [cubeB, ha, ← hsz]; simp)
theorem en_l13Cube : Enters Tryz.prog 100 := enters_of Tryz.func100 rfl rfl
theorem strContains_spec (m : List UInt8) (c : UInt8) : ASpec Tryz.prog 50 [aS (bstr m), aS ⟨#[c]⟩] [] (Pure1 (aT (m.contains c))) := by
 have h := ASpec.ofLib2 (P := Tryz.prog) (g := 50) (x := bstr m) (y := ⟨#[c]⟩) (b := decide (0 ≤ Lib.indexByte (bstr m).data.toList c)) (fun w => Tryz.strings_Contains_one (bstr m) c w);rw [bstr_data] at h
 rwa [Lib.contains_iff_indexByte]
theorem en_strContains : Enters Tryz.prog 50 := enters_of Tryz.func50 rfl rfl
def codeB (s : List UInt8) (n : Int) : Bool := cubeB s n && !s.contains 45
theorem isCode_spec (m : List UInt8) (n : Int) (hm : m.length ≤ 2000000) : ASpec Tryz.prog 21 [aS (bstr m), aI n] [] (Pure1 (aT (codeB m n))) := by
 have hK := strContains_spec m 45;refine ASpec.of Tryz.func21 rfl rfl fun C hC => ?_
 refine AC.seq (AC.region ?_);refine za ?_;refine AL.nil (th_n (AC.seq (AC.region ?_)));refine zm ?_;refine zm ?_;refine AL.q (by exact h_pure en_isCube rfl rfl (by repeat (first | exact rfl | exact DLead.same | refine ⟨_, _, rfl, ?_, ?_⟩)) (isCube_spec _ _ (by assumption)) rfl) rfl ?_;refine zm ?_;refine AL.caseGB rfl rfl (fun h0 => ?_) (fun h0 => ?_)
 ·refine zy ?_;refine zm ?_;refine zy ?_;refine kV en_strContains hK ?_;refine zy ?_;refine kC ?_;refine zQ ?_;refine za ?_;refine AL.nil (th_n (AC.ret (bq_r ?_)));exact ret1 rfl (by unfold codeB; rw [h0]; rfl)
 refine zn ?_;refine zn ?_;refine zn ?_;refine zP ?_;refine za ?_;refine AL.nil (th_n (AC.ret (bq_r ?_)));exact ret1 rfl (by unfold codeB; rw [h0]; rfl)
theorem en_isCode : Enters Tryz.prog 21 := enters_of Tryz.func21 rfl rfl
def at1 (m : List UInt8) (i : Nat) : Int := ((m.getD i 0).toNat : Int)
def okAt (a b : List UInt8) (i : Nat) : Bool := decide (at1 a i = 45) || decide (at1 a i = at1 b i)
def hasC (a b : List UInt8) : Bool := allN a.length (okAt a b)
set_option maxHeartbeats 1000000 in
theorem contains_spec (a b : List UInt8) (ha : a.length ≤ 2000000) (hl : b.length = a.length) : ASpec Tryz.prog 78 [aS (bstr a), aS (bstr b)] [] (Pure1 (aT (hasC a b))) := by
 have hsz := bstr_size a;refine ASpec.of Tryz.func78 rfl rfl fun C hC => ?_
 refine AC.seq (AC.region ?_);refine za ?_;refine AL.nil (th_n (AC.seq (AC.seq (AC.region ?_))));refine zm ?_;refine AL.p (by exact g_len_str (k := a.length) rfl rfl hsz) rfl ?_;refine zm ?_;refine AL.nil (th_n (AC.block ?_));refine AC.loop (ι := Nat) (fun k => ⟨25, 0, [(0, aS (bstr a)), (1, aS (bstr b)), (7, aI a.length), (8, aI k)], []⟩) (fun k => k ≤ a.length ∧ ∀ j, j < k → okAt a b j = true) (fun k => a.length - k) (0) ?_ (⟨Nat.zero_le _, fun j hj => by omega⟩) ?_
 ·refine Weak.ren _ [] hC rfl ?_ ?_ rfl rfl rfl <;> repeat (first | exact True.intro | refine And.intro ?_ ?_ | exact DLead.same)
 intro k ⟨hk, hall⟩;refine AC.seq (AC.region ?_);refine zc ?_;refine AL.nil (th_n (AC.seq ?_));refine AC.condD rfl (fun h0 => ?_) (fun h0 => ?_)
 ·refine AC.skip (th_n (AC.seq (AC.block (AC.seq ?_))));have hk1 : k < a.length := by omega
  have hga : (bstr a).data.toList[k]? = some (a.getD k 0) := bstr_getD hk1;have hgb : (bstr b).data.toList[k]? = some (b.getD k 0) := bstr_getD (by omega);refine AC.region ?_;refine zm ?_;refine za ?_;refine AL.nil (th_n (AC.seq ?_));refine AC.drawn' mixed_ok [[], [], [0,1], [0,1,2], [0,1,2,3], [0,1,2,3,4], [0,1,2,3,4], [0,1,2,3,4,5,6], [0,1,2,3,4], [0,1,2,3,4], [0,1,2,3,4,8,9], [0,1,2,3,4,5,6,7,8,9,10], [0,1,2,3,4,5,6,7,8,9,10,11]] (by decide) ?_;refine zd 0 [] 13 (by exact mv1 rfl) ?_;refine zd 1 [] 13 (by exact mv1 rfl) ?_;refine zd 2 [0,1] 13 (by exact g_index rfl rfl rfl (by rfl) (by assumption)) ?_;refine zd 3 [0,1,2] 13 (by exact g_cmp rfl rfl rfl) ?_;refine zd 4 [0,1,2,3] 13 (by exact mv1 rfl) ?_;refine DF.caseB 4 rfl (fun h1 => ?_) (fun h1 => ?_)
  ·refine ze 5 [0,1,2,3,4] 13 (by exact mv1 rfl) ?_;refine ze 6 [0,1,2,3,4] 13 (by exact mv1 rfl) ?_;refine ze 7 [0,1,2,3,4,5,6] 13 (by exact g_index rfl rfl rfl (by rfl) (by assumption)) ?_;refine ze 8 [0,1,2,3,4] 13 (by exact mv1 rfl) ?_;refine ze 9 [0,1,2,3,4] 13 (by exact mv1 rfl) ?_;refine ze 10 [0,1,2,3,4,8,9] 13 (by exact g_index rfl rfl rfl (by rfl) (by assumption)) ?_;refine ze 11 (List.range 11) 13 (by exact g_cmp rfl rfl rfl) ?_;refine zd 12 (List.range 12) 13 (by exact g_pickT (r := .d _) rfl rfl) ?_;refine zj 13 ?_;refine th_n ?_;refine AC.condND rfl (fun h2 => ?_) (fun h2 => ?_)
   ·refine AC.seq (AC.region ?_);refine za ?_;refine AL.nil (th_n (AC.ret (ib_r (th_r (th_r (ib_r (th_r (bq_r ?_))))))));have hb : okAt a b k = false := by simp_all [okAt, at1]
    exact ret1 rfl (by rw [hasC, allN_false hk1 hb])
   refine AC.skip (ib_n (th_n (AC.region ?_)));refine zA ?_;refine zm ?_;refine AL.nil (th_n ?_);have hb : okAt a b k = true := by simp_all [okAt, at1]
   exact ⟨k + 1, ⟨by omega, fun j hj => by rcases Nat.lt_succ_iff_lt_or_eq.1 hj with h | rfl; exact hall j h; exact hb⟩, by omega, Weak.ren _ [] hC rfl (by repeat (first | exact True.intro | refine And.intro ?_ ?_ | exact DLead.same)) (by repeat (exact True.intro)) rfl rfl rfl⟩
  refine zg 5 [0,1,2,3,4] 13 ?_;refine zg 6 [0,1,2,3,4] 13 ?_;refine zg 7 [0,1,2,3,4,5,6] 13 ?_;refine zg 8 [0,1,2,3,4] 13 ?_;refine zg 9 [0,1,2,3,4] 13 ?_;refine zg 10 [0,1,2,3,4,8,9] 13 ?_;refine zg 11 (List.range 11) 13 ?_;refine zd 12 (List.range 12) 13 (by exact g_pickF (r := .d _) rfl rfl) ?_;refine zj 13 ?_;refine th_n ?_;refine AC.condF rfl ?_;refine AC.skip (ib_n (th_n (AC.region ?_)));refine zA ?_;refine zm ?_;refine AL.nil (th_n ?_);have hb : okAt a b k = true := by simp_all [okAt, at1]
  exact ⟨k + 1, ⟨by omega, fun j hj => by rcases Nat.lt_succ_iff_lt_or_eq.1 hj with h | rfl; exact hall j h; exact hb⟩, by omega, Weak.ren _ [] hC rfl (by repeat (first | exact True.intro | refine And.intro ?_ ?_ | exact DLead.same)) (by repeat (exact True.intro)) rfl rfl rfl⟩
 refine AC.exit (th_e (th_e (ib_y (th_n (AC.seq (AC.region ?_))))));refine za ?_;refine AL.nil (th_n (AC.ret (bq_r ?_)));exact ret1 rfl (by rw [hasC, allN_true (fun j hj => hall j (by omega))])
theorem en_contains : Enters Tryz.prog 78 := enters_of Tryz.func78 rfl rfl
set_option maxHeartbeats 1000000 in
theorem l13Has_spec (a b : List UInt8) (ha : a.length ≤ 2000000) (hl : b.length = a.length) : ASpec Tryz.prog 79 [aS (bstr a), aS (bstr b)] [] (Pure1 (aT (hasC a b))) := by
 have hsz := bstr_size a;refine ASpec.of Tryz.func79 rfl rfl fun C hC => ?_
 refine AC.seq (AC.region ?_);refine za ?_;refine AL.nil (th_n (AC.seq (AC.seq (AC.region ?_))));refine za ?_;refine AL.nil (th_n (AC.block ?_));refine AC.loop (ι := Nat) (fun k => ⟨25, 0, [(0, aS (bstr a)), (1, aS (bstr b)), (5, aI k)], []⟩) (fun k => k ≤ a.length ∧ ∀ j, j < k → okAt a b j = true) (fun k => a.length - k) (0) ?_ (⟨Nat.zero_le _, fun j hj => by omega⟩) ?_
 ·refine Weak.ren _ [] hC rfl ?_ ?_ rfl rfl rfl <;> repeat (first | exact True.intro | refine And.intro ?_ ?_ | exact DLead.same)
 intro k ⟨hk, hall⟩;refine AC.seq (AC.seq (AC.region ?_));refine zm ?_;refine zm ?_;refine AL.p (by exact g_len_str (k := a.length) rfl rfl hsz) rfl ?_;refine zc ?_;refine AL.nil (th_n ?_);refine AC.condD rfl (fun h0 => ?_) (fun h0 => ?_)
 ·refine AC.skip (th_n (AC.seq (AC.block (AC.seq ?_))));have hk1 : k < a.length := by omega
  have hga : (bstr a).data.toList[k]? = some (a.getD k 0) := bstr_getD hk1;have hgb : (bstr b).data.toList[k]? = some (b.getD k 0) := bstr_getD (by omega);refine AC.drawn' mixed_ok [[], [], [0,1], [0,1,2], [0,1,2,3], [0,1,2,3,4], [0,1,2,3,4], [0,1,2,3,4,5,6], [0,1,2,3,4], [0,1,2,3,4], [0,1,2,3,4,8,9], [0,1,2,3,4,5,6,7,8,9,10], [0,1,2,3,4,5,6,7,8,9,10,11]] (by decide) ?_;refine zd 0 [] 13 (by exact mv1 rfl) ?_;refine zd 1 [] 13 (by exact mv1 rfl) ?_;refine zd 2 [0,1] 13 (by exact g_index rfl rfl rfl (by rfl) (by assumption)) ?_;refine zd 3 [0,1,2] 13 (by exact g_cmp rfl rfl rfl) ?_;refine zd 4 [0,1,2,3] 13 (by exact mv1 rfl) ?_;refine DF.caseB 4 rfl (fun h1 => ?_) (fun h1 => ?_)
  ·refine ze 5 [0,1,2,3,4] 13 (by exact mv1 rfl) ?_;refine ze 6 [0,1,2,3,4] 13 (by exact mv1 rfl) ?_;refine ze 7 [0,1,2,3,4,5,6] 13 (by exact g_index rfl rfl rfl (by rfl) (by assumption)) ?_;refine ze 8 [0,1,2,3,4] 13 (by exact mv1 rfl) ?_;refine ze 9 [0,1,2,3,4] 13 (by exact mv1 rfl) ?_;refine ze 10 [0,1,2,3,4,8,9] 13 (by exact g_index rfl rfl rfl (by rfl) (by assumption)) ?_;refine ze 11 (List.range 11) 13 (by exact g_cmp rfl rfl rfl) ?_;refine zd 12 (List.range 12) 13 (by exact g_pickT (r := .d _) rfl rfl) ?_;refine zj 13 ?_;refine th_n ?_;refine AC.condND rfl (fun h2 => ?_) (fun h2 => ?_)
   ·refine AC.seq (AC.region ?_);refine za ?_;refine AL.nil (th_n (AC.ret (ib_r (th_r (th_r (ib_r (th_r (bq_r ?_))))))));have hb : okAt a b k = false := by simp_all [okAt, at1]
    exact ret1 rfl (by rw [hasC, allN_false hk1 hb])
   refine AC.skip (ib_n (th_n (AC.region ?_)));refine zm ?_;refine zA ?_;refine za ?_;refine AL.nil (th_n ?_);have hb : okAt a b k = true := by simp_all [okAt, at1]
   exact ⟨k + 1, ⟨by omega, fun j hj => by rcases Nat.lt_succ_iff_lt_or_eq.1 hj with h | rfl; exact hall j h; exact hb⟩, by omega, Weak.ren _ [] hC rfl (by repeat (first | exact True.intro | refine And.intro ?_ ?_ | exact DLead.same)) (by repeat (exact True.intro)) rfl rfl rfl⟩
  refine zg 5 [0,1,2,3,4] 13 ?_;refine zg 6 [0,1,2,3,4] 13 ?_;refine zg 7 [0,1,2,3,4,5,6] 13 ?_;refine zg 8 [0,1,2,3,4] 13 ?_;refine zg 9 [0,1,2,3,4] 13 ?_;refine zg 10 [0,1,2,3,4,8,9] 13 ?_;refine zg 11 (List.range 11) 13 ?_;refine zd 12 (List.range 12) 13 (by exact g_pickF (r := .d _) rfl rfl) ?_;refine zj 13 ?_;refine th_n ?_;refine AC.condF rfl ?_;refine AC.skip (ib_n (th_n (AC.region ?_)));refine zm ?_;refine zA ?_;refine za ?_;refine AL.nil (th_n ?_);have hb : okAt a b k = true := by simp_all [okAt, at1]
  exact ⟨k + 1, ⟨by omega, fun j hj => by rcases Nat.lt_succ_iff_lt_or_eq.1 hj with h | rfl; exact hall j h; exact hb⟩, by omega, Weak.ren _ [] hC rfl (by repeat (first | exact True.intro | refine And.intro ?_ ?_ | exact DLead.same)) (by repeat (exact True.intro)) rfl rfl rfl⟩
 refine AC.exit (th_e (th_e (ib_y (th_n (AC.seq (AC.region ?_))))));refine za ?_;refine AL.nil (th_n (AC.ret (bq_r ?_)));exact ret1 rfl (by rw [hasC, allN_true (fun j hj => hall j (by omega))])
theorem en_l13Has : Enters Tryz.prog 79 := enters_of Tryz.func79 rfl rfl
abbrev strsL (l : List (List UInt8)) : List (List DV) := l.map (fun s => [dS (bstr s)])
abbrev vSs (l : List (List UInt8)) : DV := .view 9 1 (strsL l)
theorem strs_at {l : List (List UInt8)} {k : Nat} (h : k < l.length) : (strsL l)[k]? = some [dS (bstr l[k])] := by
 rw [List.getElem?_map, List.getElem?_eq_getElem h]; rfl
def fst0 (l : List (List UInt8)) : List UInt8 := l.getD 0 []
theorem fst0_at {l : List (List UInt8)} (h : 0 < l.length) : (strsL l)[0]? = some [dS (bstr (fst0 l))] := by
 rw [strs_at h];unfold fst0;rw [List.getD_eq_getElem?_getD, List.getElem?_eq_getElem h]; rfl
theorem fst0_mem {l : List (List UInt8)} (h : 0 < l.length) : fst0 l ∈ l := by
 unfold fst0;rw [List.getD_eq_getElem?_getD, List.getElem?_eq_getElem h]; exact List.getElem_mem h
set_option maxHeartbeats 1000000 in
theorem ifStr_spec (l : List (List UInt8)) (hl : l.length ≤ 1000000) (g : FuncId) (ds : List DV) (hen : Enters Tryz.prog g) (p : List UInt8 → Bool) (hp : ∀ t, t ∈ l → ASpec Tryz.prog g (aS (bstr t) :: ds.map .d) [] (Pure1 (aT (p t)))) : ASpec Tryz.prog 76 [.d (vSs l), .clo g (ds.map .d)] [] (Pure1 (aI (findI p l))) := by
 refine ASpec.of Tryz.func76 rfl rfl fun C hC => ?_
 refine AC.seq (AC.region ?_);refine za ?_;refine AL.nil (th_n (AC.seq (AC.seq (AC.region ?_))));refine zm ?_;refine kH ?_;refine zm ?_;refine AL.nil (th_n (AC.block ?_));refine AC.loop (ι := Nat) (fun k => ⟨19, 0, [(0, .d (vSs l)), (1, .clo g (ds.map .d)), (6, .d (vSs l)), (7, aI l.length), (8, aI k)], []⟩) (fun k => k ≤ l.length ∧ ∀ j (hj : j < l.length), j < k → p l[j] = false) (fun k => l.length - k) (0) ?_ (⟨Nat.zero_le _, fun j _ hj => by omega⟩) ?_
 ·refine Weak.ren _ [] hC rfl ⟨.same, ⟨_, rfl, leadsL_data _ ds⟩, ?_⟩ trivial rfl rfl rfl; repeat (first | exact True.intro | refine And.intro ?_ ?_ | exact DLead.same)
 intro k ⟨hk, hall⟩;refine AC.seq (AC.region ?_);refine zc ?_;refine AL.nil (th_n (AC.seq ?_));refine AC.condD rfl (fun h0 => ?_) (fun h0 => ?_)
 ·refine AC.skip (th_n (AC.seq (AC.block (AC.seq ?_))));have hk1 : k < l.length := by omega
  have hget := strs_at hk1;refine AC.region ?_;refine zm ?_;refine za ?_;refine AL.nil (th_n (AC.seq (AC.region ?_)));refine AL.p (by exact mv6 rfl) rfl ?_;refine zm ?_;refine zm ?_;refine AL.p (by exact g_ia_view rfl rfl rfl rfl rfl (by rfl) (by assumption)) rfl ?_;refine zr ?_;refine AL.q (by exact h_pure hen rfl rfl (by exact ⟨_, _, rfl, .same, leadsL_data _ ds⟩) (hp l[k] (List.getElem_mem hk1)) rfl) rfl ?_;refine AL.nil (th_n ?_);refine AC.condB rfl (fun h1 => ?_) (fun h1 => ?_)
  ·refine AC.seq (AC.region ?_);refine zm ?_;refine za ?_;refine AL.nil (th_n (AC.ret (ib_r (th_r (th_r (ib_r (th_r (bq_r ?_))))))));exact ret1 rfl (by rw [findI_at hk1 h1 (fun j hj => hall j (by omega) hj)])
  refine AC.skip (ib_n (th_n (AC.region ?_)));refine zA ?_;refine zm ?_;refine AL.nil (th_n ?_);exact ⟨k + 1, ⟨by omega, fun j hj hj2 => by rcases Nat.lt_succ_iff_lt_or_eq.1 hj2 with h | rfl; exact hall j hj h; exact h1⟩, by omega, Weak.ren _ [] hC rfl ⟨.same, ⟨_, rfl, leadsL_data _ ds⟩, by repeat (first | exact True.intro | refine And.intro ?_ ?_ | exact DLead.same)⟩ trivial rfl rfl rfl⟩
 refine AC.exit (th_e (th_e (ib_y (th_n (AC.seq (AC.region ?_))))));refine za ?_;refine AL.nil (th_n (AC.ret (bq_r ?_)));exact ret1 rfl (by rw [findI_none (fun j hj => hall j hj (by omega))])
theorem en_ifStr : Enters Tryz.prog 76 := enters_of Tryz.func76 rfl rfl
set_option maxHeartbeats 1000000 in
theorem cfStr_spec (l : List (List UInt8)) (hl : l.length ≤ 1000000) (g : FuncId) (ds : List DV) (hen : Enters Tryz.prog g) (p : List UInt8 → Bool) (hp : ∀ t, t ∈ l → ASpec Tryz.prog g (aS (bstr t) :: ds.map .d) [] (Pure1 (aT (p t)))) : ASpec Tryz.prog 58 [.d (vSs l), .clo g (ds.map .d)] [] (Pure1 (aT (l.any p))) := by
 refine ASpec.of Tryz.func58 rfl rfl fun C hC => ?_
 refine AC.seq (AC.region ?_);refine za ?_;refine AL.nil (th_n (AC.seq (AC.region ?_)));refine zm ?_;refine AL.p (by exact mv6 rfl) rfl ?_;refine AL.q (by exact h_pure en_ifStr rfl rfl (by exact ⟨_, _, rfl, .same, _, _, rfl, ⟨_, rfl, leadsL_data _ ds⟩, rfl⟩) (ifStr_spec l hl g ds hen p hp) rfl) rfl ?_;refine zc ?_;refine za ?_;refine AL.nil (th_n (AC.ret (bq_r ?_)));exact ret1 rfl (by rw [findI_any])
theorem en_cfStr : Enters Tryz.prog 58 := enters_of Tryz.func58 rfl rfl
theorem strsL_len (l : List (List UInt8)) : (strsL l).length = l.length := List.length_map _
theorem h_appendTx (acc new : List (List UInt8)) {s : ASt} {dst : Option Nat} {ty : Nat} {pos : String} {af : Array Edge} {gd : Option (Nat × Bool)} {x y : Operand} {f : Nat} {ids ids2 : List Nat} {gone : List (Nat × Option Chunk)}
  (hto : AppTo s x 9 1 (strsL acc) ids gone) (harg : AppArg s y 1 (strsL new) ids2) (h : (acc ++ new).length ≤ 100000000) (hnew : gone = [] → 0 < new.length) :
  NOp Tryz.prog (ids ++ ids2) s ⟨dst, .call { callee := .builtin .append, args := #[x, y], argTypes := #[37, 37] }, ty, pos, af, gd⟩ f ⟨.own f (acc ++ new).length, (f, some (.arr 9 1 (strsL (acc ++ new)))) :: gone⟩ := by
 have := h_append (P := Tryz.prog) (s := s) (dst := dst) (ty := ty) (pos := pos) (af := af) (gd := gd) (x := x) (y := y) (f := f) (t := 37) (tx := 37) (k := (acc ++ new).length) rfl rfl rfl rfl rfl rfl hto harg (by simp) (by omega) (by show (acc ++ new).length * 16 ≤ _; omega) (fun h => by rw [strsL_len]; exact hnew h)
 rwa [← List.map_append] at this
def cvB (n : Int) (l : List (List UInt8)) : Bool := (decide (1 ≤ n) && decide (n ≤ 8)) && (decide ((l.length : Int) ≤ 60) && l.all fun c => cubeB c n)
def covB (l : List (List UInt8)) (x : List UInt8) : Bool := l.any fun c => hasC c x
theorem cubeB_in3 {c : List UInt8} {n : Int} (h : cubeB c n = true) : (c.length : Int) = n ∧ 1 ≤ n ∧ n ≤ 8 := by
 simp only [cubeB, Bool.and_eq_true, decide_eq_true_eq] at h;exact h.2
theorem cvB_in {n : Int} {l : List (List UInt8)} (h : cvB n l = true) : (1 ≤ n ∧ n ≤ 8) ∧ l.length ≤ 60 ∧ ∀ c, c ∈ l → cubeB c n = true := by
 simp only [cvB, Bool.and_eq_true, decide_eq_true_eq, List.all_eq_true] at h;exact ⟨h.1, by omega, h.2.2⟩
theorem iCov1_spec (c : List UInt8) (n : Int) (hc : c.length ≤ 2000000) : ASpec Tryz.prog 59 [aS (bstr c), .d (.ref [dI n])] [] (Pure1 (aT (!cubeB c n))) := by
 have hK := isCube_spec c n hc;refine ASpec.of Tryz.func59 rfl rfl fun C hC => ?_
 refine AC.seq (AC.region ?_);refine za ?_;refine AL.nil (th_n (AC.seq (AC.region ?_)));refine zm ?_;refine zr ?_;refine kV en_isCube hK ?_;refine kC ?_;refine za ?_;refine AL.nil (th_n (AC.ret (bq_r ?_)));exact ret1 rfl rfl
theorem en_iCov1 : Enters Tryz.prog 59 := enters_of Tryz.func59 rfl rfl
theorem iCov_spec (n : Int) (l : List (List UInt8)) (hl : l.length ≤ 1000000) (hb : ∀ c, c ∈ l → c.length ≤ 2000000) : ASpec Tryz.prog 33 [aI n, .d (vSs l)] [] (Pure1 (aT (cvB n l))) := by
 have hW := within_spec n 1 8;have hF := cfStr_spec l hl 59 [.ref [dI n]] en_iCov1 (fun c => !cubeB c n) (fun c h => iCov1_spec c n (hb c h));have hR : cvB n l = ((decide (1 ≤ n) && decide (n ≤ 8)) && (decide ((l.length : Int) ≤ 60) && !l.any fun c => !cubeB c n)) := by unfold cvB; rw [List.all_eq_not_any_not]
 obtain ⟨b1, hb1⟩ := eqx ((decide (1 ≤ n) && decide (n ≤ 8)));obtain ⟨b2, hb2⟩ := eqx (l.any fun c => !cubeB c n)
 rw [← hb1] at hW hR;rw [← hb2] at hF hR;clear hb1 hb2;refine ASpec.of Tryz.func33 rfl rfl fun C hC => ?_
 refine AC.seq (AC.region ?_);refine kD ?_;refine za ?_;refine AL.nil (th_n (AC.seq (AC.region ?_)));refine zr ?_;refine kV en_within hW ?_;refine zm ?_;refine AL.caseGB rfl rfl (fun h0 => ?_) (fun h0 => ?_)
 ·refine zy ?_;refine zm ?_;refine zy ?_;refine kI l.length (strsL_len _) ?_;refine zy ?_;refine zc ?_;refine zQ ?_;refine zm ?_;refine AL.caseG rfl rfl (fun h1 => ?_) (fun h1 => ?_)
  ·refine zy ?_;refine zm ?_;refine zy ?_;refine AL.p (by exact g_fn rfl) rfl ?_;refine zy ?_;refine kV en_cfStr hF ?_;refine zy ?_;refine kC ?_;refine zQ ?_;refine za ?_;refine AL.nil (th_n (AC.ret (bq_r ?_)));exact ret1 rfl (by clear hW hF hC; rw [hR]; simp_all <;> omega)
  refine zn ?_;refine zn ?_;refine zn ?_;refine zn ?_;refine zP ?_;refine za ?_;refine AL.nil (th_n (AC.ret (bq_r ?_)));exact ret1 rfl (by clear hW hF hC; rw [hR]; simp_all <;> omega)
 refine zn ?_;refine zn ?_;refine zn ?_;refine zP ?_;refine zm ?_;refine zn ?_;refine zn ?_;refine zn ?_;refine zn ?_;refine zP ?_;refine za ?_;refine AL.nil (th_n (AC.ret (bq_r ?_)));exact ret1 rfl (by clear hW hF hC; rw [hR]; simp_all <;> omega)
theorem en_iCov : Enters Tryz.prog 33 := enters_of Tryz.func33 rfl rfl
theorem cubeB_ne {c : List UInt8} {n : Int} (h : (c.length : Int) ≠ n) : cubeB c n = false := by
 unfold cubeB;rw [decide_eq_false h, Bool.false_and, Bool.and_false]
set_option maxHeartbeats 1000000 in
theorem l13Good_spec (n : Int) (l : List (List UInt8)) (hl : l.length ≤ 1000000) (hb : ∀ c, c ∈ l → c.length ≤ 2000000) : ASpec Tryz.prog 74 [aI n, .d (vSs l)] [] (Pure1 (aT (cvB n l))) := by
 have hW := l1In_spec n 1 8;have hR : cvB n l = ((decide (1 ≤ n) && decide (n ≤ 8)) && (decide ((l.length : Int) ≤ 60) && l.all fun c => cubeB c n)) := rfl;obtain ⟨b1, hb1⟩ := eqx ((decide (1 ≤ n) && decide (n ≤ 8)));rw [← hb1] at hW hR;obtain ⟨G, hG⟩ := eqx (cvB n l);rw [← hG] at hR ⊢;clear hb1 hG;refine ASpec.of Tryz.func74 rfl rfl fun C hC => ?_
 refine AC.seq (AC.region ?_);refine za ?_;refine AL.nil (th_n (AC.seq (AC.seq (AC.region ?_))));refine zm ?_;refine kI l.length (strsL_len _) ?_;refine zm ?_;refine AL.nil (th_n (AC.block ?_));refine AC.loop (ι := Nat) (fun k => ⟨30, 100, [(0, aI n), (1, .d (vSs l)), (7, .d (vSs l)), (8, aI l.length), (9, aI k)], []⟩) (fun k => k ≤ l.length ∧ ∀ j (hj : j < l.length), j < k → cubeB l[j] n = true) (fun k => l.length - k) (0) ?_ (⟨Nat.zero_le _, fun j _ hj => by omega⟩) ?_
 ·refine Weak.ren _ [] hC rfl ?_ ?_ rfl rfl rfl <;> repeat (first | exact True.intro | refine And.intro ?_ ?_ | exact DLead.same)
 intro k ⟨hk, hall⟩;refine AC.seq (AC.region ?_);refine zc ?_;refine AL.nil (th_n (AC.seq ?_));refine AC.condD rfl (fun h0 => ?_) (fun h0 => ?_)
 ·refine AC.skip (th_n (AC.seq (AC.block (AC.seq ?_))));have hk1 : k < l.length := by omega
  have hget := strs_at hk1;have hcl := hb _ (List.getElem_mem hk1);have hno : cubeB l[k] n = false → G = false := fun q => hR.trans (by rw [List.all_eq_false.2 ⟨_, List.getElem_mem hk1, by rw [q]; simp⟩, Bool.and_false, Bool.and_false])
  have hall2 : cubeB l[k] n = true → ∀ j (hj : j < l.length), j < k + 1 → cubeB l[j] n = true := fun h j hj hj2 => by rcases Nat.lt_succ_iff_lt_or_eq.1 hj2 with q | rfl; exact hall j hj q; exact h
  obtain ⟨c, hc⟩ := eqx (l[k]);rw [← hc] at hget hcl hno hall2;have hK := l13Cube_spec c hcl;have hsz := bstr_size c;refine AC.region ?_;refine AL.p (by exact g_ia_view rfl rfl rfl rfl rfl (by rfl) (by assumption)) rfl ?_;refine zr ?_;refine za ?_;refine AL.nil (th_n (AC.seq (AC.region ?_)));refine zm ?_;refine kV en_l13Cube hK ?_;refine kC ?_;refine zm ?_;refine AL.caseGB rfl rfl (fun h1 => ?_) (fun h1 => ?_)
  ·refine zn ?_;refine zn ?_;refine zn ?_;refine zn ?_;refine zQ ?_;refine AL.nil (th_n ?_);refine AC.condT rfl ?_;refine AC.seq (AC.region ?_);refine za ?_;refine AL.nil (th_n (AC.ret (ib_r (th_r (th_r (ib_r (th_r (bq_r ?_))))))));have e := hno (by (have q : cubeB c c.length = false := (by simpa using h1); by_cases e : (c.length : Int) = n; (rw [← e]; exact q); exact cubeB_ne e));exact ret1 rfl (by rw [e])
  refine zy ?_;refine zm ?_;refine zy ?_;refine AL.p (by exact g_len_str (k := c.length) rfl rfl hsz) rfl ?_;refine zy ?_;refine zm ?_;refine zy ?_;refine zc ?_;refine zP ?_;refine AL.nil (th_n ?_);refine AC.condND rfl (fun h2 => ?_) (fun h2 => ?_)
  ·refine AC.seq (AC.region ?_);refine za ?_;refine AL.nil (th_n (AC.ret (ib_r (th_r (th_r (ib_r (th_r (bq_r ?_))))))));have e := hno (by exact cubeB_ne h2);exact ret1 rfl (by rw [e])
  refine AC.skip (ib_n (th_n (AC.region ?_)));refine zA ?_;refine zm ?_;refine AL.nil (th_n ?_);have e := hall2 (by have q : cubeB c c.length = true := (by simpa using h1); rwa [show ((c.length : Nat) : Int) = n from h2] at q);exact ⟨k + 1, ⟨by omega, e⟩, by omega, Weak.ren _ [] hC rfl (by repeat (first | exact True.intro | refine And.intro ?_ ?_ | exact DLead.same)) (by repeat (exact True.intro)) rfl rfl rfl⟩
 refine AC.exit (th_e (th_e (ib_y (th_n (AC.seq ?_)))));have e : G = (b1 && decide ((l.length : Int) ≤ 60)) := hR.trans (by rw [List.all_eq_true.2 (fun x hx => by obtain ⟨j, hj, rfl⟩ := List.getElem_of_mem hx; exact hall j hj (by omega)), Bool.and_true]);refine AC.region ?_;refine zm ?_;refine kV en_l1In hW ?_;refine zm ?_;refine AL.caseGB rfl rfl (fun h1 => ?_) (fun h1 => ?_)
 ·refine zy ?_;refine zm ?_;refine zy ?_;refine kI l.length (strsL_len _) ?_;refine zy ?_;refine zc ?_;refine zQ ?_;refine za ?_;refine AL.nil (th_n (AC.ret (bq_r ?_)));exact ret1 rfl (by clear hW hC hR; rw [e]; simp_all)
 refine zn ?_;refine zn ?_;refine zn ?_;refine zP ?_;refine za ?_;refine AL.nil (th_n (AC.ret (bq_r ?_)));exact ret1 rfl (by clear hW hC hR; rw [e]; simp_all)
theorem en_l13Good : Enters Tryz.prog 74 := enters_of Tryz.func74 rfl rfl
theorem coversI1_spec (c x : List UInt8) (hc : c.length ≤ 2000000) (hx : x.length = c.length) : ASpec Tryz.prog 77 [aS (bstr c), .d (.ref [dS (bstr x)])] [] (Pure1 (aT (hasC c x))) := by
 have hK := contains_spec c x hc hx;refine ASpec.of Tryz.func77 rfl rfl fun C hC => ?_
 refine AC.seq (AC.region ?_);refine za ?_;refine AL.nil (th_n (AC.seq (AC.region ?_)));refine zm ?_;refine zr ?_;refine kV en_contains hK ?_;refine za ?_;refine AL.nil (th_n (AC.ret (bq_r ?_)));exact ret1 rfl rfl
theorem en_coversI1 : Enters Tryz.prog 77 := enters_of Tryz.func77 rfl rfl
theorem coversI_spec (l : List (List UInt8)) (x : List UInt8) (hl : l.length ≤ 1000000) (hx : x.length ≤ 2000000) (hb : ∀ c, c ∈ l → x.length = c.length) : ASpec Tryz.prog 60 [.d (vSs l), aS (bstr x)] [] (Pure1 (aT (covB l x))) := by
 have hF := cfStr_spec l hl 77 [.ref [dS (bstr x)]] en_coversI1 (fun c => hasC c x) (fun c h => coversI1_spec c x (by have := hb c h; omega) (hb c h));refine ASpec.of Tryz.func60 rfl rfl fun C hC => ?_
 refine AC.seq (AC.region ?_);refine kD ?_;refine za ?_;refine AL.nil (th_n (AC.seq (AC.region ?_)));refine zm ?_;refine AL.p (by exact g_fn rfl) rfl ?_;refine kV en_cfStr hF ?_;refine za ?_;refine AL.nil (th_n (AC.ret (bq_r ?_)));exact ret1 rfl rfl
theorem en_coversI : Enters Tryz.prog 60 := enters_of Tryz.func60 rfl rfl
set_option maxHeartbeats 1000000 in
theorem l13In_spec (l : List (List UInt8)) (x : List UInt8) (hl : l.length ≤ 1000000) (hx : x.length ≤ 2000000) (hb : ∀ c, c ∈ l → x.length = c.length) : ASpec Tryz.prog 61 [.d (vSs l), aS (bstr x)] [] (Pure1 (aT (covB l x))) := by
 refine ASpec.of Tryz.func61 rfl rfl fun C hC => ?_
 refine AC.seq (AC.region ?_);refine za ?_;refine AL.nil (th_n (AC.seq (AC.seq (AC.region ?_))));refine zm ?_;refine kI l.length (strsL_len _) ?_;refine zm ?_;refine AL.nil (th_n (AC.block ?_));refine AC.loop (ι := Nat) (fun k => ⟨17, 100, [(0, .d (vSs l)), (1, aS (bstr x)), (7, .d (vSs l)), (8, aI l.length), (9, aI k)], []⟩) (fun k => k ≤ l.length ∧ ∀ j (hj : j < l.length), j < k → hasC l[j] x = false) (fun k => l.length - k) (0) ?_ (⟨Nat.zero_le _, fun j _ hj => by omega⟩) ?_
 ·refine Weak.ren _ [] hC rfl ?_ ?_ rfl rfl rfl <;> repeat (first | exact True.intro | refine And.intro ?_ ?_ | exact DLead.same)
 intro k ⟨hk, hall⟩;refine AC.seq (AC.region ?_);refine zc ?_;refine AL.nil (th_n (AC.seq ?_));refine AC.condD rfl (fun h0 => ?_) (fun h0 => ?_)
 ·refine AC.skip (th_n (AC.seq (AC.block (AC.seq ?_))));have hk1 : k < l.length := by omega
  have hget := strs_at hk1;have hcl := hb _ (List.getElem_mem hk1);have hyes : hasC l[k] x = true → covB l x = true := fun q => List.any_eq_true.2 ⟨_, List.getElem_mem hk1, q⟩
  have hall2 : hasC l[k] x = false → ∀ j (hj : j < l.length), j < k + 1 → hasC l[j] x = false := fun h j hj hj2 => by rcases Nat.lt_succ_iff_lt_or_eq.1 hj2 with q | rfl; exact hall j hj q; exact h
  have hK := l13Has_spec l[k] x (by omega) hcl;obtain ⟨b, hbb⟩ := eqx (hasC l[k] x);rw [← hbb] at hK hyes hall2;refine AC.region ?_;refine AL.p (by exact g_ia_view rfl rfl rfl rfl rfl (by rfl) (by assumption)) rfl ?_;refine zr ?_;refine za ?_;refine AL.nil (th_n (AC.seq (AC.region ?_)));refine zm ?_;refine zm ?_;refine kV en_l13Has hK ?_;refine AL.nil (th_n ?_);refine AC.condB rfl (fun h1 => ?_) (fun h1 => ?_)
  ·refine AC.seq (AC.region ?_);refine za ?_;refine AL.nil (th_n (AC.ret (ib_r (th_r (th_r (ib_r (th_r (bq_r ?_))))))));exact ret1 rfl (by rw [hyes h1])
  refine AC.skip (ib_n (th_n (AC.region ?_)));refine zA ?_;refine zm ?_;refine AL.nil (th_n ?_);exact ⟨k + 1, ⟨by omega, hall2 h1⟩, by omega, Weak.ren _ [] hC rfl (by repeat (first | exact True.intro | refine And.intro ?_ ?_ | exact DLead.same)) (by repeat (exact True.intro)) rfl rfl rfl⟩
 refine AC.exit (th_e (th_e (ib_y (th_n (AC.seq (AC.region ?_))))));refine za ?_;refine AL.nil (th_n (AC.ret (bq_r ?_)));have e : covB l x = false := List.any_eq_false.2 fun c hc => by obtain ⟨j, hj, rfl⟩ := List.getElem_of_mem hc; rw [hall j hj (by omega)]; simp
 exact ret1 rfl (by rw [e])
theorem en_l13In : Enters Tryz.prog 61 := enters_of Tryz.func61 rfl rfl
abbrev Tx := List UInt8
theorem tx_lt_trans {a b c : Tx} (h1 : a < b) (h2 : b < c) : a < c := List.lt_trans h1 h2
theorem tx_irr (a : Tx) : ¬ a < a := List.lt_irrefl a
theorem tx_le_total (a b : Tx) : a ≤ b ∨ b ≤ a := List.le_total a b
theorem tx_le_trans {a b c : Tx} (h1 : a ≤ b) (h2 : b ≤ c) : a ≤ c := List.le_trans h1 h2
theorem tx_le_anti {a b : Tx} (h1 : a ≤ b) (h2 : b ≤ a) : a = b := List.le_antisymm h1 h2
theorem tx_not_lt {a b : Tx} : ¬ a < b ↔ b ≤ a := List.not_lt
theorem tx_le_of {a b : Tx} (h : a < b) : a ≤ b := tx_not_lt.1 fun q => tx_irr a (tx_lt_trans h q)
theorem bytesLess_is : ∀ (x y : Tx), Op.bytesLess x y = decide (x < y)
 | [], [] => by simp [Op.bytesLess]
 | _ :: _, [] => by simp [Op.bytesLess]
 | [], _ :: _ => by simp [Op.bytesLess]
 | a :: x, b :: y => by
  rw [Op.bytesLess, bytesLess_is x y];simp only [List.cons_lt_cons_iff]
  by_cases h1 : a < b <;> by_cases h2 : a = b <;> by_cases h3 : x < y <;> simp [h1, h2, h3]
--PLAIN
def sortT (l : List Tx) : List Tx := l.mergeSort (fun x y => decide (x ≤ y))
theorem sortT_perm (l : List Tx) : (sortT l).Perm l := List.mergeSort_perm _ _
theorem sortT_le (l : List Tx) : (sortT l).Pairwise (fun a b => a ≤ b) := by
 have := List.pairwise_mergeSort (le := fun x y : Tx => decide (x ≤ y)) (fun a b c h1 h2 => decide_eq_true (tx_le_trans (of_decide_eq_true h1) (of_decide_eq_true h2))) (fun a b => by
  rcases tx_le_total a b with h | h
  ·simp [h]
  simp [h]) l
 exact this.imp fun h => of_decide_eq_true h
theorem sorted_eq {a b : List Tx} (ha : a.Pairwise (fun a b => a ≤ b)) (hb : b.Pairwise (fun a b => a ≤ b)) (h : a.Perm b) : a = b :=
 List.Perm.eq_of_pairwise (le := fun a b : Tx => a ≤ b) (fun a b _ _ h1 h2 => tx_le_anti h1 h2) ha hb h
theorem sortT_nil : sortT [] = [] := by unfold sortT; exact List.mergeSort_nil
def putT (l : List Tx) (x : Tx) : List Tx := l.take (l.findIdx fun y => !decide (y < x)) ++ [x] ++ l.drop (l.findIdx fun y => !decide (y < x))
theorem putT_perm (l : List Tx) (x : Tx) : (putT l x).Perm (l ++ [x]) := by
 unfold putT;generalize l.findIdx (fun y => !decide (y < x)) = k
 have h1 : (l.take k ++ [x] ++ l.drop k).Perm (l.take k ++ l.drop k ++ [x]) := by
  rw [List.append_assoc, List.append_assoc];exact List.Perm.append_left _ List.perm_append_comm
 rw [List.take_append_drop] at h1;exact h1
theorem putT_le {l : List Tx} (h : l.Pairwise (fun a b => a ≤ b)) (x : Tx) : (putT l x).Pairwise (fun a b => a ≤ b) := by
 unfold putT;obtain ⟨k, hk⟩ := eqx (l.findIdx (fun y => !decide (y < x)));rw [← hk]
 have hlo : ∀ y, y ∈ l.take k → y ≤ x := fun y hy => by
  obtain ⟨j, hj, rfl⟩ := List.mem_take_iff_getElem.1 hy;have hj2 : j < l.findIdx (fun y => !decide (y < x)) := by omega
  have := List.not_of_lt_findIdx hj2;exact tx_le_of (by simpa using this)
 have hhi : ∀ y, y ∈ l.drop k → x ≤ y := fun y hy => by
  obtain ⟨j, hj, rfl⟩ := List.getElem_of_mem hy;rw [List.length_drop] at hj;have hkl : k < l.length := by omega
  have hx : x ≤ l[k] := by
   have := List.findIdx_getElem (p := fun y => !decide (y < x)) (xs := l) (w := by rw [← hk]; exact hkl);simp only [← hk] at this;exact tx_not_lt.1 (by simpa using this)
  rw [List.getElem_drop];rcases Nat.eq_zero_or_pos j with e | e
  ·subst e; exact hx
  exact tx_le_trans hx ((List.pairwise_iff_getElem.1 h) k (k + j) hkl (by omega) (by omega))
 rw [List.append_assoc, List.pairwise_append];refine ⟨h.sublist (List.take_sublist _ _), ?_, fun a ha b hb => ?_⟩
 ·rw [List.singleton_append, List.pairwise_cons];exact ⟨hhi, h.sublist (List.drop_sublist _ _)⟩
 rcases List.mem_cons.1 hb with rfl | hb
 ·exact hlo a ha
 exact tx_le_trans (hlo a ha) (hhi b hb)
theorem put_sort (l : List Tx) (x : Tx) : putT (sortT l) x = sortT (l ++ [x]) :=
 sorted_eq (putT_le (sortT_le l) x) (sortT_le _) ((putT_perm _ _).trans (((sortT_perm l).append_right [x]).trans (sortT_perm _).symm))
theorem put_len (l : List Tx) (x : Tx) : (putT l x).length = l.length + 1 := by rw [(putT_perm l x).length_eq, List.length_append]; rfl
def litC (c : Tx) : Nat := (c.filter fun b => !decide ((b.toNat : Int) = 45)).length
def litS (l : List Tx) : Nat := (l.map litC).sum
def ltL : List Tx → List Tx → Bool
 | x :: xs, y :: ys => if x = y then ltL xs ys else decide (x < y)
 | _, _ => false
def betT (l : List Tx) : Option (List Tx) → Bool
 | none => true
 | some b => decide (litS l < litS b) || (decide (litS l = litS b) && ltL l b)
def conT (l : List Tx) (B : Option (List Tx)) : Option (List Tx) := if betT l B = true then some l else B
theorem conT_some (l : List Tx) (B : Option (List Tx)) : (conT l B).isSome = true := by
 unfold conT;cases B with
 | none => rfl
 | some b => split <;> rfl
def chooseN (P : List Tx) : Nat → List Tx → List Tx → Option (List Tx) → Option (List Tx)
 | 0, on, l, B => if on = [] then conT (sortT l) B else B
 | m + 1, on, l, B => match on with
  | [] => B
  | c :: t => P.foldl (fun B p => if hasC p c = true then chooseN P m ((c :: t).filter fun x => !hasC p x) (l ++ [p]) B else B) B
def leafB (P : List Tx) : Nat → List Tx → Bool
 | 0, on => decide (on = [])
 | m + 1, on => match on with
  | [] => false
  | c :: t => P.any fun p => hasC p c && leafB P m ((c :: t).filter fun x => !hasC p x)
theorem foldl_some {α : Type} (f : Option (List Tx) → α → Option (List Tx)) (g : α → Bool) (hf : ∀ B a, (f B a).isSome = (B.isSome || g a)) : ∀ (L : List α) (B : Option (List Tx)), (L.foldl f B).isSome = (B.isSome || L.any g)
 | [], B => by simp
 | a :: L, B => by rw [List.foldl_cons, foldl_some f g hf L, hf, List.any_cons, Bool.or_assoc]
theorem choose_some (P : List Tx) : ∀ (m : Nat) (on l : List Tx) (B : Option (List Tx)), (chooseN P m on l B).isSome = (B.isSome || leafB P m on)
 | 0, on, l, B => by
  rw [chooseN, leafB]
  split
  ·rename_i h; rw [conT_some, decide_eq_true h, Bool.or_true]
  rename_i h; rw [decide_eq_false h, Bool.or_false]
 | m + 1, [], l, B => by rw [chooseN, leafB, Bool.or_false]
 | m + 1, c :: t, l, B => by
  rw [chooseN, leafB];refine foldl_some _ _ (fun B p => ?_) P B;cases h : hasC p c with
  | false => simp
  | true => rw [if_pos rfl, choose_some P m, Bool.true_and]
def unC (on l : List Tx) : List Tx := on.filter fun x => !covB l x
theorem covB_append (a b : List Tx) (x : Tx) : covB (a ++ b) x = (covB a x || covB b x) := by unfold covB; exact List.any_append
theorem covB_perm {a b : List Tx} (h : a.Perm b) (x : Tx) : covB a x = covB b x := by
 rw [Bool.eq_iff_iff];unfold covB;rw [List.any_eq_true, List.any_eq_true];exact ⟨fun ⟨c, h1, h2⟩ => ⟨c, h.mem_iff.1 h1, h2⟩, fun ⟨c, h1, h2⟩ => ⟨c, h.mem_iff.2 h1, h2⟩⟩
theorem unC_put (on l : List Tx) (p : Tx) : unC on (putT l p) = (unC on l).filter fun x => !hasC p x := by
 unfold unC;rw [List.filter_filter];refine List.filter_congr fun x _ => ?_
 rw [covB_perm (putT_perm l p), covB_append];have : covB [p] x = hasC p x := by unfold covB; simp
 rw [this];cases covB l x <;> cases hasC p x <;> rfl
theorem unC_snoc (on l : List Tx) (p : Tx) : unC on (l ++ [p]) = (unC on l).filter fun x => !hasC p x := by
 rw [← unC_put];unfold unC;exact List.filter_congr fun x _ => by rw [covB_perm (putT_perm l p)]
def searchN (P on : List Tx) : Nat → List Tx → Option (List Tx) → Option (List Tx)
 | m, taken, B => match unC on taken with
  | [] => conT taken B
  | c :: _ => match m with
   | 0 => B
   | m + 1 => P.foldl (fun B p => if hasC p c = true then searchN P on m (putT taken p) B else B) B
theorem searchN_nil {P on : List Tx} {m : Nat} {taken : List Tx} {B : Option (List Tx)} (h : unC on taken = []) : searchN P on m taken B = conT taken B := by
 cases m <;> rw [searchN, h]
theorem searchN_zero {P on : List Tx} {taken : List Tx} {B : Option (List Tx)} {c : Tx} {t : List Tx} (h : unC on taken = c :: t) : searchN P on 0 taken B = B := by rw [searchN, h]
theorem searchN_succ {P on : List Tx} {m : Nat} {taken : List Tx} {B : Option (List Tx)} {c : Tx} {t : List Tx} (h : unC on taken = c :: t) : searchN P on (m + 1) taken B = P.foldl (fun B p => if hasC p c = true then searchN P on m (putT taken p) B else B) B := by rw [searchN, h]
def noLess (P : List Tx) (m : Nat) (on : List Tx) : Prop := ∀ k, k < m → leafB P k on = false
theorem noLess_nil {P : List Tx} {m : Nat} (h : noLess P m []) : m = 0 := by
 rcases Nat.eq_zero_or_pos m with e | e
 ·exact e
 have := h 0 e; rw [leafB] at this; simp at this
theorem noLess_next {P : List Tx} {m : Nat} {c p : Tx} {t : List Tx} (h : noLess P (m + 1) (c :: t)) (hp : p ∈ P) (hc : hasC p c = true) : noLess P m ((c :: t).filter fun x => !hasC p x) := by
 intro k hk;have := h (k + 1) (by omega);rw [leafB, List.any_eq_false] at this;have := this p hp;rw [hc, Bool.true_and] at this;cases hl : leafB P k ((c :: t).filter fun x => !hasC p x) with
 | false => rfl
 | true => exact absurd hl this
theorem foldl_ext {α β : Type} (f g : β → α → β) : ∀ (L : List α) (B : β), (∀ B a, a ∈ L → f B a = g B a) → L.foldl f B = L.foldl g B
 | [], _, _ => rfl
 | a :: L, B, h => by rw [List.foldl_cons, List.foldl_cons, h B a List.mem_cons_self, foldl_ext f g L _ fun B a ha => h B a (List.mem_cons_of_mem _ ha)]
theorem search_choose (P on : List Tx) : ∀ (m : Nat) (l : List Tx) (B : Option (List Tx)), noLess P m (unC on l) → searchN P on m (sortT l) B = chooseN P m (unC on l) l B
 | m, l, B, h => by
  have hu : unC on (sortT l) = unC on l := by unfold unC; exact List.filter_congr fun x _ => by rw [covB_perm (sortT_perm l)]
  cases hr : unC on l with
  | nil =>
   rw [hr] at h;have hm := noLess_nil h;subst hm;rw [searchN_nil (hu.trans hr), chooseN, if_pos rfl]
  | cons c t =>
   cases m with
   | zero => rw [searchN_zero (hu.trans hr), chooseN, if_neg (by simp)]
   | succ m =>
    rw [searchN_succ (hu.trans hr), chooseN];refine foldl_ext _ _ P B fun B p hp => ?_
    by_cases hc : hasC p c = true
    ·rw [if_pos hc, if_pos hc, put_sort];have e : unC on (l ++ [p]) = (c :: t).filter fun x => !hasC p x := by rw [unC_snoc, hr]
     rw [← e];exact search_choose P on m (l ++ [p]) B (by rw [e]; rw [hr] at h; exact noLess_next h hp hc)
    rw [if_neg hc, if_neg hc]
structure LeafT (P : List Tx) (m : Nat) (on l b : List Tx) : Prop where
 ex : ∃ q : List Tx, b = sortT (l ++ q) ∧ q.length = m ∧ (∀ p, p ∈ q → p ∈ P) ∧ ∀ x, x ∈ on → covB q x = true
theorem foldl_or {α : Type} (f : Option (List Tx) → α → Option (List Tx)) (Q : List Tx → Prop) (L : List α) (hf : ∀ B a, a ∈ L → f B a = B ∨ ∃ b, f B a = some b ∧ Q b) : ∀ (B : Option (List Tx)), L.foldl f B = B ∨ ∃ b, L.foldl f B = some b ∧ Q b := by
 induction L with
 | nil => exact fun B => .inl rfl
 | cons a L ih =>
  intro B;rw [List.foldl_cons];have ih := ih (fun B a ha => hf B a (List.mem_cons_of_mem _ ha)) (f B a);rcases ih with h | h
  ·rw [h]; exact hf B a List.mem_cons_self
  exact .inr h
theorem conT_or (l : List Tx) (B : Option (List Tx)) : conT l B = B ∨ conT l B = some l := by
 unfold conT
 split
 ·exact .inr rfl
 exact .inl rfl
theorem choose_or (P : List Tx) : ∀ (m : Nat) (on l : List Tx) (B : Option (List Tx)), chooseN P m on l B = B ∨ ∃ b, chooseN P m on l B = some b ∧ LeafT P m on l b
 | 0, on, l, B => by
  rw [chooseN]
  split
  ·rename_i h;rcases conT_or (sortT l) B with e | e
   ·exact .inl e
   exact .inr ⟨_, e, ⟨[], by rw [List.append_nil], rfl, fun p hp => absurd hp List.not_mem_nil, fun x hx => by rw [h] at hx; exact absurd hx List.not_mem_nil⟩⟩
  exact .inl rfl
 | m + 1, [], l, B => by rw [chooseN]; exact .inl rfl
 | m + 1, c :: t, l, B => by
  rw [chooseN];refine foldl_or _ _ P (fun B p hp => ?_) B
  by_cases hc : hasC p c = true
  ·rw [if_pos hc];rcases choose_or P m ((c :: t).filter fun x => !hasC p x) (l ++ [p]) B with e | ⟨b, e, ⟨q, h1, h2, h3, h4⟩⟩
   ·exact .inl e
   refine .inr ⟨b, e, ⟨p :: q, by rw [h1, List.append_assoc]; rfl, by rw [List.length_cons, h2], fun x hx => ?_, fun x hx => ?_⟩⟩
   ·rcases List.mem_cons.1 hx with rfl | hx
    ·exact hp
    exact h3 x hx
   have e2 : covB (p :: q) x = (hasC p x || covB q x) := by unfold covB; rw [List.any_cons]
   rw [e2];cases hpx : hasC p x with
   | true => rfl
   | false => rw [Bool.false_or]; exact h4 x (List.mem_filter.2 ⟨hx, by rw [hpx]; rfl⟩)
  rw [if_neg hc]; exact .inl rfl
def minAt (P on : List Tx) : Nat → Nat → Option (List Tx)
 | 0, _ => none
 | f + 1, m => match chooseN P m on [] none with
  | some b => some b
  | none => minAt P on f (m + 1)
def minT (P on : List Tx) : Option (List Tx) := minAt P on 7 0
theorem choose_leaf {P on : List Tx} {m : Nat} (h : chooseN P m on [] none = none) : leafB P m on = false := by
 have := choose_some P m on [] none;rw [h] at this;simpa using this.symm
theorem minAt_is {P on : List Tx} {b : List Tx} : ∀ (f m : Nat), minAt P on f m = some b → noLess P m on → ∃ j, m ≤ j ∧ j < m + f ∧ noLess P j on ∧ LeafT P j on [] b
 | 0, m, h, _ => by rw [minAt] at h; cases h
 | f + 1, m, h, hn => by
  rw [minAt] at h;cases hc : chooseN P m on [] none with
  | some b' =>
   rw [hc] at h;obtain rfl : b' = b := Option.some.inj h;rcases choose_or P m on [] none with e | ⟨b2, e, hl⟩
   ·rw [hc] at e; cases e
   rw [hc] at e;obtain rfl : b' = b2 := Option.some.inj e;exact ⟨m, Nat.le_refl _, by omega, hn, hl⟩
  | none =>
   rw [hc] at h;have hlf := choose_leaf hc
   obtain ⟨j, h1, h2, h3, h4⟩ := minAt_is f (m + 1) h fun k hk => by
    rcases Nat.lt_succ_iff_lt_or_eq.1 hk with q | rfl
    ·exact hn k q
    exact hlf
   exact ⟨j, by omega, by omega, h3, h4⟩
theorem minT_is {P on b : List Tx} (h : minT P on = some b) : ∃ j, j < 7 ∧ noLess P j on ∧ LeafT P j on [] b := by
 obtain ⟨j, _, h2, h3, h4⟩ := minAt_is 7 0 h fun k hk => absurd hk (Nat.not_lt_zero _)
 exact ⟨j, by omega, h3, h4⟩
theorem cover_leaf {P : List Tx} : ∀ (k : Nat) (q on : List Tx), q.length = k → (∀ p, p ∈ q → p ∈ P) → (∀ x, x ∈ on → covB q x = true) → ∃ j, j ≤ k ∧ leafB P j on = true
 | k, q, [], _, _, _ => ⟨0, Nat.zero_le _, by rw [leafB]; rfl⟩
 | 0, q, c :: t, hk, _, hc => by
  have := hc c List.mem_cons_self;rw [List.eq_nil_of_length_eq_zero hk] at this;cases this
 | k + 1, q, c :: t, hk, hq, hc => by
  have h0 := hc c List.mem_cons_self;unfold covB at h0;obtain ⟨p, hp, hpc⟩ := List.any_eq_true.1 h0;have hperm := List.perm_cons_erase hp
  obtain ⟨j, hj, hl⟩ := cover_leaf (P := P) k (q.erase p) ((c :: t).filter fun x => !hasC p x) (by rw [List.length_erase_of_mem hp, hk]; rfl) (fun y hy => hq y (List.mem_of_mem_erase hy)) (fun x hx => by
   obtain ⟨hx1, hx2⟩ := List.mem_filter.1 hx;have h1 := hc x hx1;rw [covB_perm hperm] at h1;have e2 : covB (p :: q.erase p) x = (hasC p x || covB (q.erase p) x) := by unfold covB; rw [List.any_cons]
   rw [e2] at h1;rw [Bool.not_eq_true'] at hx2
   rwa [hx2, Bool.false_or] at h1)
  refine ⟨j + 1, by omega, ?_⟩;rw [leafB, List.any_eq_true];exact ⟨p, hq p hp, by rw [hpc, hl]; rfl⟩
structure MinOf (P on b : List Tx) : Prop where
 sub : ∀ p, p ∈ b → p ∈ P
 cov : ∀ x, x ∈ on → covB b x = true
 len : b.length < 7
 least : ∀ q : List Tx, (∀ p, p ∈ q → p ∈ P) → (∀ x, x ∈ on → covB q x = true) → b.length ≤ q.length
theorem minT_of {P on b : List Tx} (h : minT P on = some b) : MinOf P on b := by
 obtain ⟨j, hj, hn, ⟨q, h1, h2, h3, h4⟩⟩ := minT_is h;rw [List.nil_append] at h1;have hp := sortT_perm q;rw [← h1] at hp;refine ⟨fun p hpb => h3 p (hp.mem_iff.1 hpb), fun x hx => by rw [covB_perm hp]; exact h4 x hx, by rw [hp.length_eq]; omega, fun r hr hc => ?_⟩;obtain ⟨i, hi, hl⟩ := cover_leaf r.length r on rfl hr hc;rw [hp.length_eq, h2];exact Classical.byContradiction fun w => by rw [hn i (by omega)] at hl; cases hl
theorem bit_lit (x : UInt8) : bit x = (lit3 x && !(x == 45)) := by
 by_cases h48 : (x.toNat : Int) = 48
 ·have : x = 48 := UInt8.toNat_inj.1 (by show x.toNat = 48; omega);subst this; decide
 by_cases h49 : (x.toNat : Int) = 49
 ·have : x = 49 := UInt8.toNat_inj.1 (by show x.toNat = 49; omega);subst this; decide
 by_cases h45 : (x.toNat : Int) = 45
 ·have : x = 45 := UInt8.toNat_inj.1 (by show x.toNat = 45; omega);subst this; decide
 unfold bit lit3;rw [decide_eq_false h48, decide_eq_false h49, decide_eq_false h45]; rfl
theorem bits_lits (l : List UInt8) : l.all bit = (l.all lit3 && !l.contains 45) := by
 induction l with
 | nil => rfl
 | cons x l ih =>
  rw [List.all_cons, List.all_cons, ih, bit_lit, List.contains_cons];have e : (45 == x) = (x == 45) := by rw [Bool.eq_iff_iff, beq_iff_eq, beq_iff_eq]; exact eq_comm
  rw [e];cases lit3 x <;> cases (x == 45) <;> cases l.all lit3 <;> cases l.contains 45 <;> rfl
theorem codeB_eq (c : List UInt8) (n : Int) : codeB c n = (bitsB c n && (decide (1 ≤ n) && decide (n ≤ 8))) := by
 unfold codeB bitsB cubeB;rw [bits_lits];cases c.all lit3 <;> cases c.contains 45 <;> cases decide ((c.length : Int) = n) <;> cases decide (1 ≤ n) <;> cases decide (n ≤ 8) <;> rfl
theorem bits_len' {m : List UInt8} {n : Int} (h : bitsB m n = true) : (m.length : Int) = n := by
 simp only [bitsB, Bool.and_eq_true, decide_eq_true_eq] at h; exact h.2
theorem bless (a b : Tx) : Op.bytesLess (bstr a).toList (bstr b).toList = decide (a < b) := by
 rw [ByteArray.toList_eq, ByteArray.toList_eq, bstr_data, bstr_data, bytesLess_is]
theorem tx_at {l : List Tx} {k : Nat} (h : k < l.length) : l.getD k [] = l[k] := by rw [List.getD_eq_getElem?_getD, List.getElem?_eq_getElem h]; rfl
theorem strs_get {l : List Tx} {k : Nat} (h : k < l.length) : (strsL l)[k]? = some [dS (bstr (l.getD k []))] := by rw [strs_at h, tx_at h]
def inT (l : List Tx) (v : Tx) : Bool := l.any fun x => decide (v = x)
set_option maxHeartbeats 1000000 in
theorem l1HasS2_spec (l : List Tx) (hl : l.length ≤ 2000000) (v : Tx) : ASpec Tryz.prog 134 [.d (vSs l), aS (bstr v)] [] (Pure1 (aT (inT l v))) := by
 refine ASpec.of Tryz.func134 rfl rfl fun C hC => ?_
 refine AC.seq (AC.region ?_);refine za ?_;refine AL.nil (th_n (AC.seq (AC.seq (AC.region ?_))));refine zm ?_;refine kH ?_;refine zm ?_;refine AL.nil (th_n (AC.block ?_));refine AC.loop (ι := Nat) (fun k => ⟨17, 0, [(1, aS (bstr v)), (7, .d (vSs l)), (8, aI l.length), (9, aI k)], []⟩) (fun k => k ≤ l.length ∧ ∀ j (hj : j < l.length), j < k → ¬ v = l[j]) (fun k => l.length - k) (0) ?_ (⟨Nat.zero_le _, fun j _ hj => by omega⟩) ?_
 ·refine Weak.ren _ [] hC rfl ?_ ?_ rfl rfl rfl <;> repeat (first | exact True.intro | refine And.intro ?_ ?_ | exact DLead.same)
 intro k ⟨hk, hall⟩;refine AC.seq (AC.region ?_);refine zc ?_;refine AL.nil (th_n (AC.seq ?_));refine AC.condD rfl (fun h0 => ?_) (fun h0 => ?_)
 ·refine AC.skip (th_n (AC.seq (AC.block (AC.seq ?_))));have hk1 : k < l.length := by omega
  have hget := strs_at hk1;refine AC.region ?_;refine AL.p (by exact g_ia_view rfl rfl rfl rfl rfl (by rfl) (by assumption)) rfl ?_;refine zr ?_;refine za ?_;refine AL.nil (th_n (AC.seq (AC.region ?_)));refine zm ?_;refine zm ?_;refine AL.p (by exact g_scmp rfl rfl rfl) rfl ?_;refine AL.nil (th_n ?_);refine AC.condD rfl (fun h1 => ?_) (fun h1 => ?_)
  ·refine AC.seq (AC.region ?_);refine za ?_;refine AL.nil (th_n (AC.ret (ib_r (th_r (th_r (ib_r (th_r (bq_r ?_))))))));exact ret1 rfl (by unfold inT; rw [List.any_eq_true.2 ⟨_, List.getElem_mem hk1, decide_eq_true (bstr_inj h1).symm⟩])
  refine AC.skip (ib_n (th_n (AC.region ?_)));refine zA ?_;refine zm ?_;refine AL.nil (th_n ?_);exact ⟨k + 1, ⟨by omega, fun j hj hj2 => by rcases Nat.lt_succ_iff_lt_or_eq.1 hj2 with h | rfl; exact hall j hj h; exact fun e => h1 (by rw [e])⟩, by omega, Weak.ren _ [] hC rfl (by repeat (first | exact True.intro | refine And.intro ?_ ?_ | exact DLead.same)) (by repeat (exact True.intro)) rfl rfl rfl⟩
 refine AC.exit (th_e (th_e (ib_y (th_n (AC.seq (AC.region ?_))))));refine za ?_;refine AL.nil (th_n (AC.ret (bq_r ?_)));exact ret1 rfl (by unfold inT; rw [List.any_eq_false.2 (fun x hx => by obtain ⟨j, hj, rfl⟩ := List.getElem_of_mem hx; have := hall j hj (by omega); simpa using this)])
theorem en_l1HasS : Enters Tryz.prog 134 := enters_of Tryz.func134 rfl rfl
def cdA (n : Int) (l : List Tx) (i : Nat) : Bool := bitsB (l.getD i []) n && (decide (i = 0) || decide (l.getD (i - 1) [] < l.getD i []))
def cdsB (n : Int) (l : List Tx) : Bool := allN l.length (cdA n l)
theorem cdA_no1 {n : Int} {l : List Tx} {i : Nat} (h : bitsB (l.getD i []) n = false) : cdA n l i = false := by unfold cdA; rw [h]; rfl
theorem cdA_no2 {n : Int} {l : List Tx} {i : Nat} (h0 : 0 < i) (h : decide (l.getD (i - 1) [] < l.getD i []) = false) : cdA n l i = false := by unfold cdA; rw [h, decide_eq_false (by omega)]; simp
theorem cdA_yes {n : Int} {l : List Tx} {i : Nat} (h : bitsB (l.getD i []) n = true) (h2 : i = 0 ∨ decide (l.getD (i - 1) [] < l.getD i []) = true) : cdA n l i = true := by
 unfold cdA;rw [h, Bool.true_and, Bool.or_eq_true];exact h2.imp (fun e => decide_eq_true e) id
set_option maxHeartbeats 4000000 in
theorem l14Codes_spec (n : Int) (l : List Tx) (hl : l.length ≤ 1000000) (hb : ∀ c, c ∈ l → c.length ≤ 2000000) : ASpec Tryz.prog 133 [aI n, .d (vSs l)] [] (Pure1 (aT (cdsB n l))) := by
 have hC := fun (c : Tx) h => l5Code_spec c n h
 refine ASpec.of Tryz.func133 rfl rfl fun C hCC => ?_
 have hC0 : C.k = [].length := hCC;refine AC.seq (AC.region ?_);refine za ?_;refine AL.nil (th_n (AC.seq (AC.seq (AC.region ?_))));refine zm ?_;refine kI l.length (strsL_len _) ?_;refine zm ?_;refine AL.nil (th_n (AC.block ?_));refine AC.loop (ι := Nat) (fun i => ⟨32, 100, [(0, aI n), (1, .d (vSs l)), (7, .d (vSs l)), (8, aI l.length), (9, aI i)], []⟩) (fun i => i ≤ l.length ∧ ∀ j, j < i → cdA n l j = true) (fun i => l.length - i) (0) ?_ (⟨Nat.zero_le _, fun j hj => by omega⟩) ?_
 ·exact Weak.ren _ [] hC0 rfl (by repeat (first | exact True.intro | refine And.intro ?_ ?_ | exact DLead.same)) (by repeat (exact True.intro)) rfl rfl rfl
 intro i ⟨hi, hall⟩;refine AC.seq (AC.region ?_);refine zc ?_;refine AL.nil (th_n (AC.seq ?_));refine AC.condD rfl (fun h0 => ?_) (fun h0 => ?_)
 ·refine AC.skip (th_n (AC.seq (AC.block (AC.seq ?_))));have hi1 : i < l.length := by omega
  have hget := strs_get hi1;have hci := hC (l.getD i []) (by rw [tx_at hi1]; exact hb _ (List.getElem_mem hi1));have hn1 := @cdA_no1 n l i;have hn2 := @cdA_no2 n l i;have hy := @cdA_yes n l i;have hge := bless (l.getD (i - 1) []) (l.getD i []);have hgp : 0 < i → (strsL l)[i - 1]? = some [dS (bstr (l.getD (i - 1) []))] := fun h => strs_get (by omega)
  obtain ⟨lt, hlt⟩ := eqx (decide (l.getD (i - 1) [] < l.getD i []));rw [← hlt] at hn2 hy hge;obtain ⟨b1, hb1⟩ := eqx (bitsB (l.getD i []) n);rw [← hb1] at hci hn1 hy;obtain ⟨x, hx⟩ := eqx (l.getD i []);obtain ⟨y, hy0⟩ := eqx (l.getD (i - 1) []);rw [← hx] at hget hci hge;rw [← hy0] at hge hgp;clear hlt hb1 hx hy0;refine AC.region ?_;refine zm ?_;refine AL.p (by exact g_ia_view (i := i) rfl rfl rfl rfl rfl rfl hget) rfl ?_;refine zr ?_;refine za ?_;refine za ?_;refine AL.nil (th_n (AC.seq (AC.region ?_)));refine zm ?_;refine zm ?_;refine kV en_l5Code hci ?_;refine kC ?_;refine zm ?_;refine AL.caseGB rfl rfl (fun h1 => ?_) (fun h1 => ?_)
  ·refine zn ?_;refine zn ?_;refine zn ?_;refine AL.notU rfl rfl rfl ?_;refine AL.notU rfl rfl rfl ?_;refine AL.notU rfl rfl rfl ?_;refine AL.notU rfl rfl rfl ?_;refine AL.notU rfl rfl rfl ?_;refine AL.notU rfl rfl rfl ?_;refine AL.notU rfl rfl rfl ?_;refine zn ?_;refine zQ ?_;refine AL.nil (th_n ?_);refine AC.condT rfl ?_;refine AC.seq (AC.region ?_);refine za ?_;refine AL.nil (th_n (AC.ret (ib_r (th_r (th_r (ib_r (th_r (bq_r ?_))))))));have hf : cdA n l i = false := by exact hn1 (by have q := ‹(!b1) = true›; simpa using q)
   exact ret1 rfl (by unfold cdsB; rw [allN_false hi1 hf])
  refine zy ?_;refine zm ?_;refine zy ?_;refine zc ?_;refine zy ?_;refine zm ?_;refine AL.caseG rfl rfl (fun h2 => ?_) (fun h2 => ?_)
  ·refine zy ?_;refine zm ?_;refine zy ?_;refine zm ?_;refine zy ?_;refine zA ?_;refine zy ?_;refine AL.p (by exact g_ia_view (i := i - 1) rfl rfl rfl rfl rfl (by omega) (hgp (by omega))) rfl ?_;refine zy ?_;refine zr ?_;refine zy ?_;refine zm ?_;refine zy ?_;refine AL.p (by exact g_scmp (r := !lt) rfl rfl (by show some (!_) = _; rw [hge])) rfl ?_;refine zy ?_;refine zQ ?_;refine zP ?_;refine AL.nil (th_n ?_);refine AC.condB rfl (fun h3 => ?_) (fun h3 => ?_)
   ·refine AC.seq (AC.region ?_);refine za ?_;refine AL.nil (th_n (AC.ret (ib_r (th_r (th_r (ib_r (th_r (bq_r ?_))))))));have hf : cdA n l i = false := by exact hn2 (by omega) (by have q := ‹(!lt) = true›; simpa using q)
    exact ret1 rfl (by unfold cdsB; rw [allN_false hi1 hf])
   refine AC.skip (ib_n (th_n (AC.region ?_)));refine zA ?_;refine zm ?_;refine AL.nil (th_n ?_);have hf : cdA n l i = true := hy (by have q := ‹(!b1) = false›; simpa using q) (by exact .inr (by have q := ‹(!lt) = false›; simpa using q));exact ⟨i + 1, ⟨by omega, fun j hj => by rcases Nat.lt_succ_iff_lt_or_eq.1 hj with h | rfl; exact hall j h; exact hf⟩, by omega, Weak.ren _ [] hC0 rfl (by repeat (first | exact True.intro | refine And.intro ?_ ?_ | exact DLead.same)) (by repeat (exact True.intro)) rfl rfl rfl⟩
  refine zn ?_;refine zn ?_;refine zn ?_;refine zn ?_;refine zn ?_;refine zn ?_;refine zn ?_;refine zy ?_;refine zP ?_;refine zP ?_;refine AL.nil (th_n ?_);refine AC.condF rfl ?_;refine AC.skip (ib_n (th_n (AC.region ?_)));refine zA ?_;refine zm ?_;refine AL.nil (th_n ?_);have hf : cdA n l i = true := hy (by have q := ‹(!b1) = false›; simpa using q) (by exact .inl (by omega));exact ⟨i + 1, ⟨by omega, fun j hj => by rcases Nat.lt_succ_iff_lt_or_eq.1 hj with h | rfl; exact hall j h; exact hf⟩, by omega, Weak.ren _ [] hC0 rfl (by repeat (first | exact True.intro | refine And.intro ?_ ?_ | exact DLead.same)) (by repeat (exact True.intro)) rfl rfl rfl⟩
 refine AC.exit (th_e (th_e (ib_y (th_n (AC.seq (AC.region ?_))))));refine za ?_;refine AL.nil (th_n (AC.ret (bq_r ?_)));have hf : cdsB n l = true := allN_true fun j hj => hall j (by omega)
 exact ret1 rfl (by rw [hf])
theorem en_l14Codes : Enters Tryz.prog 133 := enters_of Tryz.func133 rfl rfl
def metB (on off : List Tx) : Bool := on.any fun c => inT off c
def onoffB (n : Int) (on off : List Tx) : Bool := (decide (1 ≤ n) && decide (n ≤ 8)) && ((cdsB n on && decide ((on.length : Int) ≤ 64)) && ((cdsB n off && decide ((off.length : Int) ≤ 256)) && !metB on off))
set_option maxHeartbeats 8000000 in
theorem l14Sets_spec (n : Int) (on off : List Tx) (hl : on.length ≤ 1000000) (hl2 : off.length ≤ 1000000) (hb : ∀ c, c ∈ on → c.length ≤ 2000000) (hb2 : ∀ c, c ∈ off → c.length ≤ 2000000) : ASpec Tryz.prog 124 [aI n, .d (vSs on), .d (vSs off)] [] (Pure1 (aT (onoffB n on off))) := by
 have hW := l1In_spec n 1 8;have hA := l14Codes_spec n on hl hb;have hB := l14Codes_spec n off hl2 hb2;have hH := fun c => l1HasS2_spec off (by omega) c
 have hR : onoffB n on off = ((decide (1 ≤ n) && decide (n ≤ 8)) && ((cdsB n on && decide ((on.length : Int) ≤ 64)) && ((cdsB n off && decide ((off.length : Int) ≤ 256)) && !metB on off))) := rfl;obtain ⟨b1, e1⟩ := eqx ((decide (1 ≤ n) && decide (n ≤ 8)));obtain ⟨b2, e2⟩ := eqx (cdsB n on);obtain ⟨b3, e3⟩ := eqx (cdsB n off);obtain ⟨d1, f1⟩ := eqx (decide ((on.length : Int) ≤ 64));obtain ⟨d2, f2⟩ := eqx (decide ((off.length : Int) ≤ 256));have g1 : decide ((on.length : Int) > 64) = !d1 := by rw [f1, ← decide_not]; exact decide_eq_decide.2 ⟨fun h => by omega, fun h => by omega⟩
 have g2 : decide ((off.length : Int) > 256) = !d2 := by rw [f2, ← decide_not]; exact decide_eq_decide.2 ⟨fun h => by omega, fun h => by omega⟩
 rw [← e1, ← e2, ← e3, ← f1, ← f2] at hR;rw [← e2] at hA;rw [← e3] at hB;have hW' : ASpec Tryz.prog 35 [aI n, aI 1, aI 8] [] (Pure1 (aT b1)) := by rw [e1]; exact hW
 obtain ⟨R, hRR⟩ := eqx (onoffB n on off);rw [← hRR] at hR ⊢;clear e1 e2 e3 f1 f2 hRR hW;refine ASpec.of Tryz.func124 rfl rfl fun C hC => ?_
 refine AC.seq (AC.region ?_);refine za ?_;refine AL.nil (th_n (AC.seq (AC.seq (AC.region ?_))));refine zm ?_;refine kV en_l1In hW' ?_;refine kC ?_;refine zm ?_;refine AL.caseGB rfl rfl (fun h0 => ?_) (fun h0 => ?_)
 ·refine zn ?_;refine zn ?_;refine zn ?_;refine zQ ?_;refine zm ?_;refine zn ?_;refine zn ?_;refine zn ?_;refine zQ ?_;refine zm ?_;refine zn ?_;refine zn ?_;refine zn ?_;refine zn ?_;refine zQ ?_;refine zm ?_;refine zn ?_;refine zn ?_;refine zn ?_;refine zn ?_;refine zQ ?_;refine AL.nil (th_n ?_);refine AC.condT rfl ?_;refine AC.seq (AC.region ?_);refine za ?_;refine AL.nil (th_n (AC.ret (th_r (bq_r ?_))));have hf : R = false := by rw [hR]; (have q := ‹(!b1) = true›; revert q; cases b1 <;> simp)
  exact ret1 rfl (by rw [hf])
 refine zy ?_;refine zm ?_;refine zy ?_;refine kI on.length (strsL_len _) ?_;refine zy ?_;refine AL.p (by exact g_cmp (r := !d1) rfl rfl (congrArg some g1)) rfl ?_;refine zP ?_;refine zm ?_;refine AL.caseGB rfl rfl (fun h1 => ?_) (fun h1 => ?_)
 ·refine zn ?_;refine zn ?_;refine zn ?_;refine zQ ?_;refine zm ?_;refine zn ?_;refine zn ?_;refine zn ?_;refine zn ?_;refine zQ ?_;refine zm ?_;refine zn ?_;refine zn ?_;refine zn ?_;refine zn ?_;refine zQ ?_;refine AL.nil (th_n ?_);refine AC.condT rfl ?_;refine AC.seq (AC.region ?_);refine za ?_;refine AL.nil (th_n (AC.ret (th_r (bq_r ?_))));have hf : R = false := by rw [hR]; (have q := ‹(!d1) = true›; revert q; cases d1 <;> simp)
  exact ret1 rfl (by rw [hf])
 refine zy ?_;refine zm ?_;refine zy ?_;refine kI off.length (strsL_len _) ?_;refine zy ?_;refine AL.p (by exact g_cmp (r := !d2) rfl rfl (congrArg some g2)) rfl ?_;refine zP ?_;refine zm ?_;refine AL.caseGB rfl rfl (fun h2 => ?_) (fun h2 => ?_)
 ·refine zn ?_;refine zn ?_;refine zn ?_;refine zn ?_;refine zQ ?_;refine zm ?_;refine zn ?_;refine zn ?_;refine zn ?_;refine zn ?_;refine zQ ?_;refine AL.nil (th_n ?_);refine AC.condT rfl ?_;refine AC.seq (AC.region ?_);refine za ?_;refine AL.nil (th_n (AC.ret (th_r (bq_r ?_))));have hf : R = false := by rw [hR]; (have q := ‹(!d2) = true›; revert q; cases d2 <;> simp)
  exact ret1 rfl (by rw [hf])
 refine zy ?_;refine zm ?_;refine zy ?_;refine zm ?_;refine zy ?_;refine kV en_l14Codes hA ?_;refine zy ?_;refine kC ?_;refine zP ?_;refine zm ?_;refine AL.caseGB rfl rfl (fun h3 => ?_) (fun h3 => ?_)
 ·refine zn ?_;refine zn ?_;refine zn ?_;refine zn ?_;refine zQ ?_;refine AL.nil (th_n ?_);refine AC.condT rfl ?_;refine AC.seq (AC.region ?_);refine za ?_;refine AL.nil (th_n (AC.ret (th_r (bq_r ?_))));have hf : R = false := by rw [hR]; (have q := ‹(!b2) = true›; revert q; cases b2 <;> simp)
  exact ret1 rfl (by rw [hf])
 refine zy ?_;refine zm ?_;refine zy ?_;refine zm ?_;refine zy ?_;refine kV en_l14Codes hB ?_;refine zy ?_;refine kC ?_;refine zP ?_;refine AL.nil (th_n ?_);refine AC.condB rfl (fun h4 => ?_) (fun h4 => ?_)
 ·refine AC.seq (AC.region ?_);refine za ?_;refine AL.nil (th_n (AC.ret (th_r (bq_r ?_))));have hf : R = false := by rw [hR]; (have q := ‹(!b3) = true›; revert q; cases b3 <;> simp)
  exact ret1 rfl (by rw [hf])
 refine AC.skip (th_n (AC.seq (AC.seq ?_)));have c1 : b1 = true := by have q := ‹(!b1) = false›; simpa using q
 have c2 : d1 = true := by have q := ‹(!d1) = false›; simpa using q
 have c3 : d2 = true := by have q := ‹(!d2) = false›; simpa using q
 have c4 : b2 = true := by have q := ‹(!b2) = false›; simpa using q
 have c5 : b3 = true := by have q := ‹(!b3) = false›; simpa using q
 rw [c1, c2, c3, c4, c5] at hR;have hR : R = !metB on off := hR;refine AC.region ?_;refine zm ?_;refine kI on.length (strsL_len _) ?_;refine zm ?_;refine AL.nil (th_n (AC.block ?_));refine AC.loop (ι := Nat) (fun i => ⟨44, 300, [(2, .d (vSs off)), (34, .d (vSs on)), (35, aI on.length), (36, aI i)], []⟩) (fun i => i ≤ on.length ∧ ∀ j (hj : j < on.length), j < i → inT off on[j] = false) (fun i => on.length - i) (0) ?_ (⟨Nat.zero_le _, fun j _ hj => by omega⟩) ?_
 ·exact Weak.ren _ [] hC rfl (by repeat (first | exact True.intro | refine And.intro ?_ ?_ | exact DLead.same)) (by repeat (exact True.intro)) rfl rfl rfl
 intro i ⟨hi, hall⟩;refine AC.seq (AC.region ?_);refine zc ?_;refine AL.nil (th_n (AC.seq ?_));refine AC.condD rfl (fun h5 => ?_) (fun h5 => ?_)
 ·refine AC.skip (th_n (AC.seq (AC.block (AC.seq ?_))));have hi1 : i < on.length := by omega
  have hget := strs_at hi1;have hHi := hH on[i];obtain ⟨b, hb⟩ := eqx (inT off on[i]);rw [← hb] at hHi;refine AC.region ?_;refine AL.p (by exact g_ia_view (i := i) rfl rfl rfl rfl rfl rfl hget) rfl ?_;refine zr ?_;refine za ?_;refine AL.nil (th_n (AC.seq (AC.region ?_)));refine zm ?_;refine zm ?_;refine kV en_l1HasS hHi ?_;refine AL.nil (th_n ?_);refine AC.condB rfl (fun h6 => ?_) (fun h6 => ?_)
  ·refine AC.seq (AC.region ?_);refine za ?_;refine AL.nil (th_n (AC.ret (ib_r (th_r (th_r (ib_r (th_r (bq_r ?_))))))));have hf : metB on off = true := List.any_eq_true.2 ⟨_, List.getElem_mem hi1, hb.symm.trans ‹b = true›⟩;exact ret1 rfl (by rw [hR, hf]; rfl)
  refine AC.skip (ib_n (th_n (AC.region ?_)));refine zA ?_;refine zm ?_;refine AL.nil (th_n ?_);exact ⟨i + 1, ⟨by omega, fun j hj hj2 => by rcases Nat.lt_succ_iff_lt_or_eq.1 hj2 with h | rfl; exact hall j hj h; exact hb.symm.trans ‹b = false›⟩, by omega, Weak.ren _ [] hC rfl (by repeat (first | exact True.intro | refine And.intro ?_ ?_ | exact DLead.same)) (by repeat (exact True.intro)) rfl rfl rfl⟩
 refine AC.exit (th_e (th_e (ib_y (th_n (AC.seq (AC.region ?_))))));refine za ?_;refine AL.nil (th_n (AC.ret (bq_r ?_)));have hf : metB on off = false := List.any_eq_false.2 fun x hx => by obtain ⟨j, hj, rfl⟩ := List.getElem_of_mem hx; rw [hall j hj (by omega)]; decide
 exact ret1 rfl (by rw [hR, hf]; rfl)
theorem en_l14Sets : Enters Tryz.prog 124 := enters_of Tryz.func124 rfl rfl
def cubesN : Nat → List Tx
 | 0 => [[]]
 | n + 1 => (cubesN n).flatMap fun c => [c ++ [45], c ++ [48], c ++ [49]]
def nx3 (L : List Tx) (j : Nat) : List Tx := (L.take j).flatMap fun c => [c ++ [45], c ++ [48], c ++ [49]]
theorem nx3_succ {L : List Tx} {j : Nat} (hj : j < L.length) : nx3 L (j + 1) = nx3 L j ++ [L[j] ++ [45], L[j] ++ [48], L[j] ++ [49]] := by
 unfold nx3;rw [List.take_add_one, List.getElem?_eq_getElem hj, List.flatMap_append]
 rfl
theorem nx3_len {L : List Tx} : ∀ j, j ≤ L.length → (nx3 L j).length = 3 * j
 | 0, _ => rfl
 | j + 1, h => by
  rw [nx3_succ (by omega), List.length_append, nx3_len j (by omega)];simp only [List.length_cons, List.length_nil]; omega
theorem nx3_all (n : Nat) : nx3 (cubesN n) (cubesN n).length = cubesN (n + 1) := by unfold nx3; rw [List.take_length]; rfl
theorem cubesN_len : ∀ n, (cubesN n).length = 3 ^ n
 | 0 => rfl
 | n + 1 => by rw [← nx3_all, nx3_len _ (Nat.le_refl _), cubesN_len n, Nat.pow_succ]; omega
theorem cubesN_mem : ∀ (n : Nat) (x : Tx), x ∈ cubesN n ↔ (x.length = n ∧ ∀ b, b ∈ x → b = 45 ∨ b = 48 ∨ b = 49)
 | 0, x => by
  constructor
  ·intro h; rw [List.mem_singleton.1 h]; exact ⟨rfl, fun b hb => absurd hb List.not_mem_nil⟩
  rintro ⟨h, _⟩; rw [List.eq_nil_of_length_eq_zero h]; exact List.mem_singleton.2 rfl
 | n + 1, x => by
  constructor
  ·intro h;obtain ⟨c, hc, hx⟩ := List.mem_flatMap.1 h;have ih := (cubesN_mem n c).1 hc
   have hx2 : ∃ b, x = c ++ [b] ∧ (b = 45 ∨ b = 48 ∨ b = 49) := by
    have : x = c ++ [45] ∨ x = c ++ [48] ∨ x = c ++ [49] := by simpa using hx
    rcases this with h | h | h
    ·exact ⟨_, h, .inl rfl⟩
    ·exact ⟨_, h, .inr (.inl rfl)⟩
    exact ⟨_, h, .inr (.inr rfl)⟩
   obtain ⟨b, rfl, hb⟩ := hx2;refine ⟨by rw [List.length_append, ih.1]; rfl, fun y hy => ?_⟩;rcases List.mem_append.1 hy with h | h
   ·exact ih.2 y h
   rw [List.mem_singleton.1 h]; exact hb
  rintro ⟨h1, h2⟩;obtain ⟨c, b, rfl⟩ : ∃ c b, x = c ++ [b] := ⟨x.dropLast, x.getLast (by intro e; rw [e] at h1; cases h1), (List.dropLast_concat_getLast _).symm⟩;refine List.mem_flatMap.2 ⟨c, (cubesN_mem n c).2 ⟨by rw [List.length_append] at h1; simpa using h1, fun y hy => h2 y (List.mem_append_left _ hy)⟩, ?_⟩;rcases h2 b (List.mem_append_right _ (List.mem_singleton.2 rfl)) with e | e | e <;> rw [e] <;> simp
theorem pow3_le {k n : Nat} (hk : k ≤ n) (hn : n ≤ 8) : 3 ^ k ≤ 6561 := Nat.le_trans (Nat.pow_le_pow_right (by omega) (Nat.le_trans hk hn)) (by decide)
set_option maxHeartbeats 4000000 in
theorem l14Cubes_spec (n : Nat) (hn : n ≤ 8) : ASpec Tryz.prog 135 [aI n] [] (Pure1 (.d (vSs (cubesN n)))) := by
 refine ASpec.of Tryz.func135 rfl rfl fun C hC => ?_
 refine AC.seq (AC.region ?_);refine za ?_;refine AL.nil (th_n (AC.seq (AC.region ?_)));refine AL.q (by exact h_lit rfl rfl rfl rfl rfl rfl rfl rfl) rfl ?_;refine AL.p (by exact as2 rfl) rfl ?_;refine AL.nil (th_n (AC.seq (AC.block ?_)));refine AC.loop (ι := Nat) (fun k => ⟨30, 300, [(0, aI ((n : Int) - k)), (3, .own 100 (cubesN k).length)], [(100, some (.arr 9 1 (strsL (cubesN k))))]⟩) (fun k => k ≤ n) (fun k => n - k) (0) ?_ (Nat.zero_le _) ?_
 ·exact zw [(100, _)] hC
 intro k hk;have hcl := cubesN_len k;have hp2 := pow3_le hk hn;refine AC.seq (AC.seq (AC.region ?_));refine zm ?_;refine zc ?_;refine AL.nil (th_n ?_);refine AC.condD rfl (fun h0 => ?_) (fun h0 => ?_)
 ·refine AC.skip (th_n (AC.seq (AC.block (AC.seq (AC.region ?_)))));refine za ?_;refine AL.nil (th_n (AC.seq (AC.seq (AC.region ?_))));refine kB ?_;refine AL.p (by exact g_len_own (sz := 1) (els := []) (e' := 0) rfl rfl (by simp only [maxLen]; omega)) rfl ?_;refine zm ?_;refine AL.nil (th_n (AC.block ?_));refine AC.loop (ι := Nat) (fun j => ⟨30, 600, [(0, aI ((n : Int) - k)), (4, .own 101 (nx3 (cubesN k) j).length), (12, .own 100 (cubesN k).length), (13, aI (cubesN k).length), (14, aI j)], [(100, some (.arr 9 1 (strsL (cubesN k)))), (101, some (.arr 9 1 (strsL (nx3 (cubesN k) j))))]⟩) (fun j => j ≤ (cubesN k).length) (fun j => (cubesN k).length - j) (0) ?_ (Nat.zero_le _) ?_
  ·exact (Weak.nilOwn (i := 4) (e := 9) (sz := 1) rfl (by decide)).trans (zw [(100, 100), (101, _)] hC)
  intro j hj;refine AC.seq (AC.region ?_);refine zc ?_;refine AL.nil (th_n (AC.seq ?_));refine AC.condD rfl (fun h1 => ?_) (fun h1 => ?_)
  ·refine AC.skip (th_n (AC.seq (AC.block (AC.seq ?_))));have hj1 : j < (cubesN k).length := by omega
   have hrow : (strsL (cubesN k))[j]? = some [dS (bstr (cubesN k)[j])] := strs_at hj1;have hnx := nx3_succ hj1;have hnl := nx3_len (L := cubesN k) j (by omega);have hcm := ((cubesN_mem k _).1 (List.getElem_mem hj1)).1;obtain ⟨c, hc⟩ := eqx ((cubesN k)[j]);rw [← hc] at hrow hnx hcm;refine AC.region ?_;refine AL.p (by exact g_ia_own (i := j) (l := (cubesN k).length) rfl rfl rfl rfl rfl rfl hj1 rfl) rfl ?_;refine AL.p (by exact g_load_arr1 rfl rfl rfl rfl (by rw [Nat.mul_one]; exact hrow)) rfl ?_;refine za ?_;refine AL.nil (th_n (AC.region ?_));refine kB ?_;refine zm ?_;refine AL.p (by exact g_saddB (a := c) (b := [45]) rfl rfl (by simp only [List.length_cons, List.length_nil]; omega)) rfl ?_;refine zm ?_;refine AL.p (by exact g_saddB (a := c) (b := [48]) rfl rfl (by simp only [List.length_cons, List.length_nil]; omega)) rfl ?_;refine zm ?_;refine AL.p (by exact g_saddB (a := c) (b := [49]) rfl rfl (by simp only [List.length_cons, List.length_nil]; omega)) rfl ?_;refine AL.q (by exact h_litF rfl rfl rfl rfl rfl rfl rfl rfl) rfl ?_;refine AL.q (by exact h_appendTx (nx3 (cubesN k) j) [c ++ [45], c ++ [48], c ++ [49]] (.own rfl rfl (strsL_len _).symm) (.view rfl) (by rw [List.length_append, hnl]; simp only [List.length_cons, List.length_nil]; omega) (by simp)) rfl ?_;refine AL.p (by exact as2 rfl) rfl ?_;refine AL.nil (ib_n (th_n (AC.region ?_)));refine zA ?_;refine zm ?_;refine AL.nil (th_n ?_);exact ⟨j + 1, by omega, by omega, zw [(100, 100), (101, _)] hC (by rw [hnx]; repeat (first | exact True.intro | refine And.intro ?_ ?_ | exact DLead.same | exact rfl | refine ⟨_, rfl, ?_⟩)) (by rw [hnx]; repeat (first | exact True.intro | refine And.intro ?_ ?_ | exact rfl | refine ⟨_, _, rfl, rfl, ?_⟩))⟩
  refine AC.exit (th_e (th_e (ib_y (th_n (AC.region ?_)))));refine kB ?_;refine AL.p (by exact as2 rfl) rfl ?_;refine AL.nil (ib_n (th_n (AC.region ?_)));refine zm ?_;refine zA ?_;refine za ?_;refine AL.nil (th_n ?_);have hjj : j = (cubesN k).length := by omega
  subst hjj;exact ⟨k + 1, by omega, by omega, zw [(100, 101)] hC (by rw [← nx3_all]; repeat (first | exact True.intro | refine And.intro ?_ ?_ | exact DLead.eqI (by omega) | exact rfl | refine ⟨_, rfl, ?_⟩)) (by rw [← nx3_all]; repeat (first | exact True.intro | refine And.intro ?_ ?_ | exact rfl | refine ⟨_, _, rfl, rfl, ?_⟩))⟩
 refine AC.exit (th_e (th_e (ib_y (th_n (AC.seq ?_)))));have hkk : k = n := by omega
 subst hkk;refine AC.region ?_;refine kB ?_;refine AL.p (by exact as2 rfl) rfl ?_;refine AL.nil (th_n ?_);refine AC.weak (Weak.freeze (i := 2) rfl rfl (Nat.le_of_eq (strsL_len _).symm) (List.take_of_length_le (Nat.le_of_eq (strsL_len _)))) ?_;refine AC.ret (bq_r ?_);exact ret1 rfl rfl
theorem en_l14Cubes : Enters Tryz.prog 135 := enters_of Tryz.func135 rfl rfl
def anyH (c : Tx) (codes : List Tx) : Bool := codes.any fun x => hasC c x
set_option maxHeartbeats 1000000 in
theorem l14Any_spec (c : Tx) (codes : List Tx) (hl : codes.length ≤ 1000000) (hc : c.length ≤ 2000000) (hb : ∀ x, x ∈ codes → x.length = c.length) : ASpec Tryz.prog 136 [aS (bstr c), .d (vSs codes)] [] (Pure1 (aT (anyH c codes))) := by
 have hH := fun x hx => l13Has_spec c x hc (hb x hx)
 refine ASpec.of Tryz.func136 rfl rfl fun C hC => ?_
 refine AC.seq (AC.region ?_);refine za ?_;refine AL.nil (th_n (AC.seq (AC.seq (AC.region ?_))));refine zm ?_;refine kI codes.length (strsL_len _) ?_;refine zm ?_;refine AL.nil (th_n (AC.block ?_));refine AC.loop (ι := Nat) (fun i => ⟨17, 100, [(0, aS (bstr c)), (7, .d (vSs codes)), (8, aI codes.length), (9, aI i)], []⟩) (fun i => i ≤ codes.length ∧ ∀ j (hj : j < codes.length), j < i → hasC c codes[j] = false) (fun i => codes.length - i) (0) ?_ (⟨Nat.zero_le _, fun j _ hj => by omega⟩) ?_
 ·exact Weak.ren _ [] hC rfl (by repeat (first | exact True.intro | refine And.intro ?_ ?_ | exact DLead.same)) (by repeat (exact True.intro)) rfl rfl rfl
 intro i ⟨hi, hall⟩;refine AC.seq (AC.region ?_);refine zc ?_;refine AL.nil (th_n (AC.seq ?_));refine AC.condD rfl (fun h0 => ?_) (fun h0 => ?_)
 ·refine AC.skip (th_n (AC.seq (AC.block (AC.seq ?_))));have hi1 : i < codes.length := by omega
  have hget := strs_at hi1;have hHi := hH codes[i] (List.getElem_mem hi1);obtain ⟨b, hb1⟩ := eqx (hasC c codes[i]);rw [← hb1] at hHi;refine AC.region ?_;refine AL.p (by exact g_ia_view (i := i) rfl rfl rfl rfl rfl rfl hget) rfl ?_;refine zr ?_;refine za ?_;refine AL.nil (th_n (AC.seq (AC.region ?_)));refine zm ?_;refine zm ?_;refine kV en_l13Has hHi ?_;refine AL.nil (th_n ?_);refine AC.condB rfl (fun h1 => ?_) (fun h1 => ?_)
  ·refine AC.seq (AC.region ?_);refine za ?_;refine AL.nil (th_n (AC.ret (ib_r (th_r (th_r (ib_r (th_r (bq_r ?_))))))));have hf : anyH c codes = true := List.any_eq_true.2 ⟨_, List.getElem_mem hi1, hb1.symm.trans ‹b = true›⟩;exact ret1 rfl (by rw [hf])
  refine AC.skip (ib_n (th_n (AC.region ?_)));refine zA ?_;refine zm ?_;refine AL.nil (th_n ?_);exact ⟨i + 1, ⟨by omega, fun j hj hj2 => by rcases Nat.lt_succ_iff_lt_or_eq.1 hj2 with h | rfl; exact hall j hj h; exact hb1.symm.trans ‹b = false›⟩, by omega, Weak.ren _ [] hC rfl (by repeat (first | exact True.intro | refine And.intro ?_ ?_ | exact DLead.same)) (by repeat (exact True.intro)) rfl rfl rfl⟩
 refine AC.exit (th_e (th_e (ib_y (th_n (AC.seq (AC.region ?_))))));refine za ?_;refine AL.nil (th_n (AC.ret (bq_r ?_)));have hf : anyH c codes = false := List.any_eq_false.2 fun x hx => by obtain ⟨j, hj, rfl⟩ := List.getElem_of_mem hx; rw [hall j hj (by omega)]; decide
 exact ret1 rfl (by rw [hf])
theorem en_l14Any : Enters Tryz.prog 136 := enters_of Tryz.func136 rfl rfl
def prmA (c : Tx) (off : List Tx) (i : Nat) : Bool := decide (at1 c i = 45) || anyH (c.set i 45) off
def primeB (c : Tx) (off : List Tx) : Bool := allN c.length (prmA c off)
set_option maxHeartbeats 4000000 in
theorem l14Prime_spec (c : Tx) (off : List Tx) (hl : off.length ≤ 1000000) (hc : c.length ≤ 1000000) (hb : ∀ x, x ∈ off → x.length = c.length) : ASpec Tryz.prog 137 [aS (bstr c), .d (vSs off)] [] (Pure1 (aT (primeB c off))) := by
 have hA := fun i => l14Any_spec (c.set i 45) off hl (by rw [List.length_set]; omega) (fun x hx => by rw [List.length_set]; exact hb x hx)
 have hS := fun i hi => l5Set_spec c i 45 (by omega) hi
 have hsz := bstr_size c;refine ASpec.of Tryz.func137 rfl rfl fun C hC => ?_
 refine AC.seq (AC.region ?_);refine za ?_;refine AL.nil (th_n (AC.seq (AC.seq (AC.region ?_))));refine za ?_;refine AL.nil (th_n (AC.block ?_));refine AC.loop (ι := Nat) (fun i => ⟨24, 100, [(0, aS (bstr c)), (1, .d (vSs off)), (5, aI i)], []⟩) (fun i => i ≤ c.length ∧ ∀ j, j < i → prmA c off j = true) (fun i => c.length - i) (0) ?_ (⟨Nat.zero_le _, fun j hj => by omega⟩) ?_
 ·exact Weak.ren _ [] hC rfl (by repeat (first | exact True.intro | refine And.intro ?_ ?_ | exact DLead.same)) (by repeat (exact True.intro)) rfl rfl rfl
 intro i ⟨hi, hall⟩;refine AC.seq (AC.seq (AC.region ?_));refine zm ?_;refine zm ?_;refine AL.p (by exact g_len_str (k := c.length) rfl rfl (by rw [bstr_size])) rfl ?_;refine zc ?_;refine AL.nil (th_n ?_);refine AC.condD rfl (fun h0 => ?_) (fun h0 => ?_)
 ·refine AC.skip (th_n (AC.seq (AC.block (AC.seq ?_))));have hi1 : i < c.length := by omega
  have hgi := bstr_getD hi1;have hAi := hA i;have hSi := hS i hi1;have hPi : prmA c off i = (decide (at1 c i = 45) || anyH (c.set i 45) off) := rfl;obtain ⟨e, he⟩ := eqx (c.set i 45);rw [← he] at hAi hPi hSi;obtain ⟨h, hh⟩ := eqx (anyH e off);rw [← hh] at hAi hPi;obtain ⟨d, hd⟩ := eqx (decide (at1 c i = 45));rw [← hd] at hPi;have hdn : (!decide (((c.getD i 0).toNat : Int) = 45)) = !d := by rw [hd]; rfl
  clear hh he;refine AC.region ?_;refine zm ?_;refine zm ?_;refine AL.p (by exact g_index (i := i) rfl rfl rfl rfl hgi) rfl ?_;refine AL.p (by exact g_cmp (r := !d) rfl rfl (congrArg some hdn)) rfl ?_;refine zm ?_;refine AL.caseGB rfl rfl (fun h1 => ?_) (fun h1 => ?_)
  ·refine zy ?_;refine zm ?_;refine zy ?_;refine zm ?_;refine zy ?_;refine kV en_l5Set hSi ?_;refine zy ?_;refine zm ?_;refine zy ?_;refine kV en_l14Any hAi ?_;refine zy ?_;refine kC ?_;refine zQ ?_;refine AL.nil (th_n ?_);refine AC.condB rfl (fun h2 => ?_) (fun h2 => ?_)
   ·refine AC.seq (AC.region ?_);refine za ?_;refine AL.nil (th_n (AC.ret (ib_r (th_r (th_r (ib_r (th_r (bq_r ?_))))))));have hf : prmA c off i = false := by rw [hPi]; have q1 := ‹(!d) = true›; have q2 := ‹(!h) = true›; revert q1 q2; cases d <;> cases h <;> simp
    exact ret1 rfl (by unfold primeB; rw [allN_false hi1 hf])
   refine AC.skip (ib_n (th_n (AC.region ?_)));refine zm ?_;refine zA ?_;refine za ?_;refine AL.nil (th_n ?_);have hf : prmA c off i = true := by rw [hPi]; (have q2 := ‹(!h) = false›; revert q2; cases h <;> simp)
   exact ⟨i + 1, ⟨by omega, fun j hj => by rcases Nat.lt_succ_iff_lt_or_eq.1 hj with w | rfl; exact hall j w; exact hf⟩, by omega, Weak.ren _ [] hC rfl (by repeat (first | exact True.intro | refine And.intro ?_ ?_ | exact DLead.same)) (by repeat (exact True.intro)) rfl rfl rfl⟩
  refine zn ?_;refine zn ?_;refine zn ?_;refine zn ?_;refine zn ?_;refine zn ?_;refine zP ?_;refine AL.nil (th_n ?_);refine AC.condF rfl ?_;refine AC.skip (ib_n (th_n (AC.region ?_)));refine zm ?_;refine zA ?_;refine za ?_;refine AL.nil (th_n ?_);have hf : prmA c off i = true := by rw [hPi]; (have q1 := ‹(!d) = false›; revert q1; cases d <;> simp)
  exact ⟨i + 1, ⟨by omega, fun j hj => by rcases Nat.lt_succ_iff_lt_or_eq.1 hj with w | rfl; exact hall j w; exact hf⟩, by omega, Weak.ren _ [] hC rfl (by repeat (first | exact True.intro | refine And.intro ?_ ?_ | exact DLead.same)) (by repeat (exact True.intro)) rfl rfl rfl⟩
 refine AC.exit (th_e (th_e (ib_y (th_n (AC.seq (AC.region ?_))))));refine za ?_;refine AL.nil (th_n (AC.ret (bq_r ?_)));have hf : primeB c off = true := allN_true fun j hj => hall j (by omega)
 exact ret1 rfl (by rw [hf])
theorem en_l14Prime : Enters Tryz.prog 137 := enters_of Tryz.func137 rfl rfl
theorem filt_sn {α : Type} (p : α → Bool) {l : List α} {j : Nat} (hj : j < l.length) : (l.take (j + 1)).filter p = (l.take j).filter p ++ (if p l[j] = true then [l[j]] else []) := by
 rw [List.take_add_one, List.getElem?_eq_getElem hj, List.filter_append];congr 1
 by_cases h : p l[j] = true <;> simp [h]
def primP (on off : List Tx) (c : Tx) : Bool := (anyH c on && !anyH c off) && primeB c off
def primesL (n : Nat) (on off : List Tx) : List Tx := (cubesN n).filter (primP on off)
theorem primesL_len (n : Nat) (on off : List Tx) (hn : n ≤ 8) : (primesL n on off).length ≤ 6561 := by
 have h1 := List.length_filter_le (primP on off) (cubesN n);have h2 := cubesN_len n;have h3 := pow3_le (Nat.le_refl n) hn;unfold primesL;omega
set_option maxHeartbeats 4000000 in
theorem l14Primes_spec (n : Nat) (on off : List Tx) (hn : n ≤ 8) (hl : on.length ≤ 1000000) (hl2 : off.length ≤ 1000000) (hb : ∀ x, x ∈ on → x.length = n) (hb2 : ∀ x, x ∈ off → x.length = n) : ASpec Tryz.prog 125 [aI n, .d (vSs on), .d (vSs off)] [] (Pure1 (.d (vSs (primesL n on off)))) := by
 have hA := l14Cubes_spec n hn;have hcl := cubesN_len n;have hp3 := pow3_le (Nat.le_refl n) hn;have hmem : ∀ c, c ∈ cubesN n → c.length = n := fun c h => ((cubesN_mem n c).1 h).1
 have hP0 : primesL n on off = (cubesN n).filter (primP on off) := rfl;rw [hP0];obtain ⟨Q, hQ⟩ := eqx (cubesN n);rw [← hQ] at hA hcl hmem ⊢;clear hQ hP0;have hFl := fun j => List.length_filter_le (primP on off) (Q.take j)
 refine ASpec.of Tryz.func125 rfl rfl fun C hC => ?_
 refine AC.seq (AC.region ?_);refine za ?_;refine AL.nil (th_n (AC.seq (AC.region ?_)));refine za ?_;refine AL.nil (th_n (AC.seq (AC.seq (AC.region ?_))));refine zm ?_;refine kV en_l14Cubes hA ?_;refine kI Q.length (strsL_len _) ?_;refine zm ?_;refine AL.nil (th_n (AC.block ?_));refine AC.loop (ι := Nat) (fun j => ⟨37, 300, [(1, .d (vSs on)), (2, .d (vSs off)), (7, .own 100 ((Q.take j).filter (primP on off)).length), (11, .d (vSs Q)), (12, aI Q.length), (13, aI j)], [(100, some (.arr 9 1 (strsL ((Q.take j).filter (primP on off)))))]⟩) (fun j => j ≤ Q.length) (fun j => Q.length - j) (0) ?_ (Nat.zero_le _) ?_
 ·exact (Weak.nilOwn (i := 7) (e := 9) (sz := 1) rfl (by decide)).trans (zw [(100, _)] hC)
 intro j hj;refine AC.seq (AC.region ?_);refine zc ?_;refine AL.nil (th_n (AC.seq ?_));refine AC.condD rfl (fun h0 => ?_) (fun h0 => ?_)
 ·refine AC.skip (th_n (AC.seq (AC.block (AC.seq ?_))));have hj1 : j < Q.length := by omega
  have hget := strs_at hj1;have hcm := hmem _ (List.getElem_mem hj1);have hsn := filt_sn (primP on off) hj1;have hFlj := hFl j;rw [List.length_take] at hFlj;obtain ⟨c, hc⟩ := eqx (Q[j]);rw [← hc] at hget hcm hsn;have h1 := l14Any_spec c on hl (by omega) (fun x hx => by rw [hb x hx, hcm]);have h2 := l14Any_spec c off hl2 (by omega) (fun x hx => by rw [hb2 x hx, hcm]);have h3 := l14Prime_spec c off hl2 (by omega) (fun x hx => by rw [hb2 x hx, hcm]);have hR : primP on off c = ((anyH c on && !anyH c off) && primeB c off) := rfl;obtain ⟨b1, e1⟩ := eqx (anyH c on);obtain ⟨b2, e2⟩ := eqx (anyH c off);obtain ⟨b3, e3⟩ := eqx (primeB c off);rw [← e1, ← e2, ← e3] at hR;rw [← e1] at h1;rw [← e2] at h2;rw [← e3] at h3;rw [hR] at hsn;have hh1 := h1;have hh2 := h2;have hh3 := h3;obtain ⟨T, hT⟩ := eqx ((Q.take j).filter (primP on off));rw [← hT] at hsn hFlj ⊢;clear e1 e2 e3 hR h1 h2 h3 hc hT;refine AC.region ?_;refine AL.p (by exact g_ia_view (i := j) rfl rfl rfl rfl rfl rfl hget) rfl ?_;refine zr ?_;refine za ?_;refine AL.nil (th_n (AC.seq (AC.region ?_)));refine zm ?_;refine zm ?_;refine kV en_l14Any hh1 ?_;refine zm ?_;refine AL.caseGB rfl rfl (fun h1 => ?_) (fun h1 => ?_)
  ·refine zy ?_;refine zm ?_;refine zy ?_;refine zm ?_;refine zy ?_;refine kV en_l14Any hh2 ?_;refine zy ?_;refine kC ?_;refine zQ ?_;refine zm ?_;refine AL.caseGB rfl rfl (fun h2 => ?_) (fun h2 => ?_)
   ·refine zy ?_;refine zm ?_;refine zy ?_;refine zm ?_;refine zy ?_;refine kV en_l14Prime hh3 ?_;refine zQ ?_;refine AL.nil (th_n ?_);refine AC.condB rfl (fun h3 => ?_) (fun h3 => ?_)
    ·refine AC.region ?_;refine kB ?_;refine zm ?_;refine AL.q (by exact h_litF rfl rfl rfl rfl rfl rfl rfl rfl) rfl ?_;refine AL.q (by exact h_appendTx T [c] (.own rfl rfl (strsL_len _).symm) (.view rfl) (by rw [List.length_append]; simp only [List.length_cons, List.length_nil]; omega) (by simp)) rfl ?_;refine AL.p (by exact as2 rfl) rfl ?_;refine AL.nil (ib_n (th_n (AC.region ?_)));refine zA ?_;refine zm ?_;refine AL.nil (th_n ?_)
     (have q1 := ‹b1 = true›; have q2 := ‹(!b2) = true›; have q3 := ‹b3 = true›; rw [q1, q2, q3, if_pos (by rfl)] at hsn; exact ⟨j + 1, by omega, by omega, zw [(100, _)] hC (by rw [hsn]; repeat (first | exact True.intro | refine And.intro ?_ ?_ | exact DLead.same | exact rfl | refine ⟨_, rfl, ?_⟩)) (by rw [hsn]; repeat (first | exact True.intro | refine And.intro ?_ ?_ | exact rfl | refine ⟨_, _, rfl, rfl, ?_⟩))⟩)
    refine AC.skip (ib_n (th_n (AC.region ?_)));refine zA ?_;refine zm ?_;refine AL.nil (th_n ?_)
    (have q : ((b1 && !b2) && b3) = false := (by rw [‹b3 = false›, Bool.and_false]); rw [q, if_neg (by decide), List.append_nil] at hsn; exact ⟨j + 1, by omega, by omega, zw [(100, 100)] hC (by rw [hsn]; repeat (first | exact True.intro | refine And.intro ?_ ?_ | exact DLead.same | exact rfl | refine ⟨_, rfl, ?_⟩)) (by rw [hsn]; repeat (first | exact True.intro | refine And.intro ?_ ?_ | exact rfl | refine ⟨_, _, rfl, rfl, ?_⟩))⟩)
   refine zn ?_;refine zn ?_;refine zn ?_;refine zP ?_;refine AL.nil (th_n ?_);refine AC.condF rfl ?_;refine AC.skip (ib_n (th_n (AC.region ?_)));refine zA ?_;refine zm ?_;refine AL.nil (th_n ?_)
   (have q : ((b1 && !b2) && b3) = false := (by rw [‹(!b2) = false›, Bool.and_false, Bool.false_and]); rw [q, if_neg (by decide), List.append_nil] at hsn; exact ⟨j + 1, by omega, by omega, zw [(100, 100)] hC (by rw [hsn]; repeat (first | exact True.intro | refine And.intro ?_ ?_ | exact DLead.same | exact rfl | refine ⟨_, rfl, ?_⟩)) (by rw [hsn]; repeat (first | exact True.intro | refine And.intro ?_ ?_ | exact rfl | refine ⟨_, _, rfl, rfl, ?_⟩))⟩)
  refine zn ?_;refine zn ?_;refine zn ?_;refine zn ?_;refine zP ?_;refine zm ?_;refine zn ?_;refine zn ?_;refine zn ?_;refine zP ?_;refine AL.nil (th_n ?_);refine AC.condF rfl ?_;refine AC.skip (ib_n (th_n (AC.region ?_)));refine zA ?_;refine zm ?_;refine AL.nil (th_n ?_)
  (have q : ((b1 && !b2) && b3) = false := (by rw [‹b1 = false›, Bool.false_and, Bool.false_and]); rw [q, if_neg (by decide), List.append_nil] at hsn; exact ⟨j + 1, by omega, by omega, zw [(100, 100)] hC (by rw [hsn]; repeat (first | exact True.intro | refine And.intro ?_ ?_ | exact DLead.same | exact rfl | refine ⟨_, rfl, ?_⟩)) (by rw [hsn]; repeat (first | exact True.intro | refine And.intro ?_ ?_ | exact rfl | refine ⟨_, _, rfl, rfl, ?_⟩))⟩)
 refine AC.exit (th_e (th_e (ib_y (th_n (AC.seq (AC.region ?_))))));refine kB ?_;refine AL.p (by exact as2 rfl) rfl ?_;refine AL.nil (th_n ?_);have hjj : j = Q.length := by omega
 rw [hjj, List.take_length];refine AC.weak (Weak.freeze (i := 6) rfl rfl (Nat.le_of_eq (strsL_len _).symm) (List.take_of_length_le (Nat.le_of_eq (strsL_len _)))) ?_;refine AC.ret (bq_r ?_);exact ret1 rfl rfl
theorem en_l14Primes : Enters Tryz.prog 125 := enters_of Tryz.func125 rfl rfl
theorem onoff_in {n : Int} {on off : List Tx} (h : onoffB n on off = true) : ∃ m : Nat, n = m ∧ 1 ≤ m ∧ m ≤ 8 ∧ on.length ≤ 64 ∧ off.length ≤ 256 ∧ (∀ x, x ∈ on → x.length = m ∧ bitsB x n = true) ∧ (∀ x, x ∈ off → x.length = m ∧ bitsB x n = true) ∧ ∀ x, x ∈ on → ¬ x ∈ off := by
 unfold onoffB at h;simp only [Bool.and_eq_true, decide_eq_true_eq, Bool.not_eq_true'] at h;obtain ⟨⟨h1, h2⟩, ⟨h3, h4⟩, ⟨h5, h6⟩, h7⟩ := h
 have hcd : ∀ (l : List Tx), cdsB n l = true → ∀ x, x ∈ l → x.length = n.toNat ∧ bitsB x n = true := fun l hl x hx => by
  obtain ⟨i, hi, rfl⟩ := List.getElem_of_mem hx;unfold cdsB allN at hl;have := List.all_eq_true.1 hl i (List.mem_range.2 hi);unfold cdA at this;rw [Bool.and_eq_true, tx_at hi] at this;have hb := bits_len' this.1;exact ⟨by omega, this.1⟩
 refine ⟨n.toNat, by omega, by omega, by omega, by omega, by omega, hcd on h3, hcd off h5, fun x hx hy => ?_⟩;unfold metB at h7;have := List.any_eq_false.1 h7 x hx;unfold inT at this;exact this (List.any_eq_true.2 ⟨x, hy, decide_eq_true rfl⟩)
def prR (n : Int) (on off : List Tx) : List Tx × Bool := if onoffB n on off = true ∧ (primesL n.toNat on off).length ≤ 60 then (primesL n.toNat on off, true) else ([], false)
theorem sPrimes_spec (n : Int) (on off : List Tx) (hl : on.length ≤ 1000000) (hl2 : off.length ≤ 1000000) (hb : ∀ c, c ∈ on → c.length ≤ 2000000) (hb2 : ∀ c, c ∈ off → c.length ≤ 2000000) : ASpec Tryz.prog 108 [aI n, .d (vSs on), .d (vSs off)] [] (Pure1 (.tup [.d (vSs (prR n on off).1), aT (prR n on off).2])) := by
 have hO := l14Sets_spec n on off hl hl2 hb hb2
 have hP : onoffB n on off = true → ASpec Tryz.prog 125 [aI n, .d (vSs on), .d (vSs off)] [] (Pure1 (.d (vSs (primesL n.toNat on off)))) ∧ (primesL n.toNat on off).length ≤ 6561 := fun h => by
  obtain ⟨m, rfl, h1, h2, _, _, h3, h4, _⟩ := onoff_in h;exact ⟨l14Primes_spec m on off h2 hl hl2 (fun x hx => (h3 x hx).1) (fun x hx => (h4 x hx).1), primesL_len m on off h2⟩
 have hR : prR n on off = if onoffB n on off = true ∧ (primesL n.toNat on off).length ≤ 60 then (primesL n.toNat on off, true) else ([], false) := rfl
 obtain ⟨b, e⟩ := eqx (onoffB n on off);rw [← e] at hO hP hR;obtain ⟨R, hRR⟩ := eqx (prR n on off);rw [← hRR] at hR ⊢;obtain ⟨P, hPP⟩ := eqx (primesL n.toNat on off);rw [← hPP] at hP hR;obtain ⟨d, hd⟩ := eqx (decide ((P.length : Int) > 60));clear e hRR hPP;refine ASpec.of Tryz.func108 rfl rfl fun C hC => ?_
 refine AC.seq (AC.region ?_);refine za ?_;refine za ?_;refine AL.nil (th_n (AC.seq (AC.seq (AC.region ?_))));refine zm ?_;refine zm ?_;refine zm ?_;refine kV en_l14Sets hO ?_;refine kC ?_;refine AL.nil (th_n ?_);refine AC.condB rfl (fun h0 => ?_) (fun h0 => ?_)
 ·refine AC.seq (AC.region ?_);refine za ?_;refine za ?_;refine AL.nil (th_n (AC.ret (th_r (bq_r ?_))));have e : R = ([], false) := hR.trans (if_neg (fun q => by have w := ‹(!b) = true›; rw [q.1] at w; cases w));exact ret0 rfl (by rw [e]; show AV.leads _ (.tup [.d (vSs []), aT false]) _; repeat (first | exact DLead.same | exact DLead.nil | exact rfl | refine ⟨_, rfl, ?_⟩ | refine ⟨_, _, rfl, ?_, ?_⟩))
 refine AC.skip (th_n (AC.seq ?_));have hb1 : b = true := by have q := ‹(!b) = false›; simpa using q
 obtain ⟨hP1, hPl⟩ := hP hb1;refine AC.region ?_;refine zm ?_;refine zm ?_;refine zm ?_;refine kV en_l14Primes hP1 ?_;refine za ?_;refine AL.nil (th_n (AC.seq (AC.seq (AC.region ?_))));refine zm ?_;refine kI P.length (strsL_len _) ?_;refine AL.p (by exact g_cmp (r := d) rfl rfl (congrArg some hd.symm)) rfl ?_;refine AL.nil (th_n ?_);refine AC.condB rfl (fun h1 => ?_) (fun h1 => ?_)
 ·refine AC.seq (AC.region ?_);refine za ?_;refine za ?_;refine AL.nil (th_n (AC.ret (th_r (bq_r ?_))));have e : R = ([], false) := hR.trans (if_neg (fun q => by have w := of_decide_eq_true (hd.symm.trans ‹d = true›); omega));exact ret0 rfl (by rw [e]; show AV.leads _ (.tup [.d (vSs []), aT false]) _; repeat (first | exact DLead.same | exact DLead.nil | exact rfl | refine ⟨_, rfl, ?_⟩ | refine ⟨_, _, rfl, ?_, ?_⟩))
 refine AC.skip (th_n (AC.seq (AC.region ?_)));refine zm ?_;refine za ?_;refine za ?_;refine AL.nil (th_n (AC.ret (bq_r ?_)));have e : R = (P, true) := hR.trans (if_pos ⟨hb1, by have := of_decide_eq_false (hd.symm.trans ‹d = false›); omega⟩);exact ret0 rfl (by rw [e]; show AV.leads _ (.tup [.d (vSs P), aT true]) _; repeat (first | exact DLead.same | exact rfl | refine ⟨_, rfl, ?_⟩ | refine ⟨_, _, rfl, ?_, ?_⟩))
theorem en_sPrimes : Enters Tryz.prog 108 := enters_of Tryz.func108 rfl rfl
theorem l1OwnT_spec (l : List Tx) (hl : l.length ≤ 1000000) : ASpec Tryz.prog 141 [.d (vSs l)] [] (Fun1 (.own 0 l.length) [(0, .arr 9 1 (strsL l))]) := by
 refine ASpec.of Tryz.func141 rfl rfl fun C hC => ?_
 refine AC.seq (AC.region ?_);refine za ?_;refine AL.nil (th_n (AC.seq (AC.region ?_)));refine AL.q (by exact h_lit rfl rfl rfl rfl rfl rfl rfl rfl) rfl ?_;refine zm ?_;refine AL.q (by exact h_appendTx [] l (.own rfl rfl rfl) (.view rfl) (by simp; omega) (by simp)) rfl ?_;refine AL.p (by exact as2 rfl) rfl ?_;refine AL.nil (th_n (AC.ret (bq_r ?_)));exact retN [(0, _)] rfl (by repeat (first | exact rfl | refine ⟨_, rfl, ?_⟩)) (by repeat (first | exact True.intro | refine And.intro ?_ ?_ | exact rfl | refine ⟨_, _, rfl, rfl, ?_⟩)) rfl rfl
def ddT (l : List Tx) : Nat → List Tx
 | 0 => []
 | p + 1 => ddT l p ++ (if p = 0 ∨ ¬ l.getD p [] = l.getD (p - 1) [] then [l.getD p []] else [])
structure DtI (l : List Tx) (k p : Nat) (e : List Tx) : Prop where
 len : e.length = l.length
 lt : k < p
 le : p ≤ l.length
 kept : e.take k = ddT l p
 rest : ∀ i (hi : i < l.length), p ≤ i + 1 → e.getD i [] = l[i]
theorem DtI.skip {l e : List Tx} {k p : Nat} (h : DtI l k p e) (hp : p < l.length) (hq : l.getD p [] = l.getD (p - 1) []) : DtI l k (p + 1) e :=
 ⟨h.len, by have := h.lt; omega, hp, by rw [ddT, if_neg (by rintro (q | q); (have := h.lt; omega); exact q hq), List.append_nil]; exact h.kept, fun i hi hpi => h.rest i hi (by omega)⟩
theorem DtI.move {l e : List Tx} {k p : Nat} (h : DtI l k p e) (hp : p < l.length) (hq : ¬ l.getD p [] = l.getD (p - 1) []) : DtI l (k + 1) (p + 1) (e.set k l[p]) := by
 have hl := h.len;have hlt := h.lt;refine ⟨by rw [List.length_set]; exact hl, by omega, hp, ?_, fun i hi hpi => ?_⟩
 ·rw [ddT, if_pos (.inr hq), ← h.kept, tx_at hp, List.take_add_one, List.getElem?_set_self (by omega), List.take_set_of_le (Nat.le_refl _)]; rfl
 rw [List.getD_eq_getElem?_getD, List.getElem?_set_ne (by omega), ← List.getD_eq_getElem?_getD];exact h.rest i hi (by omega)
end Go.Proofs.YtjodfopifgiipaaGreat
