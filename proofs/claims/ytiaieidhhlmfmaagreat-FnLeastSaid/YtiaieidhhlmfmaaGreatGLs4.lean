/- Contracts of the functions of the program and of the reference, each proved by a walk through its code. -/
import Derived.Shelf.SlSortCmp.NoneTotal
import Derived.Test.YtiaieidhhlmfmaaGreatGLs3
set_option linter.all false
set_option maxRecDepth 20000
namespace Go.Proofs.YtiaieidhhlmfmaaGreat
open Go.RowKit
def cubesN : Nat → List Tx
 | 0 => [[]]
 | n + 1 => (cubesN n).flatMap fun c => [c ++ [45], c ++ [48], c ++ [49]]
def nx3 (L : List Tx) (j : Nat) : List Tx := (L.take j).flatMap fun c => [c ++ [45], c ++ [48], c ++ [49]]
theorem nx3_succ {L : List Tx} {j : Nat} (hj : j < L.length) : nx3 L (j + 1) = nx3 L j ++ [L[j] ++ [45], L[j] ++ [48], L[j] ++ [49]] := by
 unfold nx3;rw [List.take_add_one, List.getElem?_eq_getElem hj, List.flatMap_append]
 rfl
theorem nx3_len {L : List Tx} : ∀ j, j ≤ L.length → (nx3 L j).length = 3 * j
 | 0, _ => rfl
 | j + 1, h => by
  rw [nx3_succ (by omega), List.length_append, nx3_len j (by omega)];simp only [List.length_cons, List.length_nil]; omega
theorem nx3_all (n : Nat) : nx3 (cubesN n) (cubesN n).length = cubesN (n + 1) := by unfold nx3; rw [List.take_length]; rfl
theorem cubesN_len : ∀ n, (cubesN n).length = 3 ^ n
 | 0 => rfl
 | n + 1 => by rw [← nx3_all, nx3_len _ (Nat.le_refl _), cubesN_len n, Nat.pow_succ]; omega
theorem cubesN_mem : ∀ (n : Nat) (x : Tx), x ∈ cubesN n ↔ (x.length = n ∧ ∀ b, b ∈ x → b = 45 ∨ b = 48 ∨ b = 49)
 | 0, x => by
  constructor
  ·intro h; rw [List.mem_singleton.1 h]; exact ⟨rfl, fun b hb => absurd hb List.not_mem_nil⟩
  rintro ⟨h, _⟩; rw [List.eq_nil_of_length_eq_zero h]; exact List.mem_singleton.2 rfl
 | n + 1, x => by
  constructor
  ·intro h;obtain ⟨c, hc, hx⟩ := List.mem_flatMap.1 h;have ih := (cubesN_mem n c).1 hc
   have hx2 : ∃ b, x = c ++ [b] ∧ (b = 45 ∨ b = 48 ∨ b = 49) := by
    have : x = c ++ [45] ∨ x = c ++ [48] ∨ x = c ++ [49] := by simpa using hx
    rcases this with h | h | h
    ·exact ⟨_, h, .inl rfl⟩
    ·exact ⟨_, h, .inr (.inl rfl)⟩
    exact ⟨_, h, .inr (.inr rfl)⟩
   obtain ⟨b, rfl, hb⟩ := hx2;refine ⟨by rw [List.length_append, ih.1]; rfl, fun y hy => ?_⟩;rcases List.mem_append.1 hy with h | h
   ·exact ih.2 y h
   rw [List.mem_singleton.1 h]; exact hb
  rintro ⟨h1, h2⟩;obtain ⟨c, b, rfl⟩ : ∃ c b, x = c ++ [b] := ⟨x.dropLast, x.getLast (by intro e; rw [e] at h1; cases h1), (List.dropLast_concat_getLast _).symm⟩;refine List.mem_flatMap.2 ⟨c, (cubesN_mem n c).2 ⟨by rw [List.length_append] at h1; simpa using h1, fun y hy => h2 y (List.mem_append_left _ hy)⟩, ?_⟩;rcases h2 b (List.mem_append_right _ (List.mem_singleton.2 rfl)) with e | e | e <;> rw [e] <;> simp
theorem pow3_le {k n : Nat} (hk : k ≤ n) (hn : n ≤ 8) : 3 ^ k ≤ 6561 := Nat.le_trans (Nat.pow_le_pow_right (by omega) (Nat.le_trans hk hn)) (by decide)
set_option maxHeartbeats 4000000 in
theorem allCubes_spec (n : Nat) (hn : n ≤ 8) : ASpec Tryz.prog 66 [aI n] [] (Fun1 (.own 0 (cubesN n).length) [(0, .arr 9 1 (strsL (cubesN n)))]) := by
 refine ASpec.of Tryz.func66 rfl rfl fun C hC => ?_
 refine AC.seq (AC.region ?_);refine za ?_;refine AL.nil (th_n (AC.seq (AC.region ?_)));refine AL.q (by exact h_lit rfl rfl rfl rfl rfl rfl rfl rfl) rfl ?_;refine AL.p (by exact as2 rfl) rfl ?_;refine AL.nil (th_n (AC.seq (AC.seq (AC.region ?_))));refine zm ?_;refine zm ?_;refine AL.nil (th_n (AC.block ?_));refine AC.loop (ι := Nat) (fun k => ⟨31, 300, [(3, .own 100 (cubesN k).length), (8, aI n), (9, aI k)], [(100, some (.arr 9 1 (strsL (cubesN k))))]⟩) (fun k => k ≤ n) (fun k => n - k) (0) ?_ (Nat.zero_le _) ?_
 ·exact zw [(100, _)] hC
 intro k hk;have hcl := cubesN_len k;have hp2 := pow3_le hk hn;refine AC.seq (AC.region ?_);refine zc ?_;refine AL.nil (th_n (AC.seq ?_));refine AC.condD rfl (fun h0 => ?_) (fun h0 => ?_)
 ·refine AC.skip (th_n (AC.seq (AC.block (AC.seq (AC.region ?_)))));refine AL.q (by exact h_lit rfl rfl rfl rfl rfl rfl rfl rfl) rfl ?_;refine AL.p (by exact as2 rfl) rfl ?_;refine AL.nil (th_n (AC.seq (AC.seq (AC.region ?_))));refine kB ?_;refine AL.p (by exact g_len_own (sz := 1) (els := []) (e' := 0) rfl rfl (by simp only [maxLen]; omega)) rfl ?_;refine zm ?_;refine AL.nil (th_n (AC.block ?_));refine AC.loop (ι := Nat) (fun j => ⟨31, 600, [(4, .own 101 (nx3 (cubesN k) j).length), (8, aI n), (9, aI k), (12, .own 100 (cubesN k).length), (13, aI (cubesN k).length), (14, aI j)], [(100, some (.arr 9 1 (strsL (cubesN k)))), (101, some (.arr 9 1 (strsL (nx3 (cubesN k) j))))]⟩) (fun j => j ≤ (cubesN k).length) (fun j => (cubesN k).length - j) (0) ?_ (Nat.zero_le _) ?_
  ·exact zw [(100, 100), (101, _)] hC
  intro j hj;refine AC.seq (AC.region ?_);refine zc ?_;refine AL.nil (th_n (AC.seq ?_));refine AC.condD rfl (fun h1 => ?_) (fun h1 => ?_)
  ·refine AC.skip (th_n (AC.seq (AC.block (AC.seq ?_))));have hj1 : j < (cubesN k).length := by omega
   have hrow : (strsL (cubesN k))[j]? = some [dS (bstr (cubesN k)[j])] := strs_at hj1;have hnx := nx3_succ hj1;have hnl := nx3_len (L := cubesN k) j (by omega);have hcm := ((cubesN_mem k _).1 (List.getElem_mem hj1)).1;obtain ⟨c, hc⟩ := eqx ((cubesN k)[j]);rw [← hc] at hrow hnx hcm;refine AC.region ?_;refine AL.p (by exact g_ia_own (i := j) (l := (cubesN k).length) rfl rfl rfl rfl rfl rfl hj1 rfl) rfl ?_;refine AL.p (by exact g_load_arr1 rfl rfl rfl rfl (by rw [Nat.mul_one]; exact hrow)) rfl ?_;refine za ?_;refine AL.nil (th_n (AC.region ?_));refine kB ?_;refine zm ?_;refine AL.p (by exact g_saddB (a := c) (b := [45]) rfl rfl (by simp only [List.length_cons, List.length_nil]; omega)) rfl ?_;refine zm ?_;refine AL.p (by exact g_saddB (a := c) (b := [48]) rfl rfl (by simp only [List.length_cons, List.length_nil]; omega)) rfl ?_;refine zm ?_;refine AL.p (by exact g_saddB (a := c) (b := [49]) rfl rfl (by simp only [List.length_cons, List.length_nil]; omega)) rfl ?_;refine AL.q (by exact h_litF rfl rfl rfl rfl rfl rfl rfl rfl) rfl ?_;refine AL.q (by exact h_appendSt (nx3 (cubesN k) j) [c ++ [45], c ++ [48], c ++ [49]] (.own rfl rfl (strsL_len _).symm) (.view rfl) (by rw [List.length_append, hnl]; simp only [List.length_cons, List.length_nil]; omega) (by simp)) rfl ?_;refine AL.p (by exact as2 rfl) rfl ?_;refine AL.nil (ib_n (th_n (AC.region ?_)));refine zA ?_;refine zm ?_;refine AL.nil (th_n ?_);exact ⟨j + 1, by omega, by omega, zw [(100, 100), (101, _)] hC (by rw [hnx]; repeat (first | exact True.intro | refine And.intro ?_ ?_ | exact DLead.same | exact rfl | refine ⟨_, rfl, ?_⟩)) (by rw [hnx]; repeat (first | exact True.intro | refine And.intro ?_ ?_ | exact rfl | refine ⟨_, _, rfl, rfl, ?_⟩))⟩
  refine AC.exit (th_e (th_e (ib_y (th_n (AC.region ?_)))));refine kB ?_;refine AL.p (by exact as2 rfl) rfl ?_;refine AL.nil (ib_n (th_n (AC.region ?_)));refine zA ?_;refine zm ?_;refine AL.nil (th_n ?_);have hjj : j = (cubesN k).length := by omega
  subst hjj;exact ⟨k + 1, by omega, by omega, zw [(100, 101)] hC (by rw [← nx3_all]; repeat (first | exact True.intro | refine And.intro ?_ ?_ | exact DLead.same | exact rfl | refine ⟨_, rfl, ?_⟩)) (by rw [← nx3_all]; repeat (first | exact True.intro | refine And.intro ?_ ?_ | exact rfl | refine ⟨_, _, rfl, rfl, ?_⟩))⟩
 refine AC.exit (th_e (th_e (ib_y (th_n (AC.seq (AC.region ?_))))));refine kB ?_;refine AL.p (by exact as2 rfl) rfl ?_;refine AL.nil (th_n (AC.ret (bq_r ?_)));have hkk : k = n := by omega
 subst hkk;exact retN [(0, 100)] rfl (by repeat (first | exact rfl | refine ⟨_, rfl, ?_⟩)) (by repeat (first | exact True.intro | refine And.intro ?_ ?_ | exact rfl | refine ⟨_, _, rfl, rfl, ?_⟩)) rfl rfl
theorem en_allCubes : Enters Tryz.prog 66 := enters_of Tryz.func66 rfl rfl
set_option maxHeartbeats 4000000 in
theorem l14Cubes_spec (n : Nat) (hn : n ≤ 8) : ASpec Tryz.prog 73 [aI n] [] (Pure1 (.d (vSs (cubesN n)))) := by
 refine ASpec.of Tryz.func73 rfl rfl fun C hC => ?_
 refine AC.seq (AC.region ?_);refine za ?_;refine AL.nil (th_n (AC.seq (AC.region ?_)));refine AL.q (by exact h_lit rfl rfl rfl rfl rfl rfl rfl rfl) rfl ?_;refine AL.p (by exact as2 rfl) rfl ?_;refine AL.nil (th_n (AC.seq (AC.block ?_)));refine AC.loop (ι := Nat) (fun k => ⟨30, 300, [(0, aI ((n : Int) - k)), (3, .own 100 (cubesN k).length)], [(100, some (.arr 9 1 (strsL (cubesN k))))]⟩) (fun k => k ≤ n) (fun k => n - k) (0) ?_ (Nat.zero_le _) ?_
 ·exact zw [(100, _)] hC
 intro k hk;have hcl := cubesN_len k;have hp2 := pow3_le hk hn;refine AC.seq (AC.seq (AC.region ?_));refine zm ?_;refine zc ?_;refine AL.nil (th_n ?_);refine AC.condD rfl (fun h0 => ?_) (fun h0 => ?_)
 ·refine AC.skip (th_n (AC.seq (AC.block (AC.seq (AC.region ?_)))));refine za ?_;refine AL.nil (th_n (AC.seq (AC.seq (AC.region ?_))));refine kB ?_;refine AL.p (by exact g_len_own (sz := 1) (els := []) (e' := 0) rfl rfl (by simp only [maxLen]; omega)) rfl ?_;refine zm ?_;refine AL.nil (th_n (AC.block ?_));refine AC.loop (ι := Nat) (fun j => ⟨30, 600, [(0, aI ((n : Int) - k)), (4, .own 101 (nx3 (cubesN k) j).length), (12, .own 100 (cubesN k).length), (13, aI (cubesN k).length), (14, aI j)], [(100, some (.arr 9 1 (strsL (cubesN k)))), (101, some (.arr 9 1 (strsL (nx3 (cubesN k) j))))]⟩) (fun j => j ≤ (cubesN k).length) (fun j => (cubesN k).length - j) (0) ?_ (Nat.zero_le _) ?_
  ·exact (Weak.nilOwn (i := 4) (e := 9) (sz := 1) rfl (by decide)).trans (zw [(100, 100), (101, _)] hC)
  intro j hj;refine AC.seq (AC.region ?_);refine zc ?_;refine AL.nil (th_n (AC.seq ?_));refine AC.condD rfl (fun h1 => ?_) (fun h1 => ?_)
  ·refine AC.skip (th_n (AC.seq (AC.block (AC.seq ?_))));have hj1 : j < (cubesN k).length := by omega
   have hrow : (strsL (cubesN k))[j]? = some [dS (bstr (cubesN k)[j])] := strs_at hj1;have hnx := nx3_succ hj1;have hnl := nx3_len (L := cubesN k) j (by omega);have hcm := ((cubesN_mem k _).1 (List.getElem_mem hj1)).1;obtain ⟨c, hc⟩ := eqx ((cubesN k)[j]);rw [← hc] at hrow hnx hcm;refine AC.region ?_;refine AL.p (by exact g_ia_own (i := j) (l := (cubesN k).length) rfl rfl rfl rfl rfl rfl hj1 rfl) rfl ?_;refine AL.p (by exact g_load_arr1 rfl rfl rfl rfl (by rw [Nat.mul_one]; exact hrow)) rfl ?_;refine za ?_;refine AL.nil (th_n (AC.region ?_));refine kB ?_;refine zm ?_;refine AL.p (by exact g_saddB (a := c) (b := [45]) rfl rfl (by simp only [List.length_cons, List.length_nil]; omega)) rfl ?_;refine zm ?_;refine AL.p (by exact g_saddB (a := c) (b := [48]) rfl rfl (by simp only [List.length_cons, List.length_nil]; omega)) rfl ?_;refine zm ?_;refine AL.p (by exact g_saddB (a := c) (b := [49]) rfl rfl (by simp only [List.length_cons, List.length_nil]; omega)) rfl ?_;refine AL.q (by exact h_litF rfl rfl rfl rfl rfl rfl rfl rfl) rfl ?_;refine AL.q (by exact h_appendSt (nx3 (cubesN k) j) [c ++ [45], c ++ [48], c ++ [49]] (.own rfl rfl (strsL_len _).symm) (.view rfl) (by rw [List.length_append, hnl]; simp only [List.length_cons, List.length_nil]; omega) (by simp)) rfl ?_;refine AL.p (by exact as2 rfl) rfl ?_;refine AL.nil (ib_n (th_n (AC.region ?_)));refine zA ?_;refine zm ?_;refine AL.nil (th_n ?_);exact ⟨j + 1, by omega, by omega, zw [(100, 100), (101, _)] hC (by rw [hnx]; repeat (first | exact True.intro | refine And.intro ?_ ?_ | exact DLead.same | exact rfl | refine ⟨_, rfl, ?_⟩)) (by rw [hnx]; repeat (first | exact True.intro | refine And.intro ?_ ?_ | exact rfl | refine ⟨_, _, rfl, rfl, ?_⟩))⟩
  refine AC.exit (th_e (th_e (ib_y (th_n (AC.region ?_)))));refine kB ?_;refine AL.p (by exact as2 rfl) rfl ?_;refine AL.nil (ib_n (th_n (AC.region ?_)));refine zm ?_;refine zA ?_;refine za ?_;refine AL.nil (th_n ?_);have hjj : j = (cubesN k).length := by omega
  subst hjj;exact ⟨k + 1, by omega, by omega, zw [(100, 101)] hC (by rw [← nx3_all]; repeat (first | exact True.intro | refine And.intro ?_ ?_ | exact DLead.eqI (by omega) | exact rfl | refine ⟨_, rfl, ?_⟩)) (by rw [← nx3_all]; repeat (first | exact True.intro | refine And.intro ?_ ?_ | exact rfl | refine ⟨_, _, rfl, rfl, ?_⟩))⟩
 refine AC.exit (th_e (th_e (ib_y (th_n (AC.seq ?_)))));have hkk : k = n := by omega
 subst hkk;refine AC.region ?_;refine kB ?_;refine AL.p (by exact as2 rfl) rfl ?_;refine AL.nil (th_n ?_);refine AC.weak (Weak.freeze (i := 2) rfl rfl (Nat.le_of_eq (strsL_len _).symm) (List.take_of_length_le (Nat.le_of_eq (strsL_len _)))) ?_;refine AC.ret (bq_r ?_);exact ret1 rfl rfl
theorem en_l14Cubes : Enters Tryz.prog 73 := enters_of Tryz.func73 rfl rfl
def anyH (c : Tx) (codes : List Tx) : Bool := codes.any fun x => hasC c x
theorem avoids1_spec (c x : Tx) (hc : c.length ≤ 2000000) (hx : x.length = c.length) : ASpec Tryz.prog 91 [aS (bstr x), .d (.ref [dS (bstr c)])] [] (Pure1 (aT (hasC c x))) := by
 have hI := contains_spec c x hc hx;refine ASpec.of Tryz.func91 rfl rfl fun C hC => ?_
 refine AC.seq (AC.region ?_);refine za ?_;refine AL.nil (th_n (AC.seq (AC.region ?_)));refine zr ?_;refine zm ?_;refine kV en_contains hI ?_;refine za ?_;refine AL.nil (th_n (AC.ret (bq_r ?_)));exact ret1 rfl rfl
theorem en_avoids1 : Enters Tryz.prog 91 := enters_of Tryz.func91 rfl rfl
theorem avoids_spec (c : Tx) (codes : List Tx) (hl : codes.length ≤ 1000000) (hc : c.length ≤ 2000000) (hb : ∀ x, x ∈ codes → x.length = c.length) : ASpec Tryz.prog 68 [aS (bstr c), .d (vSs codes)] [] (Pure1 (aT (!anyH c codes))) := by
 have hM := cfStr_spec codes hl 91 [.ref [dS (bstr c)]] en_avoids1 (fun x => hasC c x) (fun x hx => avoids1_spec c x hc (hb x hx));rw [show (codes.any fun x => hasC c x) = anyH c codes from rfl] at hM;refine ASpec.of Tryz.func68 rfl rfl fun C hC => ?_
 refine AC.seq (AC.region ?_);refine kD ?_;refine za ?_;refine AL.nil (th_n (AC.seq (AC.region ?_)));refine zm ?_;refine AL.p (by exact g_fn rfl) rfl ?_;refine kV en_cfStr hM ?_;refine kC ?_;refine za ?_;refine AL.nil (th_n (AC.ret (bq_r ?_)));exact ret1 rfl rfl
theorem en_avoids : Enters Tryz.prog 68 := enters_of Tryz.func68 rfl rfl
set_option maxHeartbeats 1000000 in
theorem l14Any_spec (c : Tx) (codes : List Tx) (hl : codes.length ≤ 1000000) (hc : c.length ≤ 2000000) (hb : ∀ x, x ∈ codes → x.length = c.length) : ASpec Tryz.prog 74 [aS (bstr c), .d (vSs codes)] [] (Pure1 (aT (anyH c codes))) := by
 have hH := fun x hx => l13Has_spec c x hc (hb x hx)
 refine ASpec.of Tryz.func74 rfl rfl fun C hC => ?_
 refine AC.seq (AC.region ?_);refine za ?_;refine AL.nil (th_n (AC.seq (AC.seq (AC.region ?_))));refine zm ?_;refine kI codes.length (strsL_len _) ?_;refine zm ?_;refine AL.nil (th_n (AC.block ?_));refine AC.loop (ι := Nat) (fun i => ⟨17, 100, [(0, aS (bstr c)), (7, .d (vSs codes)), (8, aI codes.length), (9, aI i)], []⟩) (fun i => i ≤ codes.length ∧ ∀ j (hj : j < codes.length), j < i → hasC c codes[j] = false) (fun i => codes.length - i) (0) ?_ (⟨Nat.zero_le _, fun j _ hj => by omega⟩) ?_
 ·exact Weak.ren _ [] hC rfl (by repeat (first | exact True.intro | refine And.intro ?_ ?_ | exact DLead.same)) (by repeat (exact True.intro)) rfl rfl rfl
 intro i ⟨hi, hall⟩;refine AC.seq (AC.region ?_);refine zc ?_;refine AL.nil (th_n (AC.seq ?_));refine AC.condD rfl (fun h0 => ?_) (fun h0 => ?_)
 ·refine AC.skip (th_n (AC.seq (AC.block (AC.seq ?_))));have hi1 : i < codes.length := by omega
  have hget := strs_at hi1;have hHi := hH codes[i] (List.getElem_mem hi1);obtain ⟨b, hb1⟩ := eqx (hasC c codes[i]);rw [← hb1] at hHi;refine AC.region ?_;refine AL.p (by exact g_ia_view (i := i) rfl rfl rfl rfl rfl rfl hget) rfl ?_;refine zr ?_;refine za ?_;refine AL.nil (th_n (AC.seq (AC.region ?_)));refine zm ?_;refine zm ?_;refine kV en_l13Has hHi ?_;refine AL.nil (th_n ?_);refine AC.condB rfl (fun h1 => ?_) (fun h1 => ?_)
  ·refine AC.seq (AC.region ?_);refine za ?_;refine AL.nil (th_n (AC.ret (ib_r (th_r (th_r (ib_r (th_r (bq_r ?_))))))));have hf : anyH c codes = true := List.any_eq_true.2 ⟨_, List.getElem_mem hi1, hb1.symm.trans ‹b = true›⟩;exact ret1 rfl (by rw [hf])
  refine AC.skip (ib_n (th_n (AC.region ?_)));refine zA ?_;refine zm ?_;refine AL.nil (th_n ?_);exact ⟨i + 1, ⟨by omega, fun j hj hj2 => by rcases Nat.lt_succ_iff_lt_or_eq.1 hj2 with h | rfl; exact hall j hj h; exact hb1.symm.trans ‹b = false›⟩, by omega, Weak.ren _ [] hC rfl (by repeat (first | exact True.intro | refine And.intro ?_ ?_ | exact DLead.same)) (by repeat (exact True.intro)) rfl rfl rfl⟩
 refine AC.exit (th_e (th_e (ib_y (th_n (AC.seq (AC.region ?_))))));refine za ?_;refine AL.nil (th_n (AC.ret (bq_r ?_)));have hf : anyH c codes = false := List.any_eq_false.2 fun x hx => by obtain ⟨j, hj, rfl⟩ := List.getElem_of_mem hx; rw [hall j hj (by omega)]; decide
 exact ret1 rfl (by rw [hf])
theorem en_l14Any : Enters Tryz.prog 74 := enters_of Tryz.func74 rfl rfl
def prmA (c : Tx) (off : List Tx) (i : Nat) : Bool := decide (at1 c i = 45) || anyH (c.set i 45) off
def primeB (c : Tx) (off : List Tx) : Bool := allN c.length (prmA c off)
set_option maxHeartbeats 4000000 in
theorem isPrimeI_spec (c : Tx) (off : List Tx) (hl : off.length ≤ 1000000) (hc : c.length ≤ 1000000) (hb : ∀ x, x ∈ off → x.length = c.length) : ASpec Tryz.prog 69 [aS (bstr c), .d (vSs off)] [] (Pure1 (aT (primeB c off))) := by
 have hA := fun i => avoids_spec (c.set i 45) off hl (by rw [List.length_set]; omega) (fun x hx => by rw [List.length_set]; exact hb x hx)
 have hsz := bstr_size c;refine ASpec.of Tryz.func69 rfl rfl fun C hC => ?_
 refine AC.seq (AC.region ?_);refine za ?_;refine AL.nil (th_n (AC.seq (AC.seq (AC.region ?_))));refine zm ?_;refine AL.p (by exact g_len_str (k := c.length) rfl rfl (by rw [bstr_size])) rfl ?_;refine zm ?_;refine AL.nil (th_n (AC.block ?_));refine AC.loop (ι := Nat) (fun i => ⟨29, 100, [(0, aS (bstr c)), (1, .d (vSs off)), (7, aI c.length), (8, aI i)], []⟩) (fun i => i ≤ c.length ∧ ∀ j, j < i → prmA c off j = true) (fun i => c.length - i) (0) ?_ (⟨Nat.zero_le _, fun j hj => by omega⟩) ?_
 ·exact Weak.ren _ [] hC rfl (by repeat (first | exact True.intro | refine And.intro ?_ ?_ | exact DLead.same)) (by repeat (exact True.intro)) rfl rfl rfl
 intro i ⟨hi, hall⟩;refine AC.seq (AC.region ?_);refine zc ?_;refine AL.nil (th_n (AC.seq ?_));refine AC.condD rfl (fun h0 => ?_) (fun h0 => ?_)
 ·refine AC.skip (th_n (AC.seq (AC.block (AC.seq (AC.region ?_)))));refine zm ?_;refine za ?_;refine AL.nil (th_n (AC.seq ?_));have hi1 : i < c.length := by omega
  have hgi := bstr_getD hi1;have hAi := hA i;have hPi : prmA c off i = (decide (at1 c i = 45) || anyH (c.set i 45) off) := rfl;have hx1 : (bstr c).extract 0 i = bstr (c.take i) := by rw [bstr_cut c (Nat.zero_le _) (by omega)]; simp
  have hx2 : (bstr c).extract (i + 1) (bstr c).size = bstr (c.drop (i + 1)) := by rw [hsz, bstr_cut c (by omega) (Nat.le_refl _), List.take_length]
  have hs1 : (c.take i).length = i := by rw [List.length_take]; omega
  have hs3 : (c.drop (i + 1)).length = c.length - (i + 1) := by rw [List.length_drop]
  have hst : c.take i ++ [45] ++ c.drop (i + 1) = c.set i 45 := by rw [List.set_eq_take_append_cons_drop, if_pos hi1]; simp
  obtain ⟨e, he⟩ := eqx (c.set i 45);rw [← he] at hAi hPi hst;have hAe : ASpec Tryz.prog 68 [aS (bstr (c.take i ++ [45] ++ c.drop (i + 1))), .d (vSs off)] [] (Pure1 (aT (!anyH e off))) := by rw [hst]; exact hAi
  obtain ⟨h, hh⟩ := eqx (anyH e off);rw [← hh] at hAe hPi;obtain ⟨d, hd⟩ := eqx (decide (at1 c i = 45));rw [← hd] at hPi;have hdn : (!decide (((c.getD i 0).toNat : Int) = 45)) = !d := by rw [hd]; rfl
  clear hh he hAi hst;refine AC.drawn' mixed_ok [[], [], [0,1], [0,1,2], [0,1,2,3], [0,1,2,3,4], [0,1,2,3,4], [0,1,2,3,4,5,6], [0,1,2,3,4,5,6,7], [0,1,2,3,4], [0,1,2,3,4], [0,1,2,3,4,10], [0,1,2,3,4,9,10,11], [0,1,2,3,4,5,6,7,8,9,10,11,12], [0,1,2,3,4], [0,1,2,3,4,5,6,7,8,9,10,11,12,13,14], [0,1,2,3,4,5,6,7,8,9,10,11,12,13,14,15]] (by decide) ?_;refine zd 0 [] 17 (by exact mv1 rfl) ?_;refine zd 1 [] 17 (by exact mv1 rfl) ?_;refine zd 2 [0,1] 17 (by exact g_index (i := i) rfl rfl rfl rfl hgi) ?_;refine zd 3 [0,1,2] 17 (by exact g_cmp (r := !d) rfl rfl (congrArg some hdn)) ?_;refine zd 4 [0,1,2,3] 17 (by exact mv1 rfl) ?_;refine DF.caseB 4 rfl (fun h1 => ?_) (fun h1 => ?_)
  ·refine ze 5 [0,1,2,3,4] 17 (by exact mv1 rfl) ?_;refine ze 6 [0,1,2,3,4] 17 (by exact mv1 rfl) ?_;refine ze 7 [0,1,2,3,4,5,6] 17 (by exact g_slice_str (h := i) rfl rfl .none (.some rfl rfl) (Nat.zero_le _) (by omega) hx1) ?_;refine ze 8 [0,1,2,3,4,5,6,7] 17 (by exact g_saddB (a := c.take i) (b := [45]) rfl rfl (by simp only [List.length_cons, List.length_nil]; omega)) ?_;refine ze 9 [0,1,2,3,4] 17 (by exact mv1 rfl) ?_;refine ze 10 [0,1,2,3,4] 17 (by exact mv1 rfl) ?_;refine ze 11 [0,1,2,3,4,10] 17 (by exact g_arith rfl rfl rfl (by exact wrap_i64 (by omega))) ?_;refine ze 12 [0,1,2,3,4,9,10,11] 17 (by exact g_slice_str (l := i + 1) rfl rfl (.some rfl rfl) .none (by omega) (Nat.le_refl _) hx2) ?_;refine ze 13 (List.range 13) 17 (by exact g_saddB (a := c.take i ++ [45]) (b := c.drop (i + 1)) rfl rfl (by rw [List.length_append]; simp only [List.length_cons, List.length_nil]; omega)) ?_;refine ze 14 [0,1,2,3,4] 17 (by exact mv1 rfl) ?_;refine zi 15 (List.range 15) 17 (by exact h_pure en_avoids rfl rfl (by repeat (first | exact rfl | exact DLead.same | refine ⟨_, _, rfl, ?_, ?_⟩)) hAe rfl) ?_;refine zd 16 (List.range 16) 17 (by exact g_pickT (r := .d _) rfl rfl) ?_;refine zj 17 ?_;refine th_n ?_;refine AC.condB rfl (fun h2 => ?_) (fun h2 => ?_)
   ·refine AC.seq (AC.region ?_);refine za ?_;refine AL.nil (th_n (AC.ret (ib_r (th_r (th_r (ib_r (th_r (bq_r ?_))))))));have hf : prmA c off i = false := by rw [hPi]; have q1 := ‹(!d) = true›; have q2 := ‹(!h) = true›; revert q1 q2; cases d <;> cases h <;> simp
    exact ret1 rfl (by unfold primeB; rw [allN_false hi1 hf])
   refine AC.skip (ib_n (th_n (AC.region ?_)));refine zA ?_;refine zm ?_;refine AL.nil (th_n ?_);have hf : prmA c off i = true := by rw [hPi]; (have q2 := ‹(!h) = false›; revert q2; cases h <;> simp)
   exact ⟨i + 1, ⟨by omega, fun j hj => by rcases Nat.lt_succ_iff_lt_or_eq.1 hj with w | rfl; exact hall j w; exact hf⟩, by omega, Weak.ren _ [] hC rfl (by repeat (first | exact True.intro | refine And.intro ?_ ?_ | exact DLead.same)) (by repeat (exact True.intro)) rfl rfl rfl⟩
  refine zg 5 [0,1,2,3,4] 17 ?_;refine zg 6 [0,1,2,3,4] 17 ?_;refine zg 7 [0,1,2,3,4,5,6] 17 ?_;refine zg 8 [0,1,2,3,4,5,6,7] 17 ?_;refine zg 9 [0,1,2,3,4] 17 ?_;refine zg 10 [0,1,2,3,4] 17 ?_;refine zg 11 [0,1,2,3,4,10] 17 ?_;refine zg 12 [0,1,2,3,4,9,10,11] 17 ?_;refine zg 13 (List.range 13) 17 ?_;refine zg 14 [0,1,2,3,4] 17 ?_;refine zg 15 (List.range 15) 17 ?_;refine zd 16 (List.range 16) 17 (by exact g_pickF (r := .d _) rfl rfl) ?_;refine zj 17 ?_;refine th_n ?_;refine AC.condF rfl ?_;refine AC.skip (ib_n (th_n (AC.region ?_)));refine zA ?_;refine zm ?_;refine AL.nil (th_n ?_);have hf : prmA c off i = true := by rw [hPi]; (have q1 := ‹(!d) = false›; revert q1; cases d <;> simp)
  exact ⟨i + 1, ⟨by omega, fun j hj => by rcases Nat.lt_succ_iff_lt_or_eq.1 hj with w | rfl; exact hall j w; exact hf⟩, by omega, Weak.ren _ [] hC rfl (by repeat (first | exact True.intro | refine And.intro ?_ ?_ | exact DLead.same)) (by repeat (exact True.intro)) rfl rfl rfl⟩
 refine AC.exit (th_e (th_e (ib_y (th_n (AC.seq (AC.region ?_))))));refine za ?_;refine AL.nil (th_n (AC.ret (bq_r ?_)));have hf : primeB c off = true := allN_true fun j hj => hall j (by omega)
 exact ret1 rfl (by rw [hf])
theorem en_isPrimeI : Enters Tryz.prog 69 := enters_of Tryz.func69 rfl rfl
set_option maxHeartbeats 4000000 in
theorem l14Prime_spec (c : Tx) (off : List Tx) (hl : off.length ≤ 1000000) (hc : c.length ≤ 1000000) (hb : ∀ x, x ∈ off → x.length = c.length) : ASpec Tryz.prog 75 [aS (bstr c), .d (vSs off)] [] (Pure1 (aT (primeB c off))) := by
 have hA := fun i => l14Any_spec (c.set i 45) off hl (by rw [List.length_set]; omega) (fun x hx => by rw [List.length_set]; exact hb x hx)
 have hS := fun i hi => l5Set_spec c i 45 (by omega) hi
 have hsz := bstr_size c;refine ASpec.of Tryz.func75 rfl rfl fun C hC => ?_
 refine AC.seq (AC.region ?_);refine za ?_;refine AL.nil (th_n (AC.seq (AC.seq (AC.region ?_))));refine za ?_;refine AL.nil (th_n (AC.block ?_));refine AC.loop (ι := Nat) (fun i => ⟨24, 100, [(0, aS (bstr c)), (1, .d (vSs off)), (5, aI i)], []⟩) (fun i => i ≤ c.length ∧ ∀ j, j < i → prmA c off j = true) (fun i => c.length - i) (0) ?_ (⟨Nat.zero_le _, fun j hj => by omega⟩) ?_
 ·exact Weak.ren _ [] hC rfl (by repeat (first | exact True.intro | refine And.intro ?_ ?_ | exact DLead.same)) (by repeat (exact True.intro)) rfl rfl rfl
 intro i ⟨hi, hall⟩;refine AC.seq (AC.seq (AC.region ?_));refine zm ?_;refine zm ?_;refine AL.p (by exact g_len_str (k := c.length) rfl rfl (by rw [bstr_size])) rfl ?_;refine zc ?_;refine AL.nil (th_n ?_);refine AC.condD rfl (fun h0 => ?_) (fun h0 => ?_)
 ·refine AC.skip (th_n (AC.seq (AC.block (AC.seq ?_))));have hi1 : i < c.length := by omega
  have hgi := bstr_getD hi1;have hAi := hA i;have hSi := hS i hi1;have hPi : prmA c off i = (decide (at1 c i = 45) || anyH (c.set i 45) off) := rfl;obtain ⟨e, he⟩ := eqx (c.set i 45);rw [← he] at hAi hPi hSi;obtain ⟨h, hh⟩ := eqx (anyH e off);rw [← hh] at hAi hPi;obtain ⟨d, hd⟩ := eqx (decide (at1 c i = 45));rw [← hd] at hPi;have hdn : (!decide (((c.getD i 0).toNat : Int) = 45)) = !d := by rw [hd]; rfl
  clear hh he;refine AC.region ?_;refine zm ?_;refine zm ?_;refine AL.p (by exact g_index (i := i) rfl rfl rfl rfl hgi) rfl ?_;refine AL.p (by exact g_cmp (r := !d) rfl rfl (congrArg some hdn)) rfl ?_;refine zm ?_;refine AL.caseGB rfl rfl (fun h1 => ?_) (fun h1 => ?_)
  ·refine zy ?_;refine zm ?_;refine zy ?_;refine zm ?_;refine zy ?_;refine kV en_l5Set hSi ?_;refine zy ?_;refine zm ?_;refine zy ?_;refine kV en_l14Any hAi ?_;refine zy ?_;refine kC ?_;refine zQ ?_;refine AL.nil (th_n ?_);refine AC.condB rfl (fun h2 => ?_) (fun h2 => ?_)
   ·refine AC.seq (AC.region ?_);refine za ?_;refine AL.nil (th_n (AC.ret (ib_r (th_r (th_r (ib_r (th_r (bq_r ?_))))))));have hf : prmA c off i = false := by rw [hPi]; have q1 := ‹(!d) = true›; have q2 := ‹(!h) = true›; revert q1 q2; cases d <;> cases h <;> simp
    exact ret1 rfl (by unfold primeB; rw [allN_false hi1 hf])
   refine AC.skip (ib_n (th_n (AC.region ?_)));refine zm ?_;refine zA ?_;refine za ?_;refine AL.nil (th_n ?_);have hf : prmA c off i = true := by rw [hPi]; (have q2 := ‹(!h) = false›; revert q2; cases h <;> simp)
   exact ⟨i + 1, ⟨by omega, fun j hj => by rcases Nat.lt_succ_iff_lt_or_eq.1 hj with w | rfl; exact hall j w; exact hf⟩, by omega, Weak.ren _ [] hC rfl (by repeat (first | exact True.intro | refine And.intro ?_ ?_ | exact DLead.same)) (by repeat (exact True.intro)) rfl rfl rfl⟩
  refine zn ?_;refine zn ?_;refine zn ?_;refine zn ?_;refine zn ?_;refine zn ?_;refine zP ?_;refine AL.nil (th_n ?_);refine AC.condF rfl ?_;refine AC.skip (ib_n (th_n (AC.region ?_)));refine zm ?_;refine zA ?_;refine za ?_;refine AL.nil (th_n ?_);have hf : prmA c off i = true := by rw [hPi]; (have q1 := ‹(!d) = false›; revert q1; cases d <;> simp)
  exact ⟨i + 1, ⟨by omega, fun j hj => by rcases Nat.lt_succ_iff_lt_or_eq.1 hj with w | rfl; exact hall j w; exact hf⟩, by omega, Weak.ren _ [] hC rfl (by repeat (first | exact True.intro | refine And.intro ?_ ?_ | exact DLead.same)) (by repeat (exact True.intro)) rfl rfl rfl⟩
 refine AC.exit (th_e (th_e (ib_y (th_n (AC.seq (AC.region ?_))))));refine za ?_;refine AL.nil (th_n (AC.ret (bq_r ?_)));have hf : primeB c off = true := allN_true fun j hj => hall j (by omega)
 exact ret1 rfl (by rw [hf])
theorem en_l14Prime : Enters Tryz.prog 75 := enters_of Tryz.func75 rfl rfl
theorem filt_sn {α : Type} (p : α → Bool) {l : List α} {j : Nat} (hj : j < l.length) : (l.take (j + 1)).filter p = (l.take j).filter p ++ (if p l[j] = true then [l[j]] else []) := by
 rw [List.take_add_one, List.getElem?_eq_getElem hj, List.filter_append];congr 1
 by_cases h : p l[j] = true <;> simp [h]
def primP (on off : List Tx) (c : Tx) : Bool := (anyH c on && !anyH c off) && primeB c off
def primesL (n : Nat) (on off : List Tx) : List Tx := (cubesN n).filter (primP on off)
theorem primesI1_spec (c : Tx) (on off : List Tx) (hl : on.length ≤ 1000000) (hl2 : off.length ≤ 1000000) (hc : c.length ≤ 1000000) (hb : ∀ x, x ∈ on → x.length = c.length) (hb2 : ∀ x, x ∈ off → x.length = c.length) : ASpec Tryz.prog 67 [aS (bstr c), .d (.ref [vSs on]), .d (.ref [vSs off])] [] (Pure1 (aT (!primP on off c))) := by
 have h1 := avoids_spec c on hl (by omega) hb;have h2 := avoids_spec c off hl2 (by omega) hb2;have h3 := isPrimeI_spec c off hl2 hc hb2;have hR : primP on off c = ((anyH c on && !anyH c off) && primeB c off) := rfl;obtain ⟨b1, e1⟩ := eqx (anyH c on);obtain ⟨b2, e2⟩ := eqx (anyH c off);obtain ⟨b3, e3⟩ := eqx (primeB c off);rw [← e1, ← e2, ← e3] at hR;rw [← e1] at h1;rw [← e2] at h2;rw [← e3] at h3;rw [hR];have hh1 := h1;have hh2 := h2;have hh3 := h3;clear e1 e2 e3 hR h1 h2 h3;refine ASpec.of Tryz.func67 rfl rfl fun C hC => ?_
 refine AC.seq (AC.region ?_);refine za ?_;refine AL.nil (th_n (AC.seq (AC.region ?_)));refine zm ?_;refine zr ?_;refine kV en_avoids hh1 ?_;refine zm ?_;refine AL.caseGB rfl rfl (fun h0 => ?_) (fun h0 => ?_)
 ·refine zn ?_;refine zn ?_;refine zn ?_;refine zn ?_;refine zQ ?_;refine zm ?_;refine zn ?_;refine zn ?_;refine zn ?_;refine zn ?_;refine zQ ?_;refine za ?_;refine AL.nil (th_n (AC.ret (bq_r ?_)))
  (have q := ‹(!b1) = true›; exact ret1 rfl (by revert q; cases b1 <;> cases b2 <;> cases b3 <;> simp))
 refine zy ?_;refine zm ?_;refine zy ?_;refine zr ?_;refine zy ?_;refine kV en_avoids hh2 ?_;refine zy ?_;refine kC ?_;refine zP ?_;refine zm ?_;refine AL.caseGB rfl rfl (fun h1 => ?_) (fun h1 => ?_)
 ·refine zn ?_;refine zn ?_;refine zn ?_;refine zn ?_;refine zQ ?_;refine za ?_;refine AL.nil (th_n (AC.ret (bq_r ?_)))
  (have q := ‹(!!b2) = true›; exact ret1 rfl (by revert q; cases b1 <;> cases b2 <;> cases b3 <;> simp))
 refine zy ?_;refine zm ?_;refine zy ?_;refine zr ?_;refine zy ?_;refine kV en_isPrimeI hh3 ?_;refine zy ?_;refine kC ?_;refine zP ?_;refine za ?_;refine AL.nil (th_n (AC.ret (bq_r ?_)))
 (have q := ‹(!b1) = false›; have q2 := ‹(!!b2) = false›; exact ret1 rfl (by revert q q2; cases b1 <;> cases b2 <;> cases b3 <;> simp))
theorem en_primesI1 : Enters Tryz.prog 67 := enters_of Tryz.func67 rfl rfl
theorem primesL_len (n : Nat) (on off : List Tx) (hn : n ≤ 8) : (primesL n on off).length ≤ 6561 := by
 have h1 := List.length_filter_le (primP on off) (cubesN n);have h2 := cubesN_len n;have h3 := pow3_le (Nat.le_refl n) hn;unfold primesL;omega
theorem primesI_spec (n : Nat) (on off : List Tx) (hn : n ≤ 8) (hl : on.length ≤ 1000000) (hl2 : off.length ≤ 1000000) (hb : ∀ x, x ∈ on → x.length = n) (hb2 : ∀ x, x ∈ off → x.length = n) : ASpec Tryz.prog 30 [aI n, .d (vSs on), .d (vSs off)] [] (Pure1 (.tup [.d (vSs (primesL n on off)), aT (decide (((primesL n on off).length : Int) ≤ 60))])) := by
 have hA := allCubes_spec n hn;have hcl := cubesN_len n;have hp3 := pow3_le (Nat.le_refl n) hn
 have hD := delStr_spec (cubesN n) (by omega) 67 [.ref [vSs on], .ref [vSs off]] en_primesI1 (fun c => !primP on off c) (fun c hc => by
  have hm := ((cubesN_mem n c).1 hc).1
  exact primesI1_spec c on off hl hl2 (by omega) (fun x hx => by rw [hb x hx, hm]) (fun x hx => by rw [hb2 x hx, hm]))
 simp only [Bool.not_not] at hD;rw [show ((cubesN n).filter fun c => primP on off c) = primesL n on off from rfl] at hD;have hpl := primesL_len n on off hn;obtain ⟨P, hP⟩ := eqx (primesL n on off);rw [← hP] at hD hpl ⊢;obtain ⟨Q, hQ⟩ := eqx (cubesN n);rw [← hQ] at hD hA hcl;refine ASpec.of Tryz.func30 rfl rfl fun C hC => ?_
 refine AC.seq (AC.region ?_);refine kD ?_;refine kD ?_;refine za ?_;refine za ?_;refine AL.nil (th_n (AC.seq (AC.region ?_)));refine zm ?_;refine kU [] en_allCubes hA ?_;refine AL.p (by exact g_fn rfl) rfl ?_;refine kU [16] en_delStr hD ?_;refine AL.p (by exact as2 rfl) rfl ?_;refine AL.nil (th_n (AC.seq ?_));refine AC.weak (Weak.freeze (i := 8) rfl rfl (Nat.le_of_eq (strsL_len _).symm) (List.take_of_length_le (Nat.le_of_eq (strsL_len _)))) ?_;refine AC.region ?_;refine zm ?_;refine zm ?_;refine kI P.length (strsL_len _) ?_;refine zc ?_;refine za ?_;refine za ?_;refine AL.nil (th_n (AC.ret (bq_r ?_)));exact ret0 rfl (by repeat (first | exact DLead.same | exact rfl | refine ⟨_, rfl, ?_⟩ | refine ⟨_, _, rfl, ?_, ?_⟩))
theorem en_primesI : Enters Tryz.prog 30 := enters_of Tryz.func30 rfl rfl
set_option maxHeartbeats 4000000 in
theorem l14Primes_spec (n : Nat) (on off : List Tx) (hn : n ≤ 8) (hl : on.length ≤ 1000000) (hl2 : off.length ≤ 1000000) (hb : ∀ x, x ∈ on → x.length = n) (hb2 : ∀ x, x ∈ off → x.length = n) : ASpec Tryz.prog 32 [aI n, .d (vSs on), .d (vSs off)] [] (Pure1 (.d (vSs (primesL n on off)))) := by
 have hA := l14Cubes_spec n hn;have hcl := cubesN_len n;have hp3 := pow3_le (Nat.le_refl n) hn;have hmem : ∀ c, c ∈ cubesN n → c.length = n := fun c h => ((cubesN_mem n c).1 h).1
 have hP0 : primesL n on off = (cubesN n).filter (primP on off) := rfl;rw [hP0];obtain ⟨Q, hQ⟩ := eqx (cubesN n);rw [← hQ] at hA hcl hmem ⊢;clear hQ hP0;have hFl := fun j => List.length_filter_le (primP on off) (Q.take j)
 refine ASpec.of Tryz.func32 rfl rfl fun C hC => ?_
 refine AC.seq (AC.region ?_);refine za ?_;refine AL.nil (th_n (AC.seq (AC.region ?_)));refine za ?_;refine AL.nil (th_n (AC.seq (AC.seq (AC.region ?_))));refine zm ?_;refine kV en_l14Cubes hA ?_;refine kI Q.length (strsL_len _) ?_;refine zm ?_;refine AL.nil (th_n (AC.block ?_));refine AC.loop (ι := Nat) (fun j => ⟨37, 300, [(1, .d (vSs on)), (2, .d (vSs off)), (7, .own 100 ((Q.take j).filter (primP on off)).length), (11, .d (vSs Q)), (12, aI Q.length), (13, aI j)], [(100, some (.arr 9 1 (strsL ((Q.take j).filter (primP on off)))))]⟩) (fun j => j ≤ Q.length) (fun j => Q.length - j) (0) ?_ (Nat.zero_le _) ?_
 ·exact (Weak.nilOwn (i := 7) (e := 9) (sz := 1) rfl (by decide)).trans (zw [(100, _)] hC)
 intro j hj;refine AC.seq (AC.region ?_);refine zc ?_;refine AL.nil (th_n (AC.seq ?_));refine AC.condD rfl (fun h0 => ?_) (fun h0 => ?_)
 ·refine AC.skip (th_n (AC.seq (AC.block (AC.seq ?_))));have hj1 : j < Q.length := by omega
  have hget := strs_at hj1;have hcm := hmem _ (List.getElem_mem hj1);have hsn := filt_sn (primP on off) hj1;have hFlj := hFl j;rw [List.length_take] at hFlj;obtain ⟨c, hc⟩ := eqx (Q[j]);rw [← hc] at hget hcm hsn;have h1 := l14Any_spec c on hl (by omega) (fun x hx => by rw [hb x hx, hcm]);have h2 := l14Any_spec c off hl2 (by omega) (fun x hx => by rw [hb2 x hx, hcm]);have h3 := l14Prime_spec c off hl2 (by omega) (fun x hx => by rw [hb2 x hx, hcm]);have hR : primP on off c = ((anyH c on && !anyH c off) && primeB c off) := rfl;obtain ⟨b1, e1⟩ := eqx (anyH c on);obtain ⟨b2, e2⟩ := eqx (anyH c off);obtain ⟨b3, e3⟩ := eqx (primeB c off);rw [← e1, ← e2, ← e3] at hR;rw [← e1] at h1;rw [← e2] at h2;rw [← e3] at h3;rw [hR] at hsn;have hh1 := h1;have hh2 := h2;have hh3 := h3;obtain ⟨T, hT⟩ := eqx ((Q.take j).filter (primP on off));rw [← hT] at hsn hFlj ⊢;clear e1 e2 e3 hR h1 h2 h3 hc hT;refine AC.region ?_;refine AL.p (by exact g_ia_view (i := j) rfl rfl rfl rfl rfl rfl hget) rfl ?_;refine zr ?_;refine za ?_;refine AL.nil (th_n (AC.seq (AC.region ?_)));refine zm ?_;refine zm ?_;refine kV en_l14Any hh1 ?_;refine zm ?_;refine AL.caseGB rfl rfl (fun h1 => ?_) (fun h1 => ?_)
  ·refine zy ?_;refine zm ?_;refine zy ?_;refine zm ?_;refine zy ?_;refine kV en_l14Any hh2 ?_;refine zy ?_;refine kC ?_;refine zQ ?_;refine zm ?_;refine AL.caseGB rfl rfl (fun h2 => ?_) (fun h2 => ?_)
   ·refine zy ?_;refine zm ?_;refine zy ?_;refine zm ?_;refine zy ?_;refine kV en_l14Prime hh3 ?_;refine zQ ?_;refine AL.nil (th_n ?_);refine AC.condB rfl (fun h3 => ?_) (fun h3 => ?_)
    ·refine AC.region ?_;refine kB ?_;refine zm ?_;refine AL.q (by exact h_litF rfl rfl rfl rfl rfl rfl rfl rfl) rfl ?_;refine AL.q (by exact h_appendSt T [c] (.own rfl rfl (strsL_len _).symm) (.view rfl) (by rw [List.length_append]; simp only [List.length_cons, List.length_nil]; omega) (by simp)) rfl ?_;refine AL.p (by exact as2 rfl) rfl ?_;refine AL.nil (ib_n (th_n (AC.region ?_)));refine zA ?_;refine zm ?_;refine AL.nil (th_n ?_)
     (have q1 := ‹b1 = true›; have q2 := ‹(!b2) = true›; have q3 := ‹b3 = true›; rw [q1, q2, q3, if_pos (by rfl)] at hsn; exact ⟨j + 1, by omega, by omega, zw [(100, _)] hC (by rw [hsn]; repeat (first | exact True.intro | refine And.intro ?_ ?_ | exact DLead.same | exact rfl | refine ⟨_, rfl, ?_⟩)) (by rw [hsn]; repeat (first | exact True.intro | refine And.intro ?_ ?_ | exact rfl | refine ⟨_, _, rfl, rfl, ?_⟩))⟩)
    refine AC.skip (ib_n (th_n (AC.region ?_)));refine zA ?_;refine zm ?_;refine AL.nil (th_n ?_)
    (have q : ((b1 && !b2) && b3) = false := (by rw [‹b3 = false›, Bool.and_false]); rw [q, if_neg (by decide), List.append_nil] at hsn; exact ⟨j + 1, by omega, by omega, zw [(100, 100)] hC (by rw [hsn]; repeat (first | exact True.intro | refine And.intro ?_ ?_ | exact DLead.same | exact rfl | refine ⟨_, rfl, ?_⟩)) (by rw [hsn]; repeat (first | exact True.intro | refine And.intro ?_ ?_ | exact rfl | refine ⟨_, _, rfl, rfl, ?_⟩))⟩)
   refine zn ?_;refine zn ?_;refine zn ?_;refine zP ?_;refine AL.nil (th_n ?_);refine AC.condF rfl ?_;refine AC.skip (ib_n (th_n (AC.region ?_)));refine zA ?_;refine zm ?_;refine AL.nil (th_n ?_)
   (have q : ((b1 && !b2) && b3) = false := (by rw [‹(!b2) = false›, Bool.and_false, Bool.false_and]); rw [q, if_neg (by decide), List.append_nil] at hsn; exact ⟨j + 1, by omega, by omega, zw [(100, 100)] hC (by rw [hsn]; repeat (first | exact True.intro | refine And.intro ?_ ?_ | exact DLead.same | exact rfl | refine ⟨_, rfl, ?_⟩)) (by rw [hsn]; repeat (first | exact True.intro | refine And.intro ?_ ?_ | exact rfl | refine ⟨_, _, rfl, rfl, ?_⟩))⟩)
  refine zn ?_;refine zn ?_;refine zn ?_;refine zn ?_;refine zP ?_;refine zm ?_;refine zn ?_;refine zn ?_;refine zn ?_;refine zP ?_;refine AL.nil (th_n ?_);refine AC.condF rfl ?_;refine AC.skip (ib_n (th_n (AC.region ?_)));refine zA ?_;refine zm ?_;refine AL.nil (th_n ?_)
  (have q : ((b1 && !b2) && b3) = false := (by rw [‹b1 = false›, Bool.false_and, Bool.false_and]); rw [q, if_neg (by decide), List.append_nil] at hsn; exact ⟨j + 1, by omega, by omega, zw [(100, 100)] hC (by rw [hsn]; repeat (first | exact True.intro | refine And.intro ?_ ?_ | exact DLead.same | exact rfl | refine ⟨_, rfl, ?_⟩)) (by rw [hsn]; repeat (first | exact True.intro | refine And.intro ?_ ?_ | exact rfl | refine ⟨_, _, rfl, rfl, ?_⟩))⟩)
 refine AC.exit (th_e (th_e (ib_y (th_n (AC.seq (AC.region ?_))))));refine kB ?_;refine AL.p (by exact as2 rfl) rfl ?_;refine AL.nil (th_n ?_);have hjj : j = Q.length := by omega
 rw [hjj, List.take_length];refine AC.weak (Weak.freeze (i := 6) rfl rfl (Nat.le_of_eq (strsL_len _).symm) (List.take_of_length_le (Nat.le_of_eq (strsL_len _)))) ?_;refine AC.ret (bq_r ?_);exact ret1 rfl rfl
theorem en_l14Primes : Enters Tryz.prog 32 := enters_of Tryz.func32 rfl rfl
theorem onoff_in {n : Int} {on off : List Tx} (h : onoffB n on off = true) : ∃ m : Nat, n = m ∧ 1 ≤ m ∧ m ≤ 8 ∧ on.length ≤ 64 ∧ off.length ≤ 256 ∧ (∀ x, x ∈ on → x.length = m ∧ bitsB x n = true) ∧ (∀ x, x ∈ off → x.length = m ∧ bitsB x n = true) ∧ ∀ x, x ∈ on → ¬ x ∈ off := by
 unfold onoffB at h;simp only [Bool.and_eq_true, decide_eq_true_eq, Bool.not_eq_true'] at h;obtain ⟨⟨h1, h2⟩, ⟨h3, h4⟩, ⟨h5, h6⟩, h7⟩ := h
 have hcd : ∀ (l : List Tx), cdsB n l = true → ∀ x, x ∈ l → x.length = n.toNat ∧ bitsB x n = true := fun l hl x hx => by
  obtain ⟨i, hi, rfl⟩ := List.getElem_of_mem hx;unfold cdsB allN at hl;have := List.all_eq_true.1 hl i (List.mem_range.2 hi);unfold cdA at this;rw [Bool.and_eq_true, tx_at hi] at this;have hb := bits_len' this.1;exact ⟨by omega, this.1⟩
 refine ⟨n.toNat, by omega, by omega, by omega, by omega, by omega, hcd on h3, hcd off h5, fun x hx hy => ?_⟩;unfold metB at h7;have := List.any_eq_false.1 h7 x hx;unfold inT at this;exact this (List.any_eq_true.2 ⟨x, hy, decide_eq_true rfl⟩)
def prR (n : Int) (on off : List Tx) : List Tx × Bool := if onoffB n on off = true ∧ (primesL n.toNat on off).length ≤ 60 then (primesL n.toNat on off, true) else ([], false)
theorem iPrimes_spec (n : Int) (on off : List Tx) (hl : on.length ≤ 1000000) (hl2 : off.length ≤ 1000000) (hb : ∀ c, c ∈ on → c.length ≤ 2000000) (hb2 : ∀ c, c ∈ off → c.length ≤ 2000000) : ASpec Tryz.prog 7 [aI n, .d (vSs on), .d (vSs off)] [] (Pure1 (.tup [.d (vSs (prR n on off).1), aT (prR n on off).2])) := by
 have hO := iOnOff_spec n on off hl hl2 hb hb2
 have hP : onoffB n on off = true → ASpec Tryz.prog 30 [aI n, .d (vSs on), .d (vSs off)] [] (Pure1 (.tup [.d (vSs (primesL n.toNat on off)), aT (decide (((primesL n.toNat on off).length : Int) ≤ 60))])) := fun h => by
  obtain ⟨m, rfl, h1, h2, _, _, h3, h4, _⟩ := onoff_in h;exact primesI_spec m on off h2 hl hl2 (fun x hx => (h3 x hx).1) (fun x hx => (h4 x hx).1)
 have hR : prR n on off = if onoffB n on off = true ∧ (primesL n.toNat on off).length ≤ 60 then (primesL n.toNat on off, true) else ([], false) := rfl
 obtain ⟨b, e⟩ := eqx (onoffB n on off);rw [← e] at hO hP hR;obtain ⟨R, hRR⟩ := eqx (prR n on off);rw [← hRR] at hR ⊢;obtain ⟨P, hPP⟩ := eqx (primesL n.toNat on off);rw [← hPP] at hP hR;obtain ⟨d, hd⟩ := eqx (decide ((P.length : Int) ≤ 60));rw [← hd] at hP;clear e hRR hPP;refine ASpec.of Tryz.func7 rfl rfl fun C hC => ?_
 refine AC.seq (AC.region ?_);refine za ?_;refine za ?_;refine AL.nil (th_n (AC.seq (AC.seq (AC.region ?_))));refine zm ?_;refine zm ?_;refine zm ?_;refine kV en_iOnOff hO ?_;refine kC ?_;refine AL.nil (th_n ?_);refine AC.condB rfl (fun h0 => ?_) (fun h0 => ?_)
 ·refine AC.seq (AC.region ?_);refine za ?_;refine za ?_;refine AL.nil (th_n (AC.ret (th_r (bq_r ?_))));have e : R = ([], false) := hR.trans (if_neg (fun q => by have w := ‹(!b) = true›; rw [q.1] at w; cases w));exact ret0 rfl (by rw [e]; show AV.leads _ (.tup [.d (vSs []), aT false]) _; repeat (first | exact DLead.same | exact DLead.nil | exact rfl | refine ⟨_, rfl, ?_⟩ | refine ⟨_, _, rfl, ?_, ?_⟩))
 refine AC.skip (th_n (AC.seq ?_));have hb1 : b = true := by have q := ‹(!b) = false›; simpa using q
 have hP1 := hP hb1;refine AC.region ?_;refine zm ?_;refine zm ?_;refine zm ?_;refine kV en_primesI hP1 ?_;refine AL.p (by exact mv5 rfl) rfl ?_;refine AL.p (by exact g_extract (r := .d _) rfl rfl) rfl ?_;refine AL.p (by exact g_extract (r := .d _) rfl rfl) rfl ?_;refine za ?_;refine za ?_;refine AL.nil (th_n (AC.seq (AC.seq (AC.region ?_))));refine zm ?_;refine kC ?_;refine AL.nil (th_n ?_);refine AC.condB rfl (fun h1 => ?_) (fun h1 => ?_)
 ·refine AC.seq (AC.region ?_);refine za ?_;refine za ?_;refine AL.nil (th_n (AC.ret (th_r (bq_r ?_))));have e : R = ([], false) := hR.trans (if_neg (fun q => by have w := ‹(!d) = true›; rw [hd, decide_eq_true (by omega)] at w; cases w));exact ret0 rfl (by rw [e]; show AV.leads _ (.tup [.d (vSs []), aT false]) _; repeat (first | exact DLead.same | exact DLead.nil | exact rfl | refine ⟨_, rfl, ?_⟩ | refine ⟨_, _, rfl, ?_, ?_⟩))
 refine AC.skip (th_n (AC.seq (AC.region ?_)));refine zm ?_;refine za ?_;refine za ?_;refine AL.nil (th_n (AC.ret (bq_r ?_)));have e : R = (P, true) := hR.trans (if_pos ⟨hb1, by have w := ‹(!d) = false›; have w2 : d = true := (by simpa using w); have := of_decide_eq_true (hd.symm.trans w2); omega⟩);exact ret0 rfl (by rw [e]; show AV.leads _ (.tup [.d (vSs P), aT true]) _; repeat (first | exact DLead.same | exact rfl | refine ⟨_, rfl, ?_⟩ | refine ⟨_, _, rfl, ?_, ?_⟩))
theorem en_iPrimes : Enters Tryz.prog 7 := enters_of Tryz.func7 rfl rfl
theorem sPrimes_spec (n : Int) (on off : List Tx) (hl : on.length ≤ 1000000) (hl2 : off.length ≤ 1000000) (hb : ∀ c, c ∈ on → c.length ≤ 2000000) (hb2 : ∀ c, c ∈ off → c.length ≤ 2000000) : ASpec Tryz.prog 8 [aI n, .d (vSs on), .d (vSs off)] [] (Pure1 (.tup [.d (vSs (prR n on off).1), aT (prR n on off).2])) := by
 have hO := l14Sets_spec n on off hl hl2 hb hb2
 have hP : onoffB n on off = true → ASpec Tryz.prog 32 [aI n, .d (vSs on), .d (vSs off)] [] (Pure1 (.d (vSs (primesL n.toNat on off)))) ∧ (primesL n.toNat on off).length ≤ 6561 := fun h => by
  obtain ⟨m, rfl, h1, h2, _, _, h3, h4, _⟩ := onoff_in h;exact ⟨l14Primes_spec m on off h2 hl hl2 (fun x hx => (h3 x hx).1) (fun x hx => (h4 x hx).1), primesL_len m on off h2⟩
 have hR : prR n on off = if onoffB n on off = true ∧ (primesL n.toNat on off).length ≤ 60 then (primesL n.toNat on off, true) else ([], false) := rfl
 obtain ⟨b, e⟩ := eqx (onoffB n on off);rw [← e] at hO hP hR;obtain ⟨R, hRR⟩ := eqx (prR n on off);rw [← hRR] at hR ⊢;obtain ⟨P, hPP⟩ := eqx (primesL n.toNat on off);rw [← hPP] at hP hR;obtain ⟨d, hd⟩ := eqx (decide ((P.length : Int) > 60));clear e hRR hPP;refine ASpec.of Tryz.func8 rfl rfl fun C hC => ?_
 refine AC.seq (AC.region ?_);refine za ?_;refine za ?_;refine AL.nil (th_n (AC.seq (AC.seq (AC.region ?_))));refine zm ?_;refine zm ?_;refine zm ?_;refine kV en_l14Sets hO ?_;refine kC ?_;refine AL.nil (th_n ?_);refine AC.condB rfl (fun h0 => ?_) (fun h0 => ?_)
 ·refine AC.seq (AC.region ?_);refine za ?_;refine za ?_;refine AL.nil (th_n (AC.ret (th_r (bq_r ?_))));have e : R = ([], false) := hR.trans (if_neg (fun q => by have w := ‹(!b) = true›; rw [q.1] at w; cases w));exact ret0 rfl (by rw [e]; show AV.leads _ (.tup [.d (vSs []), aT false]) _; repeat (first | exact DLead.same | exact DLead.nil | exact rfl | refine ⟨_, rfl, ?_⟩ | refine ⟨_, _, rfl, ?_, ?_⟩))
 refine AC.skip (th_n (AC.seq ?_));have hb1 : b = true := by have q := ‹(!b) = false›; simpa using q
 obtain ⟨hP1, hPl⟩ := hP hb1;refine AC.region ?_;refine zm ?_;refine zm ?_;refine zm ?_;refine kV en_l14Primes hP1 ?_;refine za ?_;refine AL.nil (th_n (AC.seq (AC.seq (AC.region ?_))));refine zm ?_;refine kI P.length (strsL_len _) ?_;refine AL.p (by exact g_cmp (r := d) rfl rfl (congrArg some hd.symm)) rfl ?_;refine AL.nil (th_n ?_);refine AC.condB rfl (fun h1 => ?_) (fun h1 => ?_)
 ·refine AC.seq (AC.region ?_);refine za ?_;refine za ?_;refine AL.nil (th_n (AC.ret (th_r (bq_r ?_))));have e : R = ([], false) := hR.trans (if_neg (fun q => by have w := of_decide_eq_true (hd.symm.trans ‹d = true›); omega));exact ret0 rfl (by rw [e]; show AV.leads _ (.tup [.d (vSs []), aT false]) _; repeat (first | exact DLead.same | exact DLead.nil | exact rfl | refine ⟨_, rfl, ?_⟩ | refine ⟨_, _, rfl, ?_, ?_⟩))
 refine AC.skip (th_n (AC.seq (AC.region ?_)));refine zm ?_;refine za ?_;refine za ?_;refine AL.nil (th_n (AC.ret (bq_r ?_)));have e : R = (P, true) := hR.trans (if_pos ⟨hb1, by have := of_decide_eq_false (hd.symm.trans ‹d = false›); omega⟩);exact ret0 rfl (by rw [e]; show AV.leads _ (.tup [.d (vSs P), aT true]) _; repeat (first | exact DLead.same | exact rfl | refine ⟨_, rfl, ?_⟩ | refine ⟨_, _, rfl, ?_, ?_⟩))
theorem en_sPrimes : Enters Tryz.prog 8 := enters_of Tryz.func8 rfl rfl
def rowV {α : Type} (enc : α → List Value) (x : α) : List DV := (enc x).map DV.val
theorem rowV_at {α : Type} {enc : α → List Value} {x : α} {j : Nat} (h : j < (enc x).length) : (rowV enc x)[j]? = some (.val (enc x)[j]) := by
 unfold rowV; rw [List.getElem?_map, List.getElem?_eq_getElem h]; rfl
theorem ASpec.mono {P : Program} {f : FuncId} {args : List AV} {chs : List (Nat × Chunk)} {R R' : AV → List (Nat × Chunk) → Prop} (h : ASpec P f args chs R) (hR : ∀ r chs', R r chs' → R' r chs') : ASpec P f args chs R' :=
 fun w m Fin vs h1 h2 h3 h4 h5 h6 => (h w m Fin vs h1 h2 h3 h4 h5 h6).mono fun _ _ ⟨v, r, chs', m', F', he, hr, rest⟩ => ⟨v, r, chs', m', F', he, hR _ _ hr, rest⟩
theorem divmod {i j k : Nat} (h : j < k) : (i * k + j) / k = i ∧ (i * k + j) % k = j := by
 constructor
 ·rw [Nat.mul_comm, Nat.mul_add_div (by omega), Nat.div_eq_of_lt h, Nat.add_zero]
 rw [Nat.mul_comm, Nat.mul_add_mod, Nat.mod_eq_of_lt h]
theorem flat_at {α : Type} [Inhabited α] {enc : α → List Value} {k : Nat} (hk : ∀ x, (enc x).length = k) {l : List α} {i j : Nat} (hi : i < l.length) (hj : j < k) : (Sort.flatK enc k l.toArray)[i * k + j]! = (enc l[i])[j]'(by rw [hk]; exact hj) := by
 have hlt : i * k + j < l.toArray.size * k := by
  have : (i + 1) * k ≤ l.length * k := Nat.mul_le_mul_right k (by omega);rw [Nat.add_mul, Nat.one_mul] at this;show _ < l.length * k;omega
 obtain ⟨d1, d2⟩ := divmod (i := i) hj;rw [Sort.get_flatK _ _ _ _ hlt, d1, d2];rw [getElem!_pos l.toArray i (by simpa using hi)];rw [getElem!_pos]
 rfl
theorem flatK_one {α : Type} [Inhabited α] (enc : α → Value) (d : Array α) : Sort.flatK (fun x => [enc x]) 1 d = d.map enc := by
 apply Array.ext
 ·simp [Sort.flatK]
 intro i h1 h2;have hi : i < d.size := by simpa using h2
 simp [Sort.flatK, getElem!_pos d i hi, Nat.mod_one]
theorem holds_one {α : Type} [Inhabited α] {enc : α → Value} {w : World} {blk off : Nat} {d : Array α} (h : Sort.HoldsK (fun x => [enc x]) 1 w blk off d) : Sort.Holds enc w blk off d := by
 unfold Sort.HoldsK at h;rw [flatK_one] at h;intro j hj;have := h j (by simpa using hj);rw [getElem!_pos _ j (by simpa using hj)] at this;rw [getElem!_pos _ j hj];simpa using this
theorem put_one {α : Type} [Inhabited α] (enc : α → Value) (w : World) (blk off n : Nat) (d : Array α) (os : Array Obj) : Sort.grow (Sort.putRow enc (Sort.ahead w n) blk off d) os = sortWorldK (fun x => [enc x]) 1 w blk off n d os := by
 unfold sortWorldK Sort.putRowK;rw [flatK_one];congr 1;unfold Sort.putRow;congr 1
 funext c
 unfold Sort.putCells
 apply Array.ext
 ·simp
 intro i h1 h2;simp only [Array.getElem_mapIdx, Array.size_map]
 split
 ·rename_i hc;have hi : i - off < d.size := by omega
  rw [getElem!_pos d _ hi, getElem!_pos (d.map enc) _ (by simpa using hi)];simp
 rfl
theorem ASpec.ofSortK0 {P : Program} {gs : FuncId} {t k : Nat} {α : Type} [Inhabited α] (enc : α → List Value) (hk : ∀ x, (enc x).length = k) (hk0 : 0 < k) (zs : List α) (Q : List α → Prop)
  (h : ∀ (blk off cap : Nat) (w : World), Sort.HoldsK enc k w blk off zs.toArray → blk < w.heap.size → Calls P gs #[.slice (some ⟨blk, off, none⟩) zs.length cap] w fun e w' =>
   e = .returned (.tuple #[]) ∧ ∃ (ys : List α) (n : Nat) (os : Array Obj), ys.Perm zs ∧ Q ys ∧ w' = sortWorldK enc k w blk off n ys.toArray os)
  (h0 : ∀ (p : Option Addr) (cap : Nat) (w : World), Calls P gs #[.slice p 0 cap] w fun e w' => e = .returned (.tuple #[]) ∧ w' = w) (hQ0 : zs = [] → Q []) :
  ASpec P gs [.own 0 zs.length] [(0, .arr t k (zs.map (rowV enc)))] (fun r chs => ∃ ys : List α, ys.Perm zs ∧ Q ys ∧ r = .tup [] ∧ chs = [(0, .arr t k (ys.map (rowV enc)))]) := by
 intro w m Fin vs hfin hn ha hch hinj hm;have ha0 := ha 0 _ rfl
 have hvs : vs = #[vs.getD 0 undef] := by
  apply Array.ext
  ·rw [hn]; rfl
  intro i hi1 hi2
  match i with
  | 0 => simp [Array.getD_eq_getD_getElem?, Array.getElem?_eq_getElem hi1]
  | i + 1 => simp at hi2
 obtain ⟨-, p, hp, hr⟩ := hch 0 _ rfl
 have hone : ∀ (id : Nat) (c d : Chunk), getL id [((0 : Nat), d)] = some c → id = 0 ∧ c = d := by
  intro id c d hc;rw [getL_cons] at hc
  split at hc
  ·rename_i e; simp at hc; exact ⟨e, hc.symm⟩
  simp [getL] at hc
 generalize hv0 : vs.getD 0 undef = v0 at ha0;rw [hv0] at hvs;subst hvs
 by_cases hz0 : zs = []
 ·subst hz0;cases ha0 with
  | own hq hq0 =>
   rename_i cap b;refine (h0 _ cap w).mono ?_;rintro e w' ⟨rfl, rfl⟩;refine ⟨_, _, _, m, fun k' => (Fin k' ∨ (∃ id c p, getL id [((0 : Nat), Chunk.arr t k (([] : List α).map (rowV enc)))] = some c ∧ m id = some p ∧ occ p c k') ∨ w'.heap.size ≤ k') ∧ k' < w'.heap.size ∧ ∀ id c p, getL id [((0 : Nat), Chunk.arr t k (([] : List α).map (rowV enc)))] = some c → m id = some p → ¬ occ p c k', rfl, ⟨[], .refl _, hQ0 rfl, rfl, rfl⟩, fun _ _ _ h => h, fun id hid => hm id (by simp only [List.length_singleton] at hid ⊢; omega), fun k' => Iff.rfl, ⟨rfl, rfl, rfl, Nat.le_refl _, fun _ _ _ => rfl⟩, .tup rfl (fun i c hc => by simp at hc), fun id c hc => ?_, fun id id' c c' p p' b hc hc' => ?_⟩
   ·obtain ⟨rfl, rfl⟩ := hone _ _ _ hc;refine ⟨p, hp, hr.turn (MLe.refl m) (fun k hk hlt => And.intro ⟨.inl hk, hlt, fun id c q hc hq5 => by obtain ⟨rfl, rfl⟩ := hone _ _ _ hc; exact (hfin k hk).2 0 _ q rfl hq5⟩ rfl) (fun _ _ => rfl), fun b hb => .inr ⟨0, _, p, rfl, hp, hb⟩⟩
   rw [(hone _ _ _ hc).1, (hone _ _ _ hc').1]; exact fun _ _ _ _ => rfl
 have hpos : 0 < zs.length := List.length_pos_iff.2 hz0;cases ha0 with
 | own hq hq0 =>
  rename_i cap b;cases b with
  | none => have := hq0 rfl; omega
  | some blk =>
   rw [hp] at hq;obtain rfl : p = (some blk, cap) := by simpa using hq
   cases hr with
   | arr hb hf hsz hl hmx h0' hrow hel =>
    rename_i arr fz;have hl' : zs.length ≤ cap := by simpa using hl
    have hlk : zs.length * k ≤ arr.size := by rw [hsz]; exact Nat.mul_le_mul_right k hl'
    have hcell : ∀ i (hi : i < zs.length) j (hj : j < k), arr.getD (i * k + j) undef = (enc zs[i])[j]'(by rw [hk]; exact hj) ∧ okV ((enc zs[i])[j]'(by rw [hk]; exact hj)) := by
     intro i hi j hj;have := hel i (rowV enc zs[i]) j (.val ((enc zs[i])[j]'(by rw [hk]; exact hj))) (by simp [List.getElem?_eq_getElem hi]) (rowV_at (by rw [hk]; exact hj));exact this.val_is
    have hH : Sort.HoldsK enc k w blk 0 zs.toArray := by
     intro q hq';have hq2 : q < zs.length * k := by simpa using hq'
     have hqk : q / k < zs.length := Nat.div_lt_of_lt_mul (by rwa [Nat.mul_comm] at hq2);have hqm : q % k < k := Nat.mod_lt _ hk0;have hqe : q / k * k + q % k = q := by rw [Nat.mul_comm]; exact Nat.div_add_mod q k
     have hja : q < arr.size := by omega
     have hcl := (hcell (q / k) hqk (q % k) hqm).1;have hfl := flat_at hk hqk hqm;rw [hqe] at hcl hfl;constructor
     ·unfold World.cell?;simp only [hb, Nat.zero_add, Option.isSome_none, Bool.false_eq_true, if_false];rw [Array.getD_eq_getD_getElem?, Array.getElem?_eq_getElem hja] at hcl;rw [Array.getElem?_eq_getElem hja];simp only [Option.getD_some] at hcl;rw [hcl, hfl]; rfl
     unfold World.frozen?;simp only [hb, Nat.zero_add];have := hf q hja;obtain ⟨lo, hi⟩ := fz;simp only [not_and, Nat.not_lt] at this ⊢;simpa using this
    refine (h blk 0 cap w hH (lt_of_block hb)).mono ?_;rintro e w' ⟨rfl, ys, n, os, hperm, hQ, rfl⟩;have hbw := lt_of_block hb;have hyl : ys.length = zs.length := hperm.length_eq
    have hheap : ∀ j, j < w.heap.size → (sortWorldK enc k w blk 0 n ys.toArray os).heap[j]? = if blk = j then some (.cells (Sort.putCells id 0 (Sort.flatK enc k ys.toArray) arr) t fz) else w.heap[j]? := by
     intro j hj;unfold sortWorldK Sort.grow Sort.putRowK Sort.putRow Sort.mapBlock Sort.ahead;simp only;rw [Array.getElem?_append_left (by simpa using hj), Array.getElem?_modify]
     by_cases e : blk = j
     ·subst e; rw [if_pos rfl, if_pos rfl, hb]; rfl
     rw [if_neg e, if_neg e]
    have hsize : w.heap.size ≤ (sortWorldK enc k w blk 0 n ys.toArray os).heap.size := by
     unfold sortWorldK Sort.putRowK;rw [Sort.size_grow, Sort.size_putRow]; exact Nat.le_add_right _ _
    have hold : ∀ j, Fin j → j < w.heap.size → (sortWorldK enc k w blk 0 n ys.toArray os).heap[j]? = w.heap[j]? := by
     intro j hj hlt;rw [hheap j hlt, if_neg];rintro rfl;exact (hfin blk hj).2 0 _ _ rfl hp (.inl rfl)
    refine ⟨_, _, _, m, fun k' => (Fin k' ∨ (∃ id c p, getL id [((0 : Nat), Chunk.arr t k (zs.map (rowV enc)))] = some c ∧ m id = some p ∧ occ p c k') ∨ w.heap.size ≤ k') ∧ k' < (sortWorldK enc k w blk 0 n ys.toArray os).heap.size ∧ ∀ id c p, getL id [((0 : Nat), Chunk.arr t k (ys.map (rowV enc)))] = some c → m id = some p → ¬ occ p c k', rfl, ⟨ys, hperm, hQ, rfl, rfl⟩, fun _ _ _ h => h, fun id hid => hm id (by simp only [List.length_singleton] at hid ⊢; omega), fun k' => Iff.rfl, ⟨rfl, rfl, rfl, hsize, fun k' hk' hne => ?_⟩, .tup rfl (fun i c hc => by simp at hc), fun id c hc => ?_, fun id id' c c' p p' b hc hc' => ?_⟩
    ·exact (hheap k' hk').trans (if_neg (fun e => hne 0 _ _ rfl hp (.inl (congrArg some e))))
    ·obtain ⟨rfl, rfl⟩ := hone _ _ _ hc;refine ⟨_, hp, .arr ((hheap blk hbw).trans (if_pos rfl)) (fun i hi => hf i (by simpa [Sort.putCells] using hi)) (by simpa [Sort.putCells] using hsz) (by rw [List.length_map, hyl]; exact hl') hmx h0' (fun i cs hi => ?_) (fun i cs j d hi hj => ?_), fun b hb' => .inr ⟨0, _, _, rfl, hp, hb'⟩⟩
     ·rw [List.getElem?_map, Option.map_eq_some_iff] at hi;obtain ⟨x, _, rfl⟩ := hi;unfold rowV; rw [List.length_map, hk]
     rw [List.getElem?_map, Option.map_eq_some_iff] at hi;obtain ⟨x, hx, rfl⟩ := hi;have hi' : i < ys.length := (List.getElem?_eq_some_iff.1 hx).1;have hxx : ys[i] = x := (List.getElem?_eq_some_iff.1 hx).2;have hjk : j < k := by have := (List.getElem?_eq_some_iff.1 hj).1; unfold rowV at this; rwa [List.length_map, hk] at this
     have hd : d = .val ((enc x)[j]'(by rw [hk]; exact hjk)) := by
      rw [rowV_at (by rw [hk]; exact hjk)] at hj;exact (Option.some.inj hj).symm
     subst hd;have hxm : x ∈ zs := hperm.mem_iff.1 (by rw [← hxx]; exact List.getElem_mem hi');obtain ⟨q, hq', hqx⟩ := List.getElem_of_mem hxm;have hok := (hcell q hq' j hjk).2;have hfl := flat_at hk hi' hjk
     have hlt : i * k + j < ys.length * k := by
      have : (i + 1) * k ≤ ys.length * k := Nat.mul_le_mul_right k (by omega);rw [Nat.add_mul, Nat.one_mul] at this; omega
     have hi2 : i * k + j < arr.size := by rw [hyl] at hlt; omega
     have hval : (Sort.putCells id 0 (Sort.flatK enc k ys.toArray) arr).getD (i * k + j) undef = (enc x)[j]'(by rw [hk]; exact hjk) := by
      rw [Array.getD_eq_getD_getElem?];unfold Sort.putCells;rw [Array.getElem?_mapIdx, Array.getElem?_eq_getElem hi2];simp only [Option.map_some, Option.getD_some, Nat.zero_le, true_and, Nat.zero_add, Nat.sub_zero];rw [if_pos (by simpa using hlt), hfl];simp only [id, hxx]
     rw [hval];refine .val ?_;simp only [hqx] at hok;exact hok
    rw [(hone _ _ _ hc).1, (hone _ _ _ hc').1]; exact fun _ _ _ _ => rfl
section
variable {P : Program} [PT P]
variable {s : ASt} {dst : Option Nat} {ty : Nat} {pos : String} {af : Array Edge} {gd : Option (Nat × Bool)} {x y : Operand} {t : Nat}
theorem g_ia_part {id o l e n bt sz i k : Nat} {zs : List ZK} {te : TS} {I : Int} (ht : PT.ty P t = some ⟨.slice e, n, bt, zs⟩) (he : PT.ty P e = some te) (hs : te.size = sz) (h : s.ev x = .part id o l) (hy : s.ev y = aI I) (hI : I = (i : Int)) (hi : i < l) (hk : o + i * sz = k) : GOp P [] s ⟨dst, .indexAddr t x y, ty, pos, af, gd⟩ (.ptr id k) := by
 subst hk;refine ⟨fun s' ha C U a w m hR => ?_⟩;have hx := hR.ev x;rw [ha.2.1 x (by simp [Op.operands]), h] at hx;have h2 := hR.ev y;rw [ha.2.1 y (by simp [Op.operands]), hy] at h2;obtain ⟨e2, _⟩ := h2.val_eq;generalize hv : a.eval x = v at hx;cases hx with
 | part hp h0 =>
  obtain ⟨b, rfl, rfl⟩ := h0 (by omega);refine ⟨_, ?_, .ptr hp⟩;simp only [execOp, Sem.run_bind, hv, e2, hI, run_indexAddr ht ⟨te, he, hs⟩ hi, Result.andThen_ok, Sem.run_pure]
end
theorem cloneStr_spec (l : List Tx) (hl : l.length ≤ 1000000) : ASpec Tryz.prog 34 [.d (vSs l)] [] (Fun1 (.own 0 l.length) [(0, .arr 9 1 (strsL l))]) := by
 refine ASpec.of Tryz.func34 rfl rfl fun C hC => ?_
 refine AC.seq (AC.region ?_);refine za ?_;refine AL.nil (th_n (AC.seq (AC.seq (AC.region ?_))));refine zm ?_;refine AL.eqNil (ht := rfl) (hx := rfl) rfl (fun b hb => ?_);refine AL.nil (th_n ?_);refine AC.condB rfl (fun h0 => ?_) (fun h0 => ?_)
 ·refine AC.seq (AC.region ?_);refine za ?_;refine AL.nil (th_n ?_);have e : l = [] := by have := hb h0; simpa [strsL] using this
  subst e;refine AC.weak (Weak.nilOwn (i := 2) (e := 9) (sz := 1) rfl (by decide)) ?_;refine AC.ret (th_r (bq_r ?_));exact retN [(0, _)] rfl (by repeat (first | exact rfl | refine ⟨_, rfl, ?_⟩)) (by repeat (first | exact True.intro | refine And.intro ?_ ?_ | exact rfl | refine ⟨_, _, rfl, rfl, ?_⟩)) rfl rfl
 refine AC.skip (th_n (AC.seq (AC.region ?_)));refine AL.q (by exact h_lit rfl rfl rfl rfl rfl rfl rfl rfl) rfl ?_;refine zm ?_;refine AL.q (by exact h_appendSt [] l (.own rfl rfl rfl) (.view rfl) (by simp; omega) (by simp)) rfl ?_;refine AL.p (by exact as2 rfl) rfl ?_;refine AL.nil (th_n (AC.ret (bq_r ?_)));exact retN [(0, _)] rfl (by repeat (first | exact rfl | refine ⟨_, rfl, ?_⟩)) (by repeat (first | exact True.intro | refine And.intro ?_ ?_ | exact rfl | refine ⟨_, _, rfl, rfl, ?_⟩)) rfl rfl
theorem en_cloneStr : Enters Tryz.prog 34 := enters_of Tryz.func34 rfl rfl
theorem l1OwnS_spec (l : List Tx) (hl : l.length ≤ 1000000) : ASpec Tryz.prog 39 [.d (vSs l)] [] (Fun1 (.own 0 l.length) [(0, .arr 9 1 (strsL l))]) := by
 refine ASpec.of Tryz.func39 rfl rfl fun C hC => ?_
 refine AC.seq (AC.region ?_);refine za ?_;refine AL.nil (th_n (AC.seq (AC.region ?_)));refine AL.q (by exact h_lit rfl rfl rfl rfl rfl rfl rfl rfl) rfl ?_;refine zm ?_;refine AL.q (by exact h_appendSt [] l (.own rfl rfl rfl) (.view rfl) (by simp; omega) (by simp)) rfl ?_;refine AL.p (by exact as2 rfl) rfl ?_;refine AL.nil (th_n (AC.ret (bq_r ?_)));exact retN [(0, _)] rfl (by repeat (first | exact rfl | refine ⟨_, rfl, ?_⟩)) (by repeat (first | exact True.intro | refine And.intro ?_ ?_ | exact rfl | refine ⟨_, _, rfl, rfl, ?_⟩)) rfl rfl
theorem en_l1OwnS : Enters Tryz.prog 39 := enters_of Tryz.func39 rfl rfl
theorem en_sortStr : Enters Tryz.prog 37 := enters_of Tryz.func37 rfl rfl
theorem sortStr_spec (l : List Tx) (hl : l.length ≤ 1000000) : ASpec Tryz.prog 37 [.own 0 l.length] [(0, .arr 9 1 (strsL l))] (Fun1 (.tup []) [(0, .arr 9 1 (strsL (sortT l)))]) := by
 have h := ASpec.ofSortK0 (P := Tryz.prog) (gs := 37) (t := 9) (k := 1) (α := Tx) (fun x => [encStr x]) (fun _ => rfl) (by decide) l (fun ys => ys = sortT l)
  (fun blk off cap w hH hblk => (Tryz.slices_Sort_string blk off cap l w (holds_one hH) hblk (by omega)).mono fun _ _ ⟨he, n, os, hw⟩ => ⟨he, sortT l, n, os, sortT_perm l, rfl, by rw [hw]; exact put_one encStr w blk off n _ os⟩)
  (fun p cap w => Tryz.slices_Sort_string_none p cap w)
 refine (h fun e => by rw [e, sortT_nil]).mono ?_;rintro r chs ⟨ys, h1, h2, rfl, rfl⟩;subst h2;exact ⟨rfl, rfl⟩
theorem strsL_set (l : List Tx) (k : Nat) (x : Tx) : strsL (l.set k x) = (strsL l).set k [dS (bstr x)] := by unfold strsL; rw [List.map_set]
def ddT (l : List Tx) : Nat → List Tx
 | 0 => []
 | p + 1 => ddT l p ++ (if p = 0 ∨ ¬ l.getD p [] = l.getD (p - 1) [] then [l.getD p []] else [])
theorem ddT_all {l : List Tx} : ∀ p, p ≤ l.length → (∀ j, 1 ≤ j → j < p → ¬ l.getD j [] = l.getD (j - 1) []) → ddT l p = l.take p
 | 0, _, _ => rfl
 | p + 1, hp, h => by
  have ih := ddT_all p (by omega) (fun j h1 h2 => h j h1 (by omega))
  have hc : p = 0 ∨ ¬ l.getD p [] = l.getD (p - 1) [] := by
   rcases Nat.eq_zero_or_pos p with e | e
   ·exact .inl e
   exact .inr (h p e (Nat.lt_succ_self _))
  rw [ddT, ih, if_pos hc, List.take_add_one, List.getElem?_eq_getElem (show p < l.length by omega), tx_at (show p < l.length by omega)]; rfl
structure DtI (l : List Tx) (k p : Nat) (e : List Tx) : Prop where
 len : e.length = l.length
 lt : k < p
 le : p ≤ l.length
 kept : e.take k = ddT l p
 rest : ∀ i (hi : i < l.length), p ≤ i + 1 → e.getD i [] = l[i]
theorem DtI.kl {l e : List Tx} {k p : Nat} (h : DtI l k p e) : (ddT l p).length = k := by rw [← h.kept, List.length_take]; have := h.lt; have := h.le; have := h.len; omega
theorem DtI.skip {l e : List Tx} {k p : Nat} (h : DtI l k p e) (hp : p < l.length) (hq : l.getD p [] = l.getD (p - 1) []) : DtI l k (p + 1) e :=
 ⟨h.len, by have := h.lt; omega, hp, by rw [ddT, if_neg (by rintro (q | q); (have := h.lt; omega); exact q hq), List.append_nil]; exact h.kept, fun i hi hpi => h.rest i hi (by omega)⟩
theorem DtI.move {l e : List Tx} {k p : Nat} (h : DtI l k p e) (hp : p < l.length) (hq : ¬ l.getD p [] = l.getD (p - 1) []) : DtI l (k + 1) (p + 1) (e.set k l[p]) := by
 have hl := h.len;have hlt := h.lt;refine ⟨by rw [List.length_set]; exact hl, by omega, hp, ?_, fun i hi hpi => ?_⟩
 ·rw [ddT, if_pos (.inr hq), ← h.kept, tx_at hp, List.take_add_one, List.getElem?_set_self (by omega), List.take_set_of_le (Nat.le_refl _)]; rfl
 rw [List.getD_eq_getElem?_getD, List.getElem?_set_ne (by omega), ← List.getD_eq_getElem?_getD];exact h.rest i hi (by omega)
set_option maxHeartbeats 8000000 in
theorem compactStr_spec (l : List Tx) (hl : l.length ≤ 1000000) : ASpec Tryz.prog 38 [.own 0 l.length] [(0, .arr 9 1 (strsL l))] (Fun1 (.own 0 (ddT l l.length).length) [(0, .arr 9 1 (strsL (ddT l l.length)))]) := by
 have hAll := ddT_all (l := l) l.length (Nat.le_refl _);rw [List.take_length] at hAll;refine ASpec.of Tryz.func38 rfl rfl fun C hC => ?_
 refine AC.seq (AC.region ?_);refine za ?_;refine AL.nil (th_n (AC.seq (AC.seq (AC.region ?_))));refine kB ?_;refine AL.p (by exact g_len_own (sz := 1) (els := []) (e' := 0) rfl rfl (by simp only [maxLen]; omega)) rfl ?_;refine zc ?_;refine AL.nil (th_n ?_);refine AC.condD rfl (fun h0 => ?_) (fun h0 => ?_)
 ·refine AC.seq (AC.region ?_);refine kB ?_;refine AL.p (by exact as2 rfl) rfl ?_;refine AL.nil (th_n (AC.ret (th_r (bq_r ?_))));have e := hAll (fun j h1 h2 => by omega);exact retN [] rfl (by rw [e]; repeat (first | exact rfl | refine ⟨_, rfl, ?_⟩)) (by rw [e]; repeat (first | exact True.intro | refine And.intro ?_ ?_ | exact rfl | refine ⟨_, _, rfl, rfl, ?_⟩)) rfl rfl
 refine AC.skip (th_n (AC.seq (AC.seq (AC.region ?_))));refine za ?_;refine AL.nil (th_n (AC.block ?_));refine AC.loop (ι := Nat) (fun k => ⟨61, 100, [(0, .own 0 l.length), (3, aI k)], [(0, some (.arr 9 1 (strsL l)))]⟩) (fun k => (1 ≤ k ∧ k ≤ l.length) ∧ ∀ j, 1 ≤ j → j < k → ¬ l.getD j [] = l.getD (j - 1) []) (fun k => l.length - k) (1) ?_ (⟨⟨Nat.le_refl _, by omega⟩, fun j h1 h2 => by omega⟩) ?_
 ·exact zw [] hC
 rintro k ⟨⟨hk1, hk⟩, hall⟩;refine AC.seq (AC.seq (AC.region ?_));refine zm ?_;refine kB ?_;refine AL.p (by exact g_len_own (sz := 1) (els := []) (e' := 0) rfl rfl (by simp only [maxLen]; omega)) rfl ?_;refine zc ?_;refine AL.nil (th_n ?_);refine AC.condD rfl (fun h1 => ?_) (fun h1 => ?_)
 ·refine AC.skip (th_n (AC.seq (AC.block (AC.seq ?_))));have hkl : k < l.length := by omega
  have hg1 := strs_at hkl;have hg2 := strs_at (l := l) (k := k - 1) (by omega);have hd1 := tx_at hkl;have hd2 := tx_at (l := l) (k := k - 1) (by omega);have hkI : ((k : Int) - 1) = ((k - 1 : Nat) : Int) := by omega
  refine AC.drawn' mixed_ok [[], [], [0,1], [0,1,2], [], [], [5], [4,5,6], [4,5,6,7], [0,1,2,3,4,5,6,7,8]] (by decide) ?_;refine zd 0 [] 10 (by exact mv2 rfl) ?_;refine zd 1 [] 10 (by exact mv1 rfl) ?_;refine zd 2 [0,1] 10 (by exact g_ia_own (i := k) (l := l.length) rfl rfl rfl rfl rfl rfl hkl rfl) ?_;refine zd 3 [0,1,2] 10 (by exact g_load_arr1 rfl rfl rfl rfl (by rw [Nat.mul_one]; exact hg1)) ?_;refine zd 4 [] 10 (by exact mv2 rfl) ?_;refine zd 5 [] 10 (by exact mv1 rfl) ?_;refine zd 6 [5] 10 (by exact g_arith rfl rfl rfl (by exact wrap_i64 (by omega))) ?_;refine zd 7 [4,5,6] 10 (by exact g_ia_own (i := k - 1) (l := l.length) rfl rfl rfl rfl rfl hkI (by omega) rfl) ?_;refine zd 8 [4,5,6,7] 10 (by exact g_load_arr1 rfl rfl rfl rfl (by rw [Nat.mul_one]; exact hg2)) ?_;refine zd 9 (List.range 9) 10 (by exact g_scmp rfl rfl rfl) ?_;refine zj 10 ?_;refine th_n ?_;refine AC.condD rfl (fun h2 => ?_) (fun h2 => ?_)
  ·refine AC.seq ?_;have heq : l.getD k [] = l.getD (k - 1) [] := by rw [hd1, hd2]; exact bstr_inj (by assumption)
   have hI0 : DtI l k (k + 1) l := ⟨rfl, Nat.lt_succ_self _, hkl, by rw [ddT, if_neg (by rintro (q | q); omega; exact q heq), List.append_nil]; exact (ddT_all k hk hall).symm, fun i hi _ => tx_at hi⟩;have hlk : 1 ≤ l.length - k := by omega
   refine AC.region ?_;refine kB ?_;refine zm ?_;refine AL.p (by exact g_slice_part (els := strsL l) (e' := 9) (sz := 1) (l := k) (h := l.length) rfl rfl rfl rfl rfl (.some rfl rfl) .none (by omega) (by rw [strsL_len]; exact Nat.le_refl _) (Nat.mul_one _) rfl) rfl ?_;refine AL.p (by exact as10 rfl) rfl ?_;refine AL.nil (th_n (AC.seq (AC.seq (AC.region ?_))));refine za ?_;refine AL.nil (th_n (AC.block ?_));refine AC.loop (ι := Nat × Nat × List Tx) (fun x => ⟨61, 300, [(0, .own 0 l.length), (3, aI x.1), (4, .part 0 k (l.length - k)), (5, aI x.2.1)], [(0, some (.arr 9 1 (strsL x.2.2)))]⟩) (fun x => DtI l x.1 (k + x.2.1) x.2.2 ∧ 1 ≤ x.2.1) (fun x => l.length - x.2.1) ((k, 1, l)) ?_ (⟨hI0, Nat.le_refl _⟩) ?_
   ·exact zw [] hC
   rintro ⟨q, i, e⟩ ⟨hI, hi1⟩;dsimp only at hI hi1 ⊢;have hlt := hI.lt;have hle := hI.le;have hel := hI.len;refine AC.seq (AC.seq (AC.region ?_));refine zm ?_;refine AL.p (by exact mv10 rfl) rfl ?_;refine AL.p (by exact g_len_part rfl rfl (by simp only [maxLen]; omega)) rfl ?_;refine zc ?_;refine AL.nil (th_n ?_);refine AC.condD rfl (fun h3 => ?_) (fun h3 => ?_)
   ·refine AC.skip (th_n (AC.seq (AC.block (AC.seq ?_))));have hil : k + i < l.length := by omega
    have hr1 := hI.rest (k + i) hil (by omega);have hr2 := hI.rest (k + i - 1) (by omega) (by omega);have hd1 := tx_at hil;have hd2 := tx_at (l := l) (k := k + i - 1) (by omega);have hg1 : (strsL e)[k + i * 1]? = some [dS (bstr l[k + i])] := by rw [Nat.mul_one, strs_at (by omega), ← hr1, tx_at (by omega)]
    have hg2 : (strsL e)[k + (i - 1) * 1]? = some [dS (bstr l[k + i - 1])] := by rw [Nat.mul_one, show k + (i - 1) = k + i - 1 by omega, strs_at (by omega), ← hr2, tx_at (by omega)]
    have hiI : ((i : Int) - 1) = ((i - 1 : Nat) : Int) := by omega
    have hsk := hI.skip hil;have hmv := hI.move hil;rw [hd1, hd2] at hsk hmv;obtain ⟨a, ha⟩ := eqx (l[k + i]);obtain ⟨b, hb⟩ := eqx (l[k + i - 1]);rw [← ha] at hg1 hsk hmv;rw [← hb] at hg2 hsk hmv;obtain ⟨y, hy⟩ : ∃ y, (strsL e)[q]? = some [y] := ⟨_, strs_at (by omega)⟩;clear ha hb hr1 hr2 hd1 hd2;refine AC.drawn' mixed_ok [[], [], [0,1], [0,1,2], [], [], [5], [4,5,6], [4,5,6,7], [0,1,2,3,4,5,6,7,8]] (by decide) ?_;refine zd 0 [] 10 (by exact mv10 rfl) ?_;refine zd 1 [] 10 (by exact mv1 rfl) ?_;refine zd 2 [0,1] 10 (by exact g_ia_part (i := i) (l := l.length - k) rfl rfl rfl rfl rfl rfl (by omega) rfl) ?_;refine zd 3 [0,1,2] 10 (by exact g_load_arr1 rfl rfl rfl rfl hg1) ?_;refine zd 4 [] 10 (by exact mv10 rfl) ?_;refine zd 5 [] 10 (by exact mv1 rfl) ?_;refine zd 6 [5] 10 (by exact g_arith rfl rfl rfl (by exact wrap_i64 (by omega))) ?_;refine zd 7 [4,5,6] 10 (by exact g_ia_part (i := i - 1) (l := l.length - k) rfl rfl rfl rfl rfl hiI (by omega) rfl) ?_;refine zd 8 [4,5,6,7] 10 (by exact g_load_arr1 rfl rfl rfl rfl hg2) ?_;refine zd 9 (List.range 9) 10 (by exact g_scmp rfl rfl rfl) ?_;refine zj 10 ?_;refine th_n ?_;refine AC.condND rfl (fun h4 => ?_) (fun h4 => ?_)
    ·refine AC.seq (AC.region ?_);refine kB ?_;refine zm ?_;refine AL.p (by exact mv10 rfl) rfl ?_;refine zm ?_;refine AL.p (by exact g_ia_part (i := i) (l := l.length - k) rfl rfl rfl rfl rfl rfl (by omega) rfl) rfl ?_;refine AL.p (by exact g_load_arr1 rfl rfl rfl rfl hg1) rfl ?_;refine AL.p (by exact g_ia_own (i := q) (l := l.length) rfl rfl rfl rfl rfl rfl (by omega) rfl) rfl ?_;refine AL.q (by exact h_store_arr (i := q) (j := 0) (d := dS (bstr a)) rfl rfl rfl rfl .same rfl hy (by decide)) rfl ?_;refine AL.nil (th_n (AC.region ?_));refine zm ?_;refine zA ?_;refine za ?_;refine AL.nil (ib_n (th_n (AC.region ?_)));refine zm ?_;refine zA ?_;refine za ?_;refine AL.nil (th_n ?_)
     (have e2 := hmv (fun w => absurd (congrArg bstr w) (by assumption)); exact ⟨(q + 1, i + 1, e.set q a), ⟨e2, by dsimp only; omega⟩, by dsimp only; omega, zw [] hC (b := by rw [strsL_set]; repeat (first | exact True.intro | refine And.intro ?_ ?_ | exact rfl | refine ⟨_, _, rfl, rfl, ?_⟩))⟩)
    refine AC.skip (ib_n (th_n (AC.region ?_)));refine zm ?_;refine zA ?_;refine za ?_;refine AL.nil (th_n ?_)
    (have e2 := hsk (bstr_inj (by assumption)); exact ⟨(q, i + 1, e), ⟨e2, by dsimp only; omega⟩, by dsimp only; omega, zw [] hC⟩)
   refine AC.exit (th_e (th_e (ib_y (th_n (AC.seq ?_)))));have hii : k + i = l.length := by omega
   rw [hii] at hI;have hkl := hI.kl;have hst : (strsL e).take q = strsL (ddT l l.length) := by rw [← hI.kept]; unfold strsL; rw [List.map_take]
   refine AC.region ?_;refine kB ?_;refine zm ?_;refine AL.p (by exact g_slice_part (els := strsL e) (e' := 9) (sz := 1) (l := q) (h := l.length) rfl rfl rfl rfl rfl (.some rfl rfl) .none (by omega) (by rw [strsL_len]; omega) rfl rfl) rfl ?_;refine AL.q (by exact h_clear (i := q) (q := l.length - q) (els := strsL e) (e' := 9) (sz := 1) rfl rfl rfl rfl rfl rfl (by omega) (by rw [strsL_len]; omega)) rfl ?_;refine AL.nil (th_n (AC.seq (AC.region ?_)));refine kB ?_;refine zm ?_;refine AL.p (by exact g_slice_own (els := (strsL e).take q) (e' := 9) (sz := 1) rfl rfl rfl rfl (.some rfl rfl) (by rw [List.length_take, strsL_len]; omega)) rfl ?_;refine AL.p (by exact as2 rfl) rfl ?_;refine AL.nil (th_n (AC.ret (ib_r (th_r (th_r (ib_r (th_r (bq_r ?_))))))));exact retN [] rfl (by rw [hkl]; repeat (first | exact rfl | refine ⟨_, rfl, ?_⟩)) (by rw [← hst]; repeat (first | exact True.intro | refine And.intro ?_ ?_ | exact rfl | refine ⟨_, _, rfl, rfl, ?_⟩)) rfl rfl
  refine AC.skip (ib_n (th_n (AC.region ?_)));refine zm ?_;refine zA ?_;refine za ?_;refine AL.nil (th_n ?_);have hne : ¬ l.getD k [] = l.getD (k - 1) [] := by rw [hd1, hd2]; exact fun e => absurd (congrArg bstr e) (by assumption)
  exact ⟨k + 1, ⟨⟨by omega, by omega⟩, fun j h1 h2 => by rcases Nat.lt_succ_iff_lt_or_eq.1 h2 with q | rfl; exact hall j h1 q; exact hne⟩, by omega, zw [] hC⟩
 refine AC.exit (th_e (th_e (ib_y (th_n (AC.seq (AC.region ?_))))));refine kB ?_;refine AL.p (by exact as2 rfl) rfl ?_;refine AL.nil (th_n (AC.ret (bq_r ?_)));have e := hAll (fun j h1 h2 => hall j h1 (by omega));exact retN [] rfl (by rw [e]; repeat (first | exact rfl | refine ⟨_, rfl, ?_⟩)) (by rw [e]; repeat (first | exact True.intro | refine And.intro ?_ ?_ | exact rfl | refine ⟨_, _, rfl, rfl, ?_⟩)) rfl rfl
theorem en_compactStr : Enters Tryz.prog 38 := enters_of Tryz.func38 rfl rfl
theorem dt_sorted {l : List Tx} (h : l.Pairwise (fun a b => a ≤ b)) : ∀ p, p ≤ l.length → (ddT l p).Pairwise (fun a b => a < b) ∧ (∀ x, x ∈ ddT l p ↔ x ∈ l.take p) ∧ ∀ x, x ∈ ddT l p → 1 ≤ p ∧ x ≤ l.getD (p - 1) []
 | 0, _ => ⟨List.Pairwise.nil, fun x => by simp [ddT], fun x hx => by cases hx⟩
 | p + 1, hp => by
  obtain ⟨h1, h2, h3⟩ := dt_sorted h p (by omega);have hpl : p < l.length := by omega
  have hle : ∀ x, x ∈ l.take p → x ≤ l[p] := fun x hx => by
   obtain ⟨j, hj, rfl⟩ := List.mem_take_iff_getElem.1 hx;exact (List.pairwise_iff_getElem.1 h) j p (by omega) hpl (by omega)
  have htk : l.take (p + 1) = l.take p ++ [l[p]] := by rw [List.take_add_one, List.getElem?_eq_getElem hpl]; rfl
  rw [ddT, tx_at hpl, Nat.add_sub_cancel, tx_at hpl, htk]
  split
  ·rename_i q;refine ⟨?_, fun x => ?_, fun x hx => ⟨by omega, ?_⟩⟩
   ·rw [List.pairwise_append];refine ⟨h1, List.pairwise_singleton _ _, fun a ha b hb => ?_⟩;obtain rfl := List.mem_singleton.1 hb;obtain ⟨g1, g2⟩ := h3 a ha;rcases q with q | q
    ·omega
    have hd := tx_at (l := l) (k := p - 1) (by omega);have := hle _ (List.mem_take_iff_getElem.2 ⟨p - 1, by omega, rfl⟩);rw [hd] at q g2;exact tx_lt_of (tx_le_trans g2 this) fun e => q (tx_le_anti (e ▸ g2) this)
   ·rw [List.mem_append, List.mem_append, h2]
   rcases List.mem_append.1 hx with q2 | q2
   ·exact hle x ((h2 x).1 q2)
   rw [List.mem_singleton.1 q2]; exact List.le_refl _
  rename_i q;rw [List.append_nil];have hp0 : ¬ p = 0 := fun e => q (.inl e)
  have hq : l[p] = l.getD (p - 1) [] := Classical.byContradiction fun e => q (.inr e)
  have hd := tx_at (l := l) (k := p - 1) (by omega);have hm : l[p] ∈ l.take p := by rw [hq, hd]; exact List.mem_take_iff_getElem.2 ⟨p - 1, by omega, rfl⟩
  refine ⟨h1, fun x => ?_, fun x hx => ⟨by omega, hle x ((h2 x).1 hx)⟩⟩;rw [h2, List.mem_append, List.mem_singleton];constructor
  ·exact .inl
  rintro (g | rfl)
  ·exact g
  exact hm
theorem tx_nd {l : List Tx} (h : l.Pairwise (fun x y => x < y)) : l.Nodup := by
 refine List.Pairwise.imp (R := fun x y : Tx => x < y) ?_ h;intro a b q e;subst e;exact tx_irr _ q
theorem dt_set (l : List Tx) : (ddT (sortT l) l.length).Pairwise (fun x y => x < y) ∧ ∀ x, x ∈ ddT (sortT l) l.length ↔ x ∈ l := by
 obtain ⟨h1, h2, _⟩ := dt_sorted (sortT_le l) l.length (by rw [sortT_len]; exact Nat.le_refl _);refine ⟨h1, fun x => ?_⟩;rw [h2, ← sortT_len l, List.take_length];exact (sortT_perm l).mem_iff
theorem dt_nodup {l : List Tx} (h : l.Nodup) : (ddT (sortT l) l.length).length = l.length := by
 obtain ⟨h1, h2⟩ := dt_set l;exact ((List.perm_ext_iff_of_nodup (tx_nd h1) h).2 h2).length_eq
def litP (c : Tx) (i : Nat) : Nat := ((c.take i).filter fun b => !decide ((b.toNat : Int) = 45)).length
theorem litP_succ {c : Tx} {i : Nat} (h : i < c.length) : litP c (i + 1) = litP c i + (if (!decide (at1 c i = 45)) = true then 1 else 0) := by
 unfold litP;rw [filt_sn _ h, List.length_append];congr 1;have e : at1 c i = (c[i].toNat : Int) := by unfold at1; rw [List.getD_eq_getElem?_getD, List.getElem?_eq_getElem h]; rfl
 rw [e]
 split <;> rfl
theorem litP_all (c : Tx) : litP c c.length = litC c := by unfold litP litC; rw [List.take_length]
theorem litP_le (c : Tx) (i : Nat) : litP c i ≤ c.length := by
 unfold litP;have h1 := List.length_filter_le (fun b : UInt8 => !decide ((b.toNat : Int) = 45)) (c.take i);rw [List.length_take] at h1;omega
theorem litS_snoc {l : List Tx} {j : Nat} (h : j < l.length) : litS (l.take (j + 1)) = litS (l.take j) + litC l[j] := by
 unfold litS;rw [List.take_add_one, List.getElem?_eq_getElem h, List.map_append, List.sum_append];simp
theorem litS_le {l : List Tx} (hb : ∀ c, c ∈ l → c.length ≤ 1000) : ∀ j, j ≤ l.length → litS (l.take j) ≤ j * 1000
 | 0, _ => Nat.le_refl _
 | j + 1, h => by
  have ih := litS_le hb j (by omega);rw [litS_snoc (by omega)];have h1 := litP_le l[j] l[j].length;rw [litP_all] at h1;have := hb _ (List.getElem_mem (by omega : j < l.length));omega
set_option maxHeartbeats 4000000 in
theorem literalsI_spec (l : List Tx) (hl : l.length ≤ 1000000) (hb : ∀ c, c ∈ l → c.length ≤ 1000) : ASpec Tryz.prog 54 [.d (vSs l)] [] (Pure1 (aI (litS l : Nat))) := by
 have hS := fun j hj => litS_le hb j hj
 refine ASpec.of Tryz.func54 rfl rfl fun C hC => ?_
 refine AC.seq (AC.region ?_);refine za ?_;refine AL.nil (th_n (AC.seq (AC.region ?_)));refine za ?_;refine AL.nil (th_n (AC.seq (AC.seq (AC.region ?_))));refine zm ?_;refine kI l.length (strsL_len _) ?_;refine zm ?_;refine AL.nil (th_n (AC.block ?_));refine AC.loop (ι := Nat) (fun j => ⟨27, 100, [(3, aI (litS (l.take j) : Nat)), (7, .d (vSs l)), (8, aI l.length), (9, aI j)], []⟩) (fun j => j ≤ l.length) (fun j => l.length - j) (0) ?_ (Nat.zero_le _) ?_
 ·exact Weak.ren _ [] hC rfl (by repeat (first | exact True.intro | refine And.intro ?_ ?_ | exact DLead.same)) (by repeat (exact True.intro)) rfl rfl rfl
 intro j hj;refine AC.seq (AC.region ?_);refine zc ?_;refine AL.nil (th_n (AC.seq ?_));refine AC.condD rfl (fun h0 => ?_) (fun h0 => ?_)
 ·refine AC.skip (th_n (AC.seq (AC.block (AC.seq ?_))));have hj1 : j < l.length := by omega
  have hget := strs_at hj1;have hsn := litS_snoc hj1;have hSj := hS j hj;have hbc := hb _ (List.getElem_mem hj1);obtain ⟨c, hc⟩ := eqx (l[j]);rw [← hc] at hget hsn hbc;obtain ⟨N, hN⟩ := eqx (litS (l.take j));rw [← hN] at hsn hSj ⊢;clear hc hN;refine AC.region ?_;refine AL.p (by exact g_ia_view (i := j) rfl rfl rfl rfl rfl rfl hget) rfl ?_;refine zr ?_;refine za ?_;refine AL.nil (th_n (AC.seq (AC.region ?_)));refine zm ?_;refine AL.p (by exact g_len_str (k := c.length) rfl rfl (by rw [bstr_size])) rfl ?_;refine zm ?_;refine AL.nil (th_n (AC.block ?_));refine AC.loop (ι := Nat) (fun i => ⟨27, 200, [(3, aI (N + litP c i : Nat)), (5, aS (bstr c)), (7, .d (vSs l)), (8, aI l.length), (9, aI j), (14, aI c.length), (15, aI i)], []⟩) (fun i => i ≤ c.length) (fun i => c.length - i) (0) ?_ (Nat.zero_le _) ?_
  ·exact Weak.ren _ [] hC rfl (by repeat (first | exact True.intro | refine And.intro ?_ ?_ | exact DLead.same)) (by repeat (exact True.intro)) rfl rfl rfl
  intro i hi;refine AC.seq (AC.region ?_);refine zc ?_;refine AL.nil (th_n (AC.seq ?_));refine AC.condD rfl (fun h1 => ?_) (fun h1 => ?_)
  ·refine AC.skip (th_n (AC.seq (AC.block (AC.seq ?_))));have hi1 : i < c.length := by omega
   have hgi := bstr_getD hi1;have hlp := litP_succ hi1;have hll := litP_le c i;obtain ⟨d, hd⟩ := eqx (!decide (at1 c i = 45));rw [← hd] at hlp;obtain ⟨M, hM⟩ := eqx (litP c i);rw [← hM] at hlp hll ⊢;clear hM;refine AC.region ?_;refine zm ?_;refine za ?_;refine AL.nil (th_n (AC.seq (AC.region ?_)));refine zm ?_;refine zm ?_;refine AL.p (by exact g_index (i := i) rfl rfl rfl rfl hgi) rfl ?_;refine AL.p (by exact g_cmp (r := d) rfl rfl (congrArg some hd.symm)) rfl ?_;refine AL.nil (th_n ?_);refine AC.condB rfl (fun h2 => ?_) (fun h2 => ?_)
   ·refine AC.region ?_;refine zm ?_;refine zA ?_;refine za ?_;refine AL.nil (ib_n (th_n (AC.region ?_)));refine zA ?_;refine zm ?_;refine AL.nil (th_n ?_)
    (have q := ‹d = true›; rw [if_pos q] at hlp; exact ⟨i + 1, by omega, by omega, Weak.ren _ [] hC rfl (by rw [hlp, show ((N + (M + 1) : Nat) : Int) = ((N + M : Nat) : Int) + 1 by omega]; repeat (first | exact True.intro | refine And.intro ?_ ?_ | exact DLead.same)) (by repeat (exact True.intro)) rfl rfl rfl⟩)
   refine AC.skip (ib_n (th_n (AC.region ?_)));refine zA ?_;refine zm ?_;refine AL.nil (th_n ?_)
   (have q := ‹d = false›; rw [if_neg (by rw [q]; decide), Nat.add_zero] at hlp; exact ⟨i + 1, by omega, by omega, Weak.ren _ [] hC rfl (by rw [hlp]; repeat (first | exact True.intro | refine And.intro ?_ ?_ | exact DLead.same)) (by repeat (exact True.intro)) rfl rfl rfl⟩)
  refine AC.exit (th_e (th_e (ib_y (ib_n (th_n (AC.region ?_))))));refine zA ?_;refine zm ?_;refine AL.nil (th_n ?_);have hii : i = c.length := by omega
  rw [hii, litP_all, ← hsn];exact ⟨j + 1, by omega, by omega, Weak.ren _ [] hC rfl (by repeat (first | exact True.intro | refine And.intro ?_ ?_ | exact DLead.same)) (by repeat (exact True.intro)) rfl rfl rfl⟩
 refine AC.exit (th_e (th_e (ib_y (th_n (AC.seq ?_)))));have hjj : j = l.length := by omega
 rw [hjj, List.take_length];refine AC.region ?_;refine zm ?_;refine za ?_;refine AL.nil (th_n (AC.ret (bq_r ?_)));exact ret1 rfl rfl
theorem en_literalsI : Enters Tryz.prog 54 := enters_of Tryz.func54 rfl rfl
set_option maxHeartbeats 4000000 in
theorem l14Lits_spec (l : List Tx) (hl : l.length ≤ 1000000) (hb : ∀ c, c ∈ l → c.length ≤ 1000) : ASpec Tryz.prog 56 [.d (vSs l)] [] (Pure1 (aI (litS l : Nat))) := by
 have hS := fun j hj => litS_le hb j hj
 refine ASpec.of Tryz.func56 rfl rfl fun C hC => ?_
 refine AC.seq (AC.region ?_);refine za ?_;refine AL.nil (th_n (AC.seq (AC.region ?_)));refine za ?_;refine AL.nil (th_n (AC.seq (AC.seq (AC.region ?_))));refine zm ?_;refine kI l.length (strsL_len _) ?_;refine zm ?_;refine AL.nil (th_n (AC.block ?_));refine AC.loop (ι := Nat) (fun j => ⟨27, 100, [(3, aI (litS (l.take j) : Nat)), (7, .d (vSs l)), (8, aI l.length), (9, aI j)], []⟩) (fun j => j ≤ l.length) (fun j => l.length - j) (0) ?_ (Nat.zero_le _) ?_
 ·exact Weak.ren _ [] hC rfl (by repeat (first | exact True.intro | refine And.intro ?_ ?_ | exact DLead.same)) (by repeat (exact True.intro)) rfl rfl rfl
 intro j hj;refine AC.seq (AC.region ?_);refine zc ?_;refine AL.nil (th_n (AC.seq ?_));refine AC.condD rfl (fun h0 => ?_) (fun h0 => ?_)
 ·refine AC.skip (th_n (AC.seq (AC.block (AC.seq ?_))));have hj1 : j < l.length := by omega
  have hget := strs_at hj1;have hsn := litS_snoc hj1;have hSj := hS j hj;have hbc := hb _ (List.getElem_mem hj1);obtain ⟨c, hc⟩ := eqx (l[j]);rw [← hc] at hget hsn hbc;obtain ⟨N, hN⟩ := eqx (litS (l.take j));rw [← hN] at hsn hSj ⊢;clear hc hN;refine AC.region ?_;refine AL.p (by exact g_ia_view (i := j) rfl rfl rfl rfl rfl rfl hget) rfl ?_;refine zr ?_;refine za ?_;refine AL.nil (th_n (AC.seq (AC.region ?_)));refine za ?_;refine AL.nil (th_n (AC.block ?_));refine AC.loop (ι := Nat) (fun i => ⟨27, 200, [(3, aI (N + litP c i : Nat)), (5, aS (bstr c)), (6, aI i), (7, .d (vSs l)), (8, aI l.length), (9, aI j)], []⟩) (fun i => i ≤ c.length) (fun i => c.length - i) (0) ?_ (Nat.zero_le _) ?_
  ·exact Weak.ren _ [] hC rfl (by repeat (first | exact True.intro | refine And.intro ?_ ?_ | exact DLead.same)) (by repeat (exact True.intro)) rfl rfl rfl
  intro i hi;refine AC.seq (AC.seq (AC.region ?_));refine zm ?_;refine zm ?_;refine AL.p (by exact g_len_str (k := c.length) rfl rfl (by rw [bstr_size])) rfl ?_;refine zc ?_;refine AL.nil (th_n ?_);refine AC.condD rfl (fun h1 => ?_) (fun h1 => ?_)
  ·refine AC.skip (th_n (AC.seq (AC.block (AC.seq ?_))));have hi1 : i < c.length := by omega
   have hgi := bstr_getD hi1;have hlp := litP_succ hi1;have hll := litP_le c i;obtain ⟨d, hd⟩ := eqx (!decide (at1 c i = 45));rw [← hd] at hlp;obtain ⟨M, hM⟩ := eqx (litP c i);rw [← hM] at hlp hll ⊢;clear hM;refine AC.region ?_;refine zm ?_;refine zm ?_;refine AL.p (by exact g_index (i := i) rfl rfl rfl rfl hgi) rfl ?_;refine AL.p (by exact g_cmp (r := d) rfl rfl (congrArg some hd.symm)) rfl ?_;refine AL.nil (th_n ?_);refine AC.condB rfl (fun h2 => ?_) (fun h2 => ?_)
   ·refine AC.region ?_;refine zm ?_;refine zA ?_;refine za ?_;refine AL.nil (ib_n (th_n (AC.region ?_)));refine zm ?_;refine zA ?_;refine za ?_;refine AL.nil (th_n ?_)
    (have q := ‹d = true›; rw [if_pos q] at hlp; exact ⟨i + 1, by omega, by omega, Weak.ren _ [] hC rfl (by rw [hlp, show ((N + (M + 1) : Nat) : Int) = ((N + M : Nat) : Int) + 1 by omega]; repeat (first | exact True.intro | refine And.intro ?_ ?_ | exact DLead.same)) (by repeat (exact True.intro)) rfl rfl rfl⟩)
   refine AC.skip (ib_n (th_n (AC.region ?_)));refine zm ?_;refine zA ?_;refine za ?_;refine AL.nil (th_n ?_)
   (have q := ‹d = false›; rw [if_neg (by rw [q]; decide), Nat.add_zero] at hlp; exact ⟨i + 1, by omega, by omega, Weak.ren _ [] hC rfl (by rw [hlp]; repeat (first | exact True.intro | refine And.intro ?_ ?_ | exact DLead.same)) (by repeat (exact True.intro)) rfl rfl rfl⟩)
  refine AC.exit (th_e (th_e (ib_y (ib_n (th_n (AC.region ?_))))));refine zA ?_;refine zm ?_;refine AL.nil (th_n ?_);have hii : i = c.length := by omega
  rw [hii, litP_all, ← hsn];exact ⟨j + 1, by omega, by omega, Weak.ren _ [] hC rfl (by repeat (first | exact True.intro | refine And.intro ?_ ?_ | exact DLead.same)) (by repeat (exact True.intro)) rfl rfl rfl⟩
 refine AC.exit (th_e (th_e (ib_y (th_n (AC.seq ?_)))));have hjj : j = l.length := by omega
 rw [hjj, List.take_length];refine AC.region ?_;refine zm ?_;refine za ?_;refine AL.nil (th_n (AC.ret (bq_r ?_)));exact ret1 rfl rfl
theorem en_l14Lits : Enters Tryz.prog 56 := enters_of Tryz.func56 rfl rfl
theorem bit_two {b : UInt8} (h : bit b = true) : b = 48 ∨ b = 49 := by
 unfold bit at h;rw [Bool.or_eq_true, decide_eq_true_eq, decide_eq_true_eq] at h;rcases h with h | h
 ·exact .inl (UInt8.toNat_inj.1 (show b.toNat = 48 by omega))
 exact .inr (UInt8.toNat_inj.1 (show b.toNat = 49 by omega))
theorem app_lt : ∀ {a b : Tx} (x y : Tx), a.length = b.length → a < b → a ++ x < b ++ y
 | [], [], _, _, _, h => absurd h (tx_irr _)
 | [], _ :: _, _, _, hl, _ => by cases hl
 | _ :: _, [], _, _, hl, _ => by cases hl
 | c :: a, d :: b, x, y, hl, h => by
  rw [List.cons_lt_cons_iff] at h;rw [List.cons_append, List.cons_append, List.cons_lt_cons_iff];rcases h with h | ⟨h1, h2⟩
  ·exact .inl h
  exact .inr ⟨h1, app_lt x y (by simpa using hl) h2⟩
theorem app_lt_same : ∀ (a : Tx) {x y : Tx}, x < y → a ++ x < a ++ y
 | [], _, _, h => h
 | c :: a, _, _, h => by rw [List.cons_append, List.cons_append, List.cons_lt_cons_iff]; exact .inr ⟨rfl, app_lt_same a h⟩
theorem cubesN_sorted : ∀ n, (cubesN n).Pairwise (fun a b => a < b)
 | 0 => List.pairwise_singleton _ _
 | n + 1 => by
  have ih := cubesN_sorted n;show ((cubesN n).flatMap fun c => [c ++ [45], c ++ [48], c ++ [49]]).Pairwise _;rw [List.pairwise_flatMap];refine ⟨fun c _ => ?_, ?_⟩
  ·have h1 : c ++ [45] < c ++ [48] := app_lt_same c (by decide);have h2 : c ++ [48] < c ++ [49] := app_lt_same c (by decide);refine List.Pairwise.cons (fun y hy => ?_) (List.Pairwise.cons (fun y hy => ?_) (List.pairwise_singleton _ _))
   ·have : y = c ++ [48] ∨ y = c ++ [49] := by simpa using hy
    rcases this with rfl | rfl
    ·exact h1
    exact tx_lt_trans h1 h2
   rw [List.mem_singleton.1 hy]; exact h2
  have hm := fun c h => ((cubesN_mem n c).1 h).1
  have hall : ∀ a, a ∈ cubesN n → ∀ b, b ∈ cubesN n → a < b → ∀ x, x ∈ ([a ++ [45], a ++ [48], a ++ [49]] : List Tx) → ∀ y, y ∈ ([b ++ [45], b ++ [48], b ++ [49]] : List Tx) → x < y := fun a ha b hb hab x hx y hy => by
   obtain ⟨u, rfl⟩ : ∃ u, x = a ++ u := by
    have : x = a ++ [45] ∨ x = a ++ [48] ∨ x = a ++ [49] := by simpa using hx
    rcases this with h | h | h <;> exact ⟨_, h⟩
   obtain ⟨v, rfl⟩ : ∃ v, y = b ++ v := by
    have : y = b ++ [45] ∨ y = b ++ [48] ∨ y = b ++ [49] := by simpa using hy
    rcases this with h | h | h <;> exact ⟨_, h⟩
   exact app_lt u v (by rw [hm a ha, hm b hb]) hab
  exact ih.imp_of_mem fun {a b} ha hb hab => hall a ha b hb hab
theorem primesL_sorted (n : Nat) (on off : List Tx) : (primesL n on off).Pairwise (fun a b => a < b) := (cubesN_sorted n).sublist List.filter_sublist
theorem primesL_mem {n : Nat} {on off : List Tx} {p : Tx} (h : p ∈ primesL n on off) : p.length = n ∧ anyH p off = false ∧ p.all lit3 = true := by
 obtain ⟨h1, h2⟩ := List.mem_filter.1 h;obtain ⟨h3, h4⟩ := (cubesN_mem n p).1 h1;unfold primP at h2;simp only [Bool.and_eq_true, Bool.not_eq_true'] at h2;exact ⟨h3, h2.1.2, List.all_eq_true.2 fun b hb => by rcases h4 b hb with e | e | e <;> rw [e] <;> decide⟩
theorem hasC_iff {a b : Tx} : hasC a b = true ↔ ∀ i, i < a.length → at1 a i = 45 ∨ at1 a i = at1 b i := by
 unfold hasC allN okAt;rw [List.all_eq_true];simp only [List.mem_range, Bool.or_eq_true, decide_eq_true_eq]
theorem at1_set {c : Tx} {i j : Nat} (h : i < c.length) : at1 (c.set i 45) j = if i = j then 45 else at1 c j := by
 unfold at1;rw [List.getD_eq_getElem?_getD, List.getElem?_set]
 by_cases e : i = j
 ·subst e; rw [if_pos rfl, if_pos h, if_pos rfl]; rfl
 rw [if_neg e, if_neg e, List.getD_eq_getElem?_getD]
theorem has_set {c x : Tx} {i : Nat} (hi : i < c.length) (h : hasC c x = true) : hasC (c.set i 45) x = true := by
 rw [hasC_iff] at h ⊢;intro j hj;rw [List.length_set] at hj;rw [at1_set hi]
 split
 ·exact .inl rfl
 exact h j hj
theorem lit_set {c : Tx} {i : Nat} (hi : i < c.length) (h : ¬ at1 c i = 45) : litC (c.set i 45) < litC c := by
 have hc : c = c.take i ++ c[i] :: c.drop (i + 1) := by rw [List.getElem_cons_drop, List.take_append_drop]
 have e : at1 c i = (c[i].toNat : Int) := by unfold at1; rw [List.getD_eq_getElem?_getD, List.getElem?_eq_getElem hi]; rfl
 rw [e] at h;unfold litC;rw [List.set_eq_take_append_cons_drop, if_pos hi]
 conv => rhs; rw [hc]
 rw [List.filter_append, List.filter_append, List.filter_cons, List.filter_cons, if_neg (by decide), if_pos (by rw [decide_eq_false h]; rfl)];simp only [List.length_append, List.length_cons];omega
theorem prime_up {n : Nat} {on off : List Tx} {x : Tx} (hx : x ∈ on) : ∀ (k : Nat) (c : Tx), litC c ≤ k → c ∈ cubesN n → hasC c x = true → anyH c off = false → ∃ p, p ∈ primesL n on off ∧ hasC p x = true
 | k, c, hk, hc, hcx, hco => by
  cases hp : primeB c off with
  | true => exact ⟨c, List.mem_filter.2 ⟨hc, by unfold primP; rw [hp, hco, show anyH c on = true from List.any_eq_true.2 ⟨x, hx, hcx⟩]; rfl⟩, hcx⟩
  | false =>
   unfold primeB allN at hp;obtain ⟨i, hi, hf⟩ := List.all_eq_false.1 hp;have hi := List.mem_range.1 hi;unfold prmA at hf;simp only [Bool.or_eq_true, decide_eq_true_eq, not_or, Bool.not_eq_true] at hf;have hl := lit_set hi hf.1;have hm := (cubesN_mem n c).1 hc;cases k with
   | zero => omega
   | succ k =>
    exact prime_up hx k (c.set i 45) (by omega) ((cubesN_mem n _).2 ⟨by rw [List.length_set]; exact hm.1, fun b hb => by
     rcases List.mem_or_eq_of_mem_set hb with h | h
     ·exact hm.2 b h
     exact .inl h⟩) (has_set hi hcx) hf.2
theorem bits_cube {x : Tx} {n : Nat} (h : bitsB x n = true) : x ∈ cubesN n := by
 rw [cubesN_mem];have hl := bits_len' h;refine ⟨by omega, fun b hb => ?_⟩;unfold bitsB at h;rw [Bool.and_eq_true] at h;have := List.all_eq_true.1 h.1 b hb;rcases bit_two this with e | e
 ·exact .inr (.inl e)
 exact .inr (.inr e)
theorem has_same {x y : Tx} {n : Nat} (hx : bitsB x n = true) (hy : y.length = x.length) (h : hasC x y = true) : x = y := by
 refine ext_getD hy.symm fun j hj => ?_
 rw [hasC_iff] at h;rcases h j hj with e | e
 ·exfalso;unfold bitsB at hx;rw [Bool.and_eq_true] at hx;have := List.all_eq_true.1 hx.1 x[j] (List.getElem_mem hj);have e2 : at1 x j = (x[j].toNat : Int) := by unfold at1; rw [List.getD_eq_getElem?_getD, List.getElem?_eq_getElem hj]; rfl
  rcases bit_two this with q | q <;> rw [e2, q] at e <;> exact absurd e (by decide)
 unfold at1 at e;exact UInt8.toNat_inj.1 (by omega)
theorem primes_cover {n : Int} {on off : List Tx} (h : onoffB n on off = true) : covers (primesL n.toNat on off) on := by
 obtain ⟨m, rfl, h1, h2, _, _, h3, h4, h5⟩ := onoff_in h;intro x hx;obtain ⟨hl, hb⟩ := h3 x hx;refine prime_up hx (litC x) x (Nat.le_refl _) (bits_cube hb) (hasC_iff.2 fun i _ => .inr rfl) (List.any_eq_false.2 fun y hy hh => ?_);have := has_same hb (by rw [(h4 y hy).1, hl]) hh;exact h5 x hx (by rw [this]; exact hy)
theorem prR_in {n : Int} {on off : List Tx} (h : (prR n on off).2 = true) : onoffB n on off = true ∧ (prR n on off).1 = primesL n.toNat on off ∧ (primesL n.toNat on off).length ≤ 60 := by
 unfold prR at h ⊢
 split at h
 ·rename_i hc;rw [if_pos hc];exact ⟨hc.1, rfl, hc.2⟩
 cases h
structure PrOk (n : Int) (on off P : List Tx) : Prop where
 m : ∃ m : Nat, 1 ≤ m ∧ m ≤ 8 ∧ (∀ x, x ∈ on → x.length = m) ∧ ∀ p, p ∈ P → p.length = m
 onl : on.length ≤ 64
 pl : P.length ≤ 60
 srt : P.Pairwise (fun a b => a < b)
 cov : covers P on
theorem prR_ok {n : Int} {on off : List Tx} (h : (prR n on off).2 = true) : PrOk n on off (prR n on off).1 := by
 obtain ⟨h1, h2, h3⟩ := prR_in h;have hc := primes_cover h1;obtain ⟨m, rfl, g1, g2, g3, _, g4, _, _⟩ := onoff_in h1;rw [h2];exact ⟨⟨m, g1, g2, fun x hx => (g4 x hx).1, fun p hp => (primesL_mem hp).1⟩, g3, h3, primesL_sorted _ _ _, hc⟩
mutual
def AV.under (k : Nat) : AV → Bool
 | .own id _ => Nat.blt id k
 | .ptr id _ => Nat.blt id k
 | .part id _ _ => Nat.blt id k
 | .mp id => Nat.blt id k
 | .agg cs => AV.underL k cs
 | .tup cs => AV.underL k cs
 | .clo _ cs => AV.underL k cs
 | _ => true
def AV.underL (k : Nat) : List AV → Bool
 | [] => true
 | c :: cs => c.under k && AV.underL k cs
end
theorem AV.underL_get {k : Nat} : ∀ {cs : List AV}, AV.underL k cs = true → ∀ (i : Nat) c, cs[i]? = some c → c.under k = true
 | [], _, i, c, h => by simp at h
 | c :: cs, hf, i, c', h => by
  simp only [AV.underL, Bool.and_eq_true] at hf;cases i with
  | zero => simp at h; subst h; exact hf.1
  | succ i => exact AV.underL_get hf.2 i c' (by simpa using h)
def Chunk.under (k : Nat) : Chunk → Bool
 | .cells _ cs => AV.underL k cs
 | .lock id _ => Nat.blt id k
 | _ => true
theorem blt_lt {a b : Nat} (h : Nat.blt a b = true) : a < b := by simpa using h
theorem ARep.under {k : Nat} {m m2 : Nat → Option (Option Nat × Nat)} {F F2 : Nat → Prop} {w : World} (hm : ∀ id p, id < k → m id = some p → m2 id = some p) (hF : ∀ b, F b → F2 b) {x : AV} {v : Value} (h : ARep m F w x v) : x.under k = true → ARep m2 F2 w x v := by
 induction h with
 | dead => exact fun _ => .dead
 | und => exact fun _ => .und
 | d h => exact fun _ => .d (h.mono hF)
 | own h h0 => exact fun hu => .own (hm _ _ (blt_lt hu) h) h0
 | ptr h => exact fun hu => .ptr (hm _ _ (blt_lt hu) h)
 | part h h1 => exact fun hu => .part (hm _ _ (blt_lt hu) h) h1
 | mp h => exact fun hu => .mp (hm _ _ (blt_lt hu) h)
 | tight h => exact fun _ => .tight (h.mono hF)
 | agg h1 _ h3 ih => exact fun hu => .agg h1 (fun i c hc => ih i c hc (AV.underL_get (by simpa [AV.under] using hu) i c hc)) h3
 | tup h1 _ ih => exact fun hu => .tup h1 (fun i c hc => ih i c hc (AV.underL_get (by simpa [AV.under] using hu) i c hc))
 | clo h1 _ ih => exact fun hu => .clo h1 (fun i c hc => ih i c hc (AV.underL_get (by simpa [AV.under] using hu) i c hc))
theorem CRep.under {k : Nat} {m m2 : Nat → Option (Option Nat × Nat)} {F F2 : Nat → Prop} {w : World} (hm : ∀ id p, id < k → m id = some p → m2 id = some p) (hF : ∀ b, F b → F2 b) {p : Option Nat × Nat} {c : Chunk} (h : CRep m F w p c) (hu : c.under k = true) : CRep m2 F2 w p c := by
 cases h with
 | cells h1 h2 h3 h4 => exact .cells h1 h2 (fun i c hc => (h3 i c hc).under hm hF (AV.underL_get hu i c hc)) h4
 | arr h1 h2 h3 h4 h5 h6 h7 h8 => exact .arr h1 h2 h3 h4 h5 h6 h7 (fun i cs j d hi hj => (h8 i cs j d hi hj).mono hF)
 | nil h => exact .nil h
 | iter h => exact .iter h
 | map h => exact .map h
 | obj h => exact .obj h
 | pred h1 h2 h3 => exact .pred h1 h2 h3
 | lock h => exact .lock (hm _ _ (blt_lt hu) h)
theorem getL_snoc {α : Type} {k id : Nat} {x c : α} : ∀ {l : List (Nat × α)}, getL k l = none → (getL id (l ++ [(k, x)]) = some c ↔ (getL id l = some c ∨ (id = k ∧ x = c)))
 | [], _ => by
  rw [List.nil_append, getL_cons]
  by_cases e : id = k
  ·rw [if_pos e]; simp [getL, e]
  rw [if_neg e]; simp [getL, e]
 | (j, y) :: l, h => by
  rw [getL_cons] at h
  split at h
  ·cases h
  rename_i hkj;rw [List.cons_append, getL_cons, getL_cons]
  by_cases e : id = j
  ·rw [if_pos e, if_pos e];constructor
   ·exact .inl
   rintro (q | ⟨q, _⟩)
   ·exact q
   exact absurd (q.symm.trans e) hkj
  rw [if_neg e, if_neg e];exact getL_snoc h
theorem ASpec.give {P : Program} {f : FuncId} {args : List AV} {chs : List (Nat × Chunk)} {R : AV → List (Nat × Chunk) → Prop} (h : ASpec P f args chs R) (i : Nat) {k e e2 sz : Nat} {els : List (List DV)} (hk : chs.length = k) (hi : args[i]? = some (.d (.view e sz els)))
  (hu : ∀ j x, j ≠ i → args[j]? = some x → x.under k = true) (hc : ∀ id c, getL id chs = some c → c.under k = true) (hg : getL k chs = none)
  (hR : ∀ r chs', R r chs' → r.under k = true ∧ ∀ id c, getL id chs' = some c → id < k ∧ c.under k = true) :
  ASpec P f (args.set i (.own k els.length)) (chs ++ [(k, .arr e2 sz els)]) R := by
 intro w m Fin vs hfin hn ha hch hinj hm
 have hlt : ∀ id c, getL id chs = some c → id < k := fun id c hc => by
  have := (hch id c ((getL_snoc hg).2 (.inl hc))).1;rw [List.length_append, hk] at this;simp only [List.length_cons, List.length_nil] at this;rcases Nat.lt_or_ge id k with q | q
  ·exact q
  have e : id = k := by omega
  rw [e] at hc;rw [hg] at hc; cases hc
 obtain ⟨-, p, hp, hrep⟩ := hch k (.arr e2 sz els) ((getL_snoc hg).2 (.inr ⟨rfl, rfl⟩));have hil : i < args.length := (List.getElem?_eq_some_iff.1 hi).1;have hoc : ∀ b, occ p (Chunk.arr e2 sz els) b → b < w.heap.size := fun b hb => hrep.lt hb
 let m2 : Nat → Option (Option Nat × Nat) := fun id => if id < k then m id else none
 let F2 : Nat → Prop := fun b => Fin b ∨ occ p (Chunk.arr e2 sz els) b
 have hm2 : ∀ id q, id < k → m id = some q → m2 id = some q := fun id q hid hq => by show (if id < k then m id else none) = _; rw [if_pos hid]; exact hq
 have hm3 : ∀ id q, m2 id = some q → id < k ∧ m id = some q := fun id q hq => by
  have hq : (if id < k then m id else none) = some q := hq
  split at hq
  ·rename_i hid; exact ⟨hid, hq⟩
  cases hq
 have hF2 : ∀ b, Fin b → F2 b := fun b hb => .inl hb
 have hdr : DRep F2 w (.view e sz els) (vs.getD i undef) := by
  have hai := ha i (.own k els.length) (by rw [List.getElem?_set_self hil]);generalize hv : vs.getD i undef = v at hai;cases hai with
  | own hq hq0 =>
   rename_i cap b;rw [hp] at hq;obtain rfl : p = (b, cap) := by simpa using hq
   cases b with
   | none =>
    have h0 := (hq0 rfl).1;have hc0 := (hq0 rfl).2;obtain rfl : els = [] := List.eq_nil_of_length_eq_zero h0;rw [hc0];exact .nil
   | some blk =>
    cases hrep with
    | arr hb hf hsz hl hmx h0 hrow hel =>
     exact .view (off := 0) (.inr (.inl rfl)) hb hl hmx (by rw [Nat.zero_add]; exact Nat.le_of_eq hsz.symm) hrow (fun a cs j d h1 h2 => by rw [Nat.zero_add]; exact (hel a cs j d h1 h2).mono hF2)
 refine (h w m2 F2 vs ?_ ?_ ?_ ?_ ?_ ?_).mono ?_
 ·rintro b (hb | hb)
  ·refine ⟨(hfin b hb).1, fun id c q hc hq ho => ?_⟩;exact (hfin b hb).2 id c q ((getL_snoc hg).2 (.inl hc)) (hm3 id q hq).2 ho
  refine ⟨hoc b hb, fun id c q hc hq ho => ?_⟩;have := hinj id k c (.arr e2 sz els) q p b ((getL_snoc hg).2 (.inl hc)) ((getL_snoc hg).2 (.inr ⟨rfl, rfl⟩)) (hm3 id q hq).2 hp ho hb;have := hlt id c hc;omega
 ·rw [hn, List.length_set]
 ·intro j x hx
  by_cases e : j = i
  ·subst e;rw [hi] at hx;obtain rfl : _ = x := Option.some.inj hx;exact .d hdr
  have := ha j x (by rw [List.getElem?_set_ne (Ne.symm e)]; exact hx);exact this.under hm2 hF2 (hu j x e hx)
 ·intro id c hcc;obtain ⟨-, q, hq, hr⟩ := hch id c ((getL_snoc hg).2 (.inl hcc));have hid := hlt id c hcc;exact ⟨by omega, q, hm2 id q hid hq, hr.under hm2 hF2 (hc id c hcc)⟩
 ·intro id id' c c' q q' b h1 h2 h3 h4;exact hinj id id' c c' q q' b ((getL_snoc hg).2 (.inl h1)) ((getL_snoc hg).2 (.inl h2)) (hm3 id q h3).2 (hm3 id' q' h4).2
 ·intro id hid;show (if id < k then m id else none) = none;rw [if_neg (by omega)]
 rintro e0 w' ⟨v, r, chs', m', F', he, hRr, g1, g2, g3, ⟨f1, f2, f3, f4, f5⟩, g4, g5, g6⟩;obtain ⟨hru, hcu⟩ := hR r chs' hRr
 let m4 : Nat → Option (Option Nat × Nat) := fun id => if id < k then m' id else if id = k then m k else none
 have h4 : ∀ id q, id < k → m' id = some q → m4 id = some q := fun id q hid hq => by show (if id < k then m' id else _) = _; rw [if_pos hid]; exact hq
 have h5 : ∀ id q, id < k → m4 id = some q → m' id = some q := fun id q hid hq => by
  have hq : (if id < k then m' id else if id = k then m k else none) = some q := hq
  rwa [if_pos hid] at hq
 refine ⟨v, r, chs', m4, F', he, hRr, ?_, ?_, ?_, ⟨f1, f2, f3, f4, ?_⟩, g4.under h4 (fun _ hb => hb) hru, ?_, ?_⟩
 ·intro id q hid hq;rw [List.length_append, hk] at hid;simp only [List.length_cons, List.length_nil] at hid;rcases Nat.lt_or_ge id k with h | h
  ·exact h4 id q h (g1 id q (by omega) (hm2 id q h hq))
  have e : id = k := by omega
  show (if id < k then m' id else if id = k then m k else none) = _;rw [if_neg (by omega), if_pos e, ← e]; exact hq
 ·intro id hid;rw [List.length_append, hk] at hid;simp only [List.length_cons, List.length_nil] at hid;show (if id < k then m' id else if id = k then m k else none) = none;rw [if_neg (by omega), if_neg (by omega)]
 ·intro b;rw [g3 b];constructor
  ·rintro ⟨h1, h2, h3⟩;refine ⟨?_, h2, fun id c q hc hq => h3 id c q hc (h5 id q (hcu id c hc).1 hq)⟩;rcases h1 with (h1 | h1) | ⟨id, c, q, h1, h6, h7⟩ | h1
   ·exact .inl h1
   ·exact .inr (.inl ⟨k, _, p, (getL_snoc hg).2 (.inr ⟨rfl, rfl⟩), hp, h1⟩)
   ·exact .inr (.inl ⟨id, c, q, (getL_snoc hg).2 (.inl h1), (hm3 id q h6).2, h7⟩)
   exact .inr (.inr h1)
  rintro ⟨h1, h2, h3⟩;refine ⟨?_, h2, fun id c q hc hq => h3 id c q hc (h4 id q (hcu id c hc).1 hq)⟩;rcases h1 with h1 | ⟨id, c, q, h1, h6, h7⟩ | h1
  ·exact .inl (.inl h1)
  ·rcases (getL_snoc hg).1 h1 with h8 | ⟨rfl, rfl⟩
   ·exact .inr (.inl ⟨id, c, q, h8, hm2 id q (hlt id c h8) h6, h7⟩)
   rw [hp] at h6;obtain rfl : p = q := Option.some.inj h6;exact .inl (.inr h7)
  exact .inr (.inr h1)
 ·intro b hb hno;exact f5 b hb fun id c q hc hq ho => hno id c q ((getL_snoc hg).2 (.inl hc)) (hm3 id q hq).2 ho
 ·intro id c hcc;obtain ⟨q, h1, h2, h3⟩ := g5 id c hcc;obtain ⟨hid, hcu1⟩ := hcu id c hcc;refine ⟨q, h4 id q hid h1, h2.under h4 (fun _ hb => hb) hcu1, fun b hb => ?_⟩;rcases h3 b hb with h | ⟨id0, c0, p0, h6, h7, h8⟩
  ·exact .inl h
  exact .inr ⟨id0, c0, p0, (getL_snoc hg).2 (.inl h6), (hm3 id0 p0 h7).2, h8⟩
 intro id id' c c' q q' b h1 h2 h3 h6;exact g6 id id' c c' q q' b h1 h2 (h5 id q (hcu id c h1).1 h3) (h5 id' q' (hcu id' c' h2).1 h6)
end Go.Proofs.YtiaieidhhlmfmaaGreat
