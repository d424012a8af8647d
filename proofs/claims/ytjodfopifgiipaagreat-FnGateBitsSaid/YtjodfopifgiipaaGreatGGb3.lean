/- Contracts of the functions of the program and of the reference, each proved by a walk through its code. -/
import Derived.ProofKit
import Derived.OpenShut
import Derived.Lib.SliceRun
import Derived.Laws.StructEq
import Derived.ChangeKeysEq
import Derived.Test.YtjodfopifgiipaaGreatGGb2
set_option linter.all false
set_option maxRecDepth 20000
namespace Go.Proofs.YtjodfopifgiipaaGreat
open Go.RowKit
def Cur.pick (c : Cur) (n : Int) : Int × Cur :=
 if n ≤ 1 then (0, c) else if 200 < n then ((c.next * 256 + c.after.next).tmod n, c.after.after) else (c.next.tmod n, c.after)
theorem drawn_in (s : Int) : 0 ≤ drawn s ∧ drawn s ≤ 255 := by
 unfold drawn
 have h1 : (BitVec.ofInt 64 (s.fdiv (2 ^ (min (40 : Int).toNat 64))) &&& BitVec.ofInt 64 255).toNat ≤ 255 := by
  rw [BitVec.toNat_and];exact Nat.le_trans Nat.and_le_right (by decide)
 generalize (BitVec.ofInt 64 (s.fdiv (2 ^ (min (40 : Int).toNat 64))) &&& BitVec.ofInt 64 255).toNat = x at h1;have h2 : IntKind.u64.wrap (x : Int) = x := wrap_u64 (by omega);rw [h2, wrap_i64 (by omega)];omega
theorem Cur.next_in (c : Cur) : 0 ≤ c.next ∧ c.next ≤ 255 := by
 unfold Cur.next
 split
 ·exact c.byte_in
 exact drawn_in _
theorem Cur.pick_in (c : Cur) (n : Int) (h : 1 ≤ n) : 0 ≤ (c.pick n).1 ∧ (c.pick n).1 < n := by
 have h1 := c.next_in;have h2 := c.after.next_in;unfold Cur.pick
 split
 ·exact ⟨Int.le_refl _, by show (0 : Int) < n; omega⟩
 split
 ·exact ⟨Int.tmod_nonneg _ (by omega), Int.tmod_lt_of_pos _ (by omega)⟩
 exact ⟨Int.tmod_nonneg _ (by omega), Int.tmod_lt_of_pos _ (by omega)⟩
theorem Cur.pick_pos (c : Cur) (n : Int) : (c.pick n).2.pos ≤ c.pos + 2 := by
 unfold Cur.pick
 split
 ·show c.pos ≤ _; omega
 split
 ·show c.pos + 1 + 1 ≤ _; omega
 show c.pos + 1 ≤ _; omega
theorem Cur.pick_code (c : Cur) (n : Int) : (c.pick n).2.code = c.code := by
 unfold Cur.pick
 split
 ·rfl
 split <;> rfl
set_option maxHeartbeats 1000000 in
theorem pick_spec (c : Cur) (n : Int) (hn : n ≤ 65536) (hp : c.pos ≤ 100000000000000) : ASpec Tryz.prog 20 [.ptr 0 0, aI n] [(0, curC c)] (Fun1 (aI (c.pick n).1) [(0, curC (c.pick n).2)]) := by
 have hi := c.next_in;have hi2 := c.after.next_in;have hpa : c.after.pos ≤ 1000000000000000 := by show c.pos + 1 ≤ _; omega
 refine ASpec.of Tryz.func20 rfl rfl fun C hC => ?_
 refine AC.seq (AC.region ?_);refine za ?_;refine AL.nil (th_n (AC.seq (AC.seq (AC.region ?_))));refine zm ?_;refine zc ?_;refine AL.nil (th_n ?_);refine AC.condD rfl (fun h0 => ?_) (fun h0 => ?_)
 ·refine AC.seq (AC.region ?_);refine za ?_;refine AL.nil (th_n (AC.ret (th_r (bq_r ?_))));have e : c.pick n = (0, c) := by unfold Cur.pick; rw [if_pos h0]
  exact retF rfl (by rw [e]; repeat (exact DLead.same)) (by rw [e]; repeat (first | exact True.intro | refine And.intro ?_ ?_ | exact DLead.same | exact rfl | refine ⟨_, _, rfl, rfl, ?_⟩ | refine ⟨_, rfl, ?_⟩ | refine ⟨_, _, rfl, ?_, ?_⟩)) rfl
 refine AC.skip (th_n (AC.seq (AC.region ?_)));refine AL.p (by exact mv3 rfl) rfl ?_;refine AL.q (by exact h_fun (cs := [0]) en_next rfl rfl (by repeat (first | exact rfl | refine ⟨_, _, rfl, ?_, ?_⟩ | refine ⟨_, rfl, ?_⟩)) (by repeat (first | exact True.intro | refine And.intro ?_ ?_ | exact DLead.same | exact rfl | refine ⟨_, _, rfl, rfl, ?_⟩ | refine ⟨_, rfl, ?_⟩ | refine ⟨_, _, rfl, ?_, ?_⟩)) (next_spec _ (by omega)) rfl rfl rfl rfl) rfl ?_;refine za ?_;refine AL.nil (th_n (AC.seq (AC.seq (AC.region ?_))));refine zm ?_;refine zc ?_;refine AL.nil (th_n ?_);refine AC.condD rfl (fun h1 => ?_) (fun h1 => ?_)
 ·refine AC.region ?_;refine zm ?_;refine zA ?_;refine AL.p (by exact mv3 rfl) rfl ?_;refine AL.q (by exact h_fun (cs := [0]) en_next rfl rfl (by repeat (first | exact rfl | refine ⟨_, _, rfl, ?_, ?_⟩ | refine ⟨_, rfl, ?_⟩)) (by repeat (first | exact True.intro | refine And.intro ?_ ?_ | exact DLead.same | exact rfl | refine ⟨_, _, rfl, rfl, ?_⟩ | refine ⟨_, rfl, ?_⟩ | refine ⟨_, _, rfl, ?_, ?_⟩)) (next_spec _ (by assumption)) rfl rfl rfl rfl) rfl ?_;refine zA ?_;refine za ?_;refine AL.nil (th_n (AC.seq (AC.region ?_)));refine zm ?_;refine zm ?_;refine AL.p (by exact g_rem rfl rfl (by omega) rfl) rfl ?_;refine za ?_;refine AL.nil (th_n (AC.ret (bq_r ?_)))
  (have e : c.pick n = ((c.next * 256 + c.after.next).tmod n, c.after.after) := (by unfold Cur.pick; rw [if_neg h0, if_pos h1]); exact retF rfl (by rw [e]; repeat (exact DLead.same)) (by rw [e]; repeat (first | exact True.intro | refine And.intro ?_ ?_ | exact DLead.same | exact rfl | refine ⟨_, _, rfl, rfl, ?_⟩ | refine ⟨_, rfl, ?_⟩ | refine ⟨_, _, rfl, ?_, ?_⟩)) rfl)
 refine AC.skip (th_n (AC.seq (AC.region ?_)));refine zm ?_;refine zm ?_;refine AL.p (by exact g_rem rfl rfl (by omega) rfl) rfl ?_;refine za ?_;refine AL.nil (th_n (AC.ret (bq_r ?_)))
 (have e : c.pick n = (c.next.tmod n, c.after) := (by unfold Cur.pick; rw [if_neg h0, if_neg h1]); exact retF rfl (by rw [e]; repeat (exact DLead.same)) (by rw [e]; repeat (first | exact True.intro | refine And.intro ?_ ?_ | exact DLead.same | exact rfl | refine ⟨_, _, rfl, rfl, ?_⟩ | refine ⟨_, rfl, ?_⟩ | refine ⟨_, _, rfl, ?_, ?_⟩)) rfl)
theorem en_pick : Enters Tryz.prog 20 := enters_of Tryz.func20 rfl rfl
theorem one_spec (c : Cur) (n : Int) (hn : n ≤ 65536) (hp : c.pos ≤ 100000000000000) : ASpec Tryz.prog 42 [.ptr 0 0, aI n] [(0, curC c)] (Fun1 (aT (decide ((c.pick n).1 = 0))) [(0, curC (c.pick n).2)]) := by
 refine ASpec.of Tryz.func42 rfl rfl fun C hC => ?_
 refine AC.seq (AC.region ?_);refine za ?_;refine AL.nil (th_n (AC.seq (AC.region ?_)));refine AL.p (by exact mv3 rfl) rfl ?_;refine zm ?_;refine AL.q (by exact h_fun (cs := [0]) en_pick rfl rfl (by repeat (first | exact rfl | exact DLead.same | refine ⟨_, _, rfl, ?_, ?_⟩ | refine ⟨_, rfl, ?_⟩)) (by repeat (first | exact True.intro | refine And.intro ?_ ?_ | exact DLead.same | exact rfl | refine ⟨_, _, rfl, rfl, ?_⟩ | refine ⟨_, rfl, ?_⟩ | refine ⟨_, _, rfl, ?_, ?_⟩)) (pick_spec _ _ (by assumption) (by assumption)) rfl rfl rfl rfl) rfl ?_;refine zc ?_;refine za ?_;refine AL.nil (th_n (AC.ret (bq_r ?_)));exact retF rfl (by repeat (exact DLead.same)) (by repeat (first | exact True.intro | refine And.intro ?_ ?_ | exact DLead.same | exact rfl | refine ⟨_, _, rfl, rfl, ?_⟩ | refine ⟨_, rfl, ?_⟩ | refine ⟨_, _, rfl, ?_, ?_⟩)) rfl
theorem en_one : Enters Tryz.prog 42 := enters_of Tryz.func42 rfl rfl
def putI (l : List Int) (x : Int) : List Int :=
 if l[l.findIdx (fun y => decide (x ≤ y))]? = some x then l else l.take (l.findIdx (fun y => decide (x ≤ y))) ++ [x] ++ l.drop (l.findIdx (fun y => decide (x ≤ y)))
theorem putI_len (l : List Int) (x : Int) : (putI l x).length ≤ l.length + 1 := by
 unfold putI
 split
 ·omega
 simp; omega
theorem idx_at {l : List Int} {x : Int} {k : Nat} (hk : k < l.length) (h : ¬ l[k] < x) (hp : ∀ j (hj : j < k), l[j]'(by omega) < x) : l.findIdx (fun y => decide (x ≤ y)) = k :=
 (List.findIdx_eq hk).2 ⟨by simp; omega, fun j hj => by have := hp j hj; simp; omega⟩
theorem idx_end {l : List Int} {x : Int} (hp : ∀ j (hj : j < l.length), l[j] < x) {k : Nat} (hk : l.length = k) : l.findIdx (fun y => decide (x ≤ y)) = k := by
 subst hk;exact List.findIdx_eq_length.2 (fun y hy => by obtain ⟨j, hj, rfl⟩ := List.getElem_of_mem hy; have := hp j hj; simp; omega)
theorem putI_same {l : List Int} {x : Int} {k : Nat} (h : l.findIdx (fun y => decide (x ≤ y)) = k) (hk : k < l.length) (he : l[k] = x) : putI l x = l := by
 unfold putI; rw [h, List.getElem?_eq_getElem hk, he, if_pos rfl]
theorem putI_at {l : List Int} {x : Int} {k : Nat} (h : l.findIdx (fun y => decide (x ≤ y)) = k) (hk : k < l.length) (he : ¬ l[k] = x) : putI l x = l.take k ++ [x] ++ l.drop k := by
 unfold putI; rw [h, List.getElem?_eq_getElem hk, if_neg (by simpa using he)]
theorem putI_end {l : List Int} {x : Int} {k : Nat} (h : l.findIdx (fun y => decide (x ≤ y)) = k) (hk : l.length ≤ k) : putI l x = l.take k ++ [x] ++ l.drop k := by
 unfold putI; rw [h, List.getElem?_eq_none hk, if_neg (by simp)]
set_option maxHeartbeats 2000000 in
theorem l1Put_spec (l : List Int) (x : Int) (hl : l.length ≤ 1000000) : ASpec Tryz.prog 95 [.d (vI l), aI x] [] (Pure1 (.d (vI (putI l x)))) := by
 refine ASpec.of Tryz.func95 rfl rfl fun C hC => ?_
 refine AC.seq (AC.region ?_);refine za ?_;refine AL.nil (th_n (AC.seq (AC.region ?_)));refine za ?_;refine AL.nil (th_n ?_);refine AC.cut (fun (k : Nat) => ⟨48, 0, [(0, .d (vI l)), (1, aI x), (5, aI k)], []⟩) (fun k => k ≤ l.length ∧ l.findIdx (fun y => decide (x ≤ y)) = k) ?_ ?_
 ·refine AC.block ?_;refine AC.loop (ι := Nat) (fun k => ⟨48, 0, [(0, .d (vI l)), (1, aI x), (5, aI k)], []⟩) (fun k => k ≤ l.length ∧ ∀ j (hj : j < l.length), j < k → l[j] < x) (fun k => l.length - k) (0) ?_ (⟨Nat.zero_le _, fun j _ hj => by omega⟩) ?_
  ·refine Weak.ren _ [] hC rfl ?_ ?_ rfl rfl rfl <;> repeat (first | exact True.intro | refine And.intro ?_ ?_ | exact DLead.same)
  intro k ⟨hk, hall⟩;refine AC.seq (AC.seq (AC.region ?_));refine zm ?_;refine zm ?_;refine kH ?_;refine zc ?_;refine zm ?_;refine AL.caseG rfl rfl (fun h0 => ?_) (fun h0 => ?_)
  ·refine zy ?_;have hk1 : k < l.length := by omega
   have hget := ints_at hk1;refine zm ?_;refine zy ?_;refine zm ?_;refine zy ?_;refine AL.p (by exact g_ia_view rfl rfl rfl rfl rfl (by rfl) (by assumption)) rfl ?_;refine zy ?_;refine zr ?_;refine zy ?_;refine zm ?_;refine zy ?_;refine zc ?_;refine zQ ?_;refine AL.nil (th_n ?_);refine AC.condD rfl (fun h1 => ?_) (fun h1 => ?_)
   ·refine AC.skip (th_n (AC.block (AC.region ?_)));refine zm ?_;refine zA ?_;refine za ?_;refine AL.nil (ib_n (th_n ?_));exact ⟨k + 1, ⟨by omega, fun j hj hj2 => by rcases Nat.lt_succ_iff_lt_or_eq.1 hj2 with h | rfl; exact hall j hj h; exact h1⟩, by omega, Weak.ren _ [] hC rfl (by repeat (first | exact True.intro | refine And.intro ?_ ?_ | exact DLead.same)) (by repeat (exact True.intro)) rfl rfl rfl⟩
   refine AC.exit (th_e (th_e (ib_y (th_n ?_))));exact ⟨k, ⟨hk, idx_at hk1 h1 (fun j hj => hall j (by omega) hj)⟩, Weak.ren _ [] hC rfl (by repeat (first | exact True.intro | refine And.intro ?_ ?_ | exact DLead.same)) (by repeat (exact True.intro)) rfl rfl rfl⟩
  refine zn ?_;refine zn ?_;refine zn ?_;refine zn ?_;refine zn ?_;refine zn ?_;refine zP ?_;refine AL.nil (th_n ?_);refine AC.condF rfl ?_;refine AC.exit (th_e (th_e (ib_y (th_n ?_))));exact ⟨k, ⟨hk, idx_end (fun j hj => hall j hj (by omega)) (by omega)⟩, Weak.ren _ [] hC rfl (by repeat (first | exact True.intro | refine And.intro ?_ ?_ | exact DLead.same)) (by repeat (exact True.intro)) rfl rfl rfl⟩
 intro k ⟨hk, hidx⟩;refine AC.seq (AC.seq (AC.region ?_));refine zm ?_;refine zm ?_;refine kH ?_;refine zc ?_;refine zm ?_;refine AL.caseG rfl rfl (fun h0 => ?_) (fun h0 => ?_)
 ·refine zy ?_;have hk1 : k < l.length := by omega
  have hget := ints_at hk1;refine zm ?_;refine zy ?_;refine zm ?_;refine zy ?_;refine AL.p (by exact g_ia_view rfl rfl rfl rfl rfl (by rfl) (by assumption)) rfl ?_;refine zy ?_;refine zr ?_;refine zy ?_;refine zm ?_;refine zy ?_;refine zc ?_;refine zQ ?_;refine AL.nil (th_n ?_);refine AC.condD rfl (fun h1 => ?_) (fun h1 => ?_)
  ·refine AC.seq (AC.region ?_);refine zm ?_;refine za ?_;refine AL.nil (th_n (AC.ret (th_r (bq_r ?_))));have e : putI l x = l := putI_same hidx hk1 h1;exact ret1 rfl (by rw [e])
  refine AC.skip (th_n (AC.seq ?_));have e : putI l x = l.take k ++ [x] ++ l.drop k := by exact putI_at hidx hk1 h1
  refine AC.region ?_;refine AL.q (by exact h_lit rfl rfl rfl rfl rfl rfl rfl rfl) rfl ?_;refine zm ?_;refine zm ?_;refine AL.p (by exact g_slice_view (r := ints (l.take k)) rfl rfl rfl rfl .none (.some rfl rfl) (Nat.zero_le _) (by rw [ints_len]; exact hk) (by simp [List.map_take])) rfl ?_;refine AL.q (by exact h_appendI [] (l.take k) (.own rfl rfl rfl) (.view rfl) (by simp; omega) (by simp)) rfl ?_;refine AL.p (by exact as2 rfl) rfl ?_;refine AL.nil (th_n (AC.seq (AC.region ?_)));refine kB ?_;refine zm ?_;refine AL.q (by exact h_litF rfl rfl rfl rfl rfl rfl rfl rfl) rfl ?_;refine AL.q (by exact h_appendI ([] ++ l.take k) [x] (.own rfl rfl (ints_len _).symm) (.view rfl) (by simp; omega) (by simp)) rfl ?_;refine AL.p (by exact as2 rfl) rfl ?_;refine AL.nil (th_n (AC.seq (AC.region ?_)));refine kB ?_;refine zm ?_;refine zm ?_;refine AL.p (by exact g_slice_view (r := ints (l.drop k)) rfl rfl rfl rfl (.some rfl rfl) .none (by rw [ints_len]; exact hk) (Nat.le_refl _) (by rw [List.take_length]; exact (List.map_drop ..).symm)) rfl ?_;refine AL.q (by exact h_appendI ([] ++ l.take k ++ [x]) (l.drop k) (.own rfl rfl (ints_len _).symm) (.view rfl) (by simp; omega) (by simp)) rfl ?_;refine AL.weak (Weak.freeze (i := 47) rfl rfl (Nat.le_of_eq (ints_len _).symm) (ints_all _)) ?_;refine za ?_;refine AL.nil (th_n (AC.ret (bq_r ?_)));exact ret1 rfl (by rw [e]; rfl)
 refine zn ?_;refine zn ?_;refine zn ?_;refine zn ?_;refine zn ?_;refine zn ?_;refine zP ?_;refine AL.nil (th_n ?_);refine AC.condF rfl ?_;refine AC.skip (th_n (AC.seq ?_));have e : putI l x = l.take k ++ [x] ++ l.drop k := by exact putI_end hidx (by omega)
 refine AC.region ?_;refine AL.q (by exact h_lit rfl rfl rfl rfl rfl rfl rfl rfl) rfl ?_;refine zm ?_;refine zm ?_;refine AL.p (by exact g_slice_view (r := ints (l.take k)) rfl rfl rfl rfl .none (.some rfl rfl) (Nat.zero_le _) (by rw [ints_len]; exact hk) (by simp [List.map_take])) rfl ?_;refine AL.q (by exact h_appendI [] (l.take k) (.own rfl rfl rfl) (.view rfl) (by simp; omega) (by simp)) rfl ?_;refine AL.p (by exact as2 rfl) rfl ?_;refine AL.nil (th_n (AC.seq (AC.region ?_)));refine kB ?_;refine zm ?_;refine AL.q (by exact h_litF rfl rfl rfl rfl rfl rfl rfl rfl) rfl ?_;refine AL.q (by exact h_appendI ([] ++ l.take k) [x] (.own rfl rfl (ints_len _).symm) (.view rfl) (by simp; omega) (by simp)) rfl ?_;refine AL.p (by exact as2 rfl) rfl ?_;refine AL.nil (th_n (AC.seq (AC.region ?_)));refine kB ?_;refine zm ?_;refine zm ?_;refine AL.p (by exact g_slice_view (r := ints (l.drop k)) rfl rfl rfl rfl (.some rfl rfl) .none (by rw [ints_len]; exact hk) (Nat.le_refl _) (by rw [List.take_length]; exact (List.map_drop ..).symm)) rfl ?_;refine AL.q (by exact h_appendI ([] ++ l.take k ++ [x]) (l.drop k) (.own rfl rfl (ints_len _).symm) (.view rfl) (by simp; omega) (by simp)) rfl ?_;refine AL.weak (Weak.freeze (i := 47) rfl rfl (Nat.le_of_eq (ints_len _).symm) (ints_all _)) ?_;refine za ?_;refine AL.nil (th_n (AC.ret (bq_r ?_)));exact ret1 rfl (by rw [e]; rfl)
theorem en_l1Put : Enters Tryz.prog 95 := enters_of Tryz.func95 rfl rfl
theorem of_spec (c : Cur) (els : List (List DV)) (st : ByteArray) (h0 : 0 < els.length) (hl : els.length ≤ 65536) (hp : c.pos ≤ 100000000000000) (hget : els[(c.pick els.length).1.toNat]? = some [dS st]) : ASpec Tryz.prog 47 [.ptr 0 0, .d (.view 9 1 els)] [(0, curC c)] (Fun1 (aS st) [(0, curC (c.pick els.length).2)]) := by
 have hi := c.pick_in els.length (by omega);have hI : (c.pick els.length).1 = (((c.pick els.length).1.toNat : Nat) : Int) := by omega
 refine ASpec.of Tryz.func47 rfl rfl fun C hC => ?_
 refine AC.seq (AC.region ?_);refine za ?_;refine AL.nil (th_n (AC.seq (AC.region ?_)));refine zm ?_;refine AL.p (by exact mv3 rfl) rfl ?_;refine zm ?_;refine AL.p (by exact g_len_view rfl rfl (by rfl)) rfl ?_;refine AL.q (by exact h_fun (cs := [0]) en_pick rfl rfl (by repeat (first | exact rfl | exact DLead.same | refine ⟨_, _, rfl, ?_, ?_⟩ | refine ⟨_, rfl, ?_⟩)) (by repeat (first | exact True.intro | refine And.intro ?_ ?_ | exact DLead.same | exact rfl | refine ⟨_, _, rfl, rfl, ?_⟩ | refine ⟨_, rfl, ?_⟩ | refine ⟨_, _, rfl, ?_, ?_⟩)) (pick_spec _ _ (by omega) (by assumption)) rfl rfl rfl rfl) rfl ?_;refine AL.p (by exact g_ia_view rfl rfl rfl rfl rfl (by assumption) (by assumption)) rfl ?_;refine zr ?_;refine za ?_;refine AL.nil (th_n (AC.ret (bq_r ?_)));exact retF rfl (by repeat (exact DLead.same)) (by repeat (first | exact True.intro | refine And.intro ?_ ?_ | exact DLead.same | exact rfl | refine ⟨_, _, rfl, rfl, ?_⟩ | refine ⟨_, rfl, ?_⟩ | refine ⟨_, _, rfl, ?_, ?_⟩)) rfl
theorem en_of : Enters Tryz.prog 47 := enters_of Tryz.func47 rfl rfl
theorem bstr_cut (s : List UInt8) {l h : Nat} (hl : l ≤ h) (hh : h ≤ s.length) : (bstr s).extract l h = bstr ((s.take h).drop l) := by
 have : ((bstr s).extract l h).data.toList = (s.take h).drop l := by
  simp [bstr, ByteArray.data_extract, List.extract_eq_drop_take, List.drop_take]
 rw [← bstr_of ((bstr s).extract l h), this]
section
variable {P : Program} [PT P] {C : Ctx} {s : ASt}
theorem own_view {m : Nat → Option (Option Nat × Nat)} {F F' : Nat → Prop} {w : World} {id n e sz : Nat} {els : List (List DV)} {v : Value} {p : Option Nat × Nat} (hv : ARep m F w (.own id n) v) (hp : m id = some p) (hC : CRep m F w p (.arr e sz els)) (hn : n ≤ els.length) (hF : ∀ q, F q → F' q) (hFb : ∀ b, p.1 = some b → F' b) : DRep F' w (.view e sz (els.take n)) v := by
 cases hv with
 | own hp' h0 =>
  rename_i cap b;rw [hp] at hp';simp only [Option.some.injEq] at hp';subst hp';cases hC with
  | nil h =>
   have : n = 0 := by simpa using hn
   subst this;exact .nil
  | arr hb hf hsz hl hm h0' hrow hel =>
   rename_i b arr fz;have hlen : (els.take n).length = n := by simp; omega
   have hsub : ∀ (i : Nat) cs, (els.take n)[i]? = some cs → els[i]? = some cs := by
    intro i cs hi;rw [List.getElem?_take] at hi
    split at hi
    ·exact hi
    cases hi
   have := DRep.view (F := F') (w := w) (e := e) (sz := sz) (els := els.take n) (off := 0) (cap := cap) (hFb b rfl) hb (by omega) hm (by omega) (fun i cs hi => hrow i cs (hsub i cs hi)) (fun i cs j d hi hj => by rw [Nat.zero_add]; exact (hel i cs j d (hsub i cs hi) hj).mono hF);rw [hlen] at this;exact this
theorem Weak.freezeC {id0 id k n e sz tt : Nat} {cs : List AV} {els els' : List (List DV)} (hc0 : s.chunk id0 = some (.cells tt cs)) (hk : cs[k]? = some (.own id n)) (hc : s.chunk id = some (.arr e sz els)) (hn : n ≤ els.length) (he : els.take n = els') (hne : id0 ≠ id) : Weak C s { n := s.n, nx := s.nx, sl := s.sl, ch := (id0, some (.cells tt (cs.set k (.d (.view e sz els'))))) :: (id, none) :: s.ch } := by
 subst he;refine ⟨?_⟩;rintro a w ⟨m, hR⟩
 have hch : ∀ j c, (getL j ((id0, some (.cells tt (cs.set k (.d (.view e sz (els.take n)))))) :: (id, none) :: s.ch)).getD none = some c → (j = id0 ∧ c = .cells tt (cs.set k (.d (.view e sz (els.take n))))) ∨ (j ≠ id0 ∧ j ≠ id ∧ s.chunk j = some c) := by
  intro j c h;rw [getL_cons] at h
  split at h
  ·rename_i e; simp at h; exact .inl ⟨e, h.symm⟩
  rename_i e;rw [getL_cons] at h
  split at h
  ·simp at h
  rename_i e'; exact .inr ⟨e, e', h⟩
 have hF : ∀ q, Fz C m s w q → Fz C m { n := s.n, nx := s.nx, sl := s.sl, ch := (id0, some (.cells tt (cs.set k (.d (.view e sz (els.take n)))))) :: (id, none) :: s.ch } w q := by
  intro q hq;refine ⟨hq.1, hq.2.1, fun j c p h1 h2 h3 => ?_⟩;rcases hch j c h1 with ⟨rfl, rfl⟩ | ⟨_, _, h⟩
  ·exact hq.2.2 j _ p hc0 h2 (.inl h3.one_cells)
  exact hq.2.2 j c p h h2 h3
 have old : ∀ j c, (getL j ((id0, some (.cells tt (cs.set k (.d (.view e sz (els.take n)))))) :: (id, none) :: s.ch)).getD none = some c → j ≠ id ∧ ∃ c0, s.chunk j = some c0 ∧ ∀ p b, occ p c b → occ p c0 b := by
  intro j c h;rcases hch j c h with ⟨rfl, rfl⟩ | ⟨_, h1, h2⟩
  ·exact ⟨hne, _, hc0, fun _ b hb => .inl hb.one_cells⟩
  exact ⟨h1, _, h2, fun _ _ h => h⟩
 obtain ⟨q, hq, hCq, hloc⟩ := hR.ch id _ hc
 have hFb : ∀ b, q.1 = some b → Fz C m { n := s.n, nx := s.nx, sl := s.sl, ch := (id0, some (.cells tt (cs.set k (.d (.view e sz (els.take n)))))) :: (id, none) :: s.ch } w b := by
  intro b hb;refine ⟨.inr (hloc b (.inl hb)), hCq.lt (.inl hb), fun j c p h1 h2 h3 => ?_⟩;obtain ⟨hj, c0, h4, h5⟩ := old j c h1;exact hj (hR.inj j id c0 _ p q h4 hc h2 hq b (h5 _ _ h3) (.inl hb))
 refine ⟨m, hR.fr, hR.fin, hR.sz, fun j => (hR.sl j).turn (MLe.refl m) (fun k hk _ => ⟨hF k hk, rfl⟩), fun j c h1 => ?_, fun j j' c c' p p' h1 h2 hp hp' b hb hb' => ?_, hR.un, hR.defers, hR.m0, hR.m0k⟩
 ·rcases hch j c h1 with ⟨rfl, rfl⟩ | ⟨_, _, h⟩
  ·obtain ⟨p, hp, hr, hl⟩ := hR.ch j _ hc0;refine ⟨p, hp, ?_, fun b hb => hl b (.inl hb.one_cells)⟩;cases hr with
   | cells g1 g2 g3 g4 =>
    refine .cells g1 (by simpa using g2) (fun i x hx => ?_) g4
    by_cases hik : k = i
    ·subst hik;rw [List.getElem?_set_self (List.getElem?_eq_some_iff.1 hk).1] at hx;simp only [Option.some.injEq] at hx;subst hx;exact .d (own_view (g3 k _ hk) hq (hR.chunkAt hc hq) hn hF hFb)
    rw [List.getElem?_set_ne hik] at hx;exact (g3 i x hx).turn (MLe.refl m) (fun k hk _ => ⟨hF k hk, rfl⟩)
  obtain ⟨p, hp, hr, hl⟩ := hR.ch j c h;exact ⟨p, hp, hr.turn (MLe.refl m) (fun k hk _ => ⟨hF k hk, rfl⟩) (fun _ _ => rfl), hl⟩
 obtain ⟨_, c0, g1, g2⟩ := old j c h1;obtain ⟨_, c0', g1', g2'⟩ := old j' c' h2;exact hR.inj j j' c0 c0' p p' g1 g1' hp hp' b (g2 _ _ hb) (g2' _ _ hb')
theorem Weak.nilOwnP (i k : Nat) {id0 o e sz tt : Nat} {cs : List AV} (hp : s.get i = .ptr id0 o) (hc : s.chunk id0 = some (.cells tt cs)) (hk : cs[k]? = some (.d (.val (.slice none 0 0)))) (h0 : Nat.ble 1 sz = true) (hid0 : Nat.beq id0 s.nx = false) : Weak C s { n := s.n, nx := s.nx + 8, sl := s.sl, ch := (id0, some (.cells tt (cs.set k (.own s.nx 0)))) :: (s.nx, some (.arr e sz [])) :: s.ch } :=
 Weak.nilOwnC hc hk (Nat.le_of_ble_eq_true h0) (Nat.ne_of_beq_eq_false hid0)
theorem Weak.freezeP (i k : Nat) {id0 o id n e sz tt : Nat} {cs : List AV} {els els' : List (List DV)} (hp : s.get i = .ptr id0 o) (hc0 : s.chunk id0 = some (.cells tt cs)) (hk : cs[k]? = some (.own id n)) (hc : s.chunk id = some (.arr e sz els)) (hn : n ≤ els.length) (he : els.take n = els') (hne : Nat.beq id0 id = false) : Weak C s { n := s.n, nx := s.nx, sl := s.sl, ch := (id0, some (.cells tt (cs.set k (.d (.view e sz els'))))) :: (id, none) :: s.ch } :=
 Weak.freezeC hc0 hk hc hn he (Nat.ne_of_beq_eq_false hne)
end
theorem tsL_len (l : List Tn) : (tsL l).length = l.length := List.length_map _
theorem h_appendT (acc new : List Tn) {s : ASt} {dst : Option Nat} {ty : Nat} {pos : String} {af : Array Edge} {gd : Option (Nat × Bool)} {x y : Operand} {f : Nat} {ids ids2 : List Nat} {gone : List (Nat × Option Chunk)}
  (hto : AppTo s x 138 2 (tsL acc) ids gone) (harg : AppArg s y 2 (tsL new) ids2) (h : (acc ++ new).length ≤ 100000000) (hnew : gone = [] → 0 < new.length) :
  NOp Tryz.prog (ids ++ ids2) s ⟨dst, .call { callee := .builtin .append, args := #[x, y], argTypes := #[72, 72] }, ty, pos, af, gd⟩ f ⟨.own f (acc ++ new).length, (f, some (.arr 138 2 (tsL (acc ++ new)))) :: gone⟩ := by
 have := h_append (P := Tryz.prog) (s := s) (dst := dst) (ty := ty) (pos := pos) (af := af) (gd := gd) (x := x) (y := y) (f := f) (t := 72) (tx := 72) (k := (acc ++ new).length) rfl rfl rfl rfl rfl rfl hto harg (by simp) (by omega) (by show (acc ++ new).length * 48 ≤ _; omega) (fun h => by rw [tsL_len]; exact hnew h)
 rwa [← List.map_append] at this
def small (N : Net) : Prop := 0 ≤ N.places ∧ N.places ≤ 31 ∧ N.ts.length ≤ 4 ∧ ∀ t, t ∈ N.ts → t.pre.length ≤ 2 ∧ t.post.length ≤ 2
theorem hasI_mem {l : List Int} {n : Int} : hasI l n = true ↔ n ∈ l := by
 unfold hasI;rw [List.any_eq_true];constructor
 ·rintro ⟨x, hx, e⟩;rw [decide_eq_true_eq] at e;exact e ▸ hx
 intro h; exact ⟨n, h, by simp⟩
open Go.ChangeShapes Go.WideShapes Go.ChangeAt Go.RowKit
theorem rowAt_le {p : Program} {fits : TypeId → Bool} {e : TypeId} {count off n : Nat} : ∀ {d : Nat}, rowAt p fits d e count off n = true → off ≤ count * p.cellsOf e
 | 0, h => by simp [rowAt] at h
 | d + 1, h => by
  unfold rowAt at h
  by_cases hs : p.cellsOf e = 0
  ·simp [hs] at h
  simp only [hs, if_false, Bool.or_eq_true, Bool.and_eq_true, beq_iff_eq, decide_eq_true_eq] at h;have hp : 0 < p.cellsOf e := by omega
  have hd := Nat.div_add_mod off (p.cellsOf e);rcases h with ⟨⟨h1, h2⟩, _⟩ | ⟨h1, _⟩
  ·have : p.cellsOf e * (off / p.cellsOf e) ≤ count * p.cellsOf e := by rw [Nat.mul_comm count]; exact Nat.mul_le_mul_left _ (by omega)
   omega
  have h3 : p.cellsOf e * (off / p.cellsOf e + 1) ≤ count * p.cellsOf e := by rw [Nat.mul_comm count]; exact Nat.mul_le_mul_left _ (by omega)
  have := Nat.mod_lt off hp;rw [Nat.mul_add, Nat.mul_one] at h3;omega
theorem lies_le {p : Program} {e u : TypeId} {cells off n d : Nat} (hu : ∀ m u', p.underlying u ≠ some (.array m u')) (h : liesAt p d e (cells / p.cellsOf e) off u n = true) : off ≤ cells := by
 cases d with
 | zero => simp [liesAt] at h
 | succ d =>
  unfold liesAt at h;rw [Bool.or_eq_true] at h;rcases h with h | h
  ·have := rowAt_le h;exact Nat.le_trans this (Nat.div_mul_le_self _ _)
  split at h
  ·rename_i m u' e2; exact absurd e2 (hu m u')
  cases h
theorem byte_of {n : Int} (h : (Lit.int .u8 n).wf = true) : n = (((UInt8.ofNat n.toNat).toNat : Nat) : Int) := by
 have := bounds_u8 h
 have e : (UInt8.ofNat n.toNat).toNat = n.toNat := by
  rw [UInt8.toNat_ofNat'];exact Nat.mod_eq_of_lt (by omega)
 rw [e]; omega
theorem okWide_has {P : Program} {w : World} {r : Reach} {base : Nat} {t e : TypeId} {a : Addr} {len cap : Nat} (ht : P.underlying t = some (.slice e)) (h : Value.okWide P w r base t (.slice (some a) len cap)) : w.has P r base a e cap := by
 simp only [Value.okWide, ht, Cell.okWide, Cell.ok] at h;exact h.2.2
theorem arg_bytes {H : Type} {enc : TypeId × Value → H} {P : Program} {W : World} {t e te base : Nat} {v : Value} {d : DataW H} {ps : List MemPlace} (ht : P.underlying t = some (.slice e)) (he : P.underlying e = some (.int .u8)) (hc : P.cellsOf e = 1)
  (hval : Value.okWide P W .any base t v) (h : DataW.Trod enc P W 0 (fun _ => true) true t v d ps) :
  ∃ xs : List UInt8, xs.length ≤ 9223372036854775807 ∧ DRep (fun k => k < W.heap.size) W (.view te 1 (xs.map fun b => [dB b])) v := by
 obtain ⟨a0, len, cap, rfl⟩ := okWide_slice ht hval;obtain ⟨fuel, hf⟩ := h;rcases open_ints ht he hc hf with ⟨hcs, hx⟩ | ⟨a, len', cap', zs, hcs, _, hl, hm, hz, hx, hcell, hwz⟩
 ·simp [Value.cells] at hcs;obtain ⟨rfl, rfl, rfl⟩ := hcs;exact ⟨[], Nat.zero_le _, .nil⟩
 simp [Value.cells] at hcs;obtain ⟨rfl, rfl, rfl⟩ := hcs;simp only [if_true] at hz;obtain ⟨_, hspot, row, cells, hsh, hlies⟩ := okWide_has ht hval;have hoff : a.off ≤ cells := lies_le (fun m u' hh => by rw [he] at hh; cases hh) hlies;unfold World.shape? at hsh
 split at hsh
 ·rename_i arr el fz hb;simp only [Option.some.injEq, Prod.mk.injEq] at hsh;obtain ⟨rfl, rfl⟩ := hsh;obtain ⟨b, off, spot⟩ := a;simp only at hspot hb hoff;subst hspot
  have hat : ∀ i, i < zs.length → arr[off + i]? = some (.int .u8 (zs.getD i 0)) := by
   intro i hi;have := hcell i hi;rw [add_plain] at this;unfold World.cell? at this;simpa [hb] using this
  have hsz : off + cap ≤ arr.size := by
   by_cases hc0 : cap = 0
   ·omega
   have := hat (cap - 1) (by omega);have := (Array.getElem?_eq_some_iff.1 this).1;omega
  refine ⟨(zs.take len).map fun n => UInt8.ofNat n.toNat, ?_, ?_⟩
  ·rw [List.length_map, List.length_take];have : cap ≤ 9223372036854775807 := hm;omega
  have hle : (((zs.take len).map fun n => UInt8.ofNat n.toNat).map fun b => [dB b]).length = len := by
   rw [List.length_map, List.length_map, List.length_take]; omega
  have hv := DRep.view (F := fun k => k < W.heap.size) (w := W) (e := te) (sz := 1) (els := ((zs.take len).map fun n => UInt8.ofNat n.toNat).map fun b => [dB b]) (b := b) (off := off) (cap := cap) (arr := arr) (lt_of_block hb) hb (by omega) hm (by omega) (fun i cs hi => ?_) (fun i cs j d hi hj => ?_)
  ·rw [hle] at hv; exact hv
  ·rw [List.getElem?_map] at hi;cases hh : ((zs.take len).map fun n => UInt8.ofNat n.toNat)[i]? with
   | none => rw [hh] at hi; cases hi
   | some b => rw [hh] at hi; cases hi; rfl
  rw [List.getElem?_map, List.getElem?_map] at hi;cases hh : (zs.take len)[i]? with
  | none => rw [hh] at hi; cases hi
  | some n =>
   rw [hh] at hi;cases hi;obtain ⟨hi1, hi2⟩ := List.getElem?_eq_some_iff.1 hh;rw [List.length_take] at hi1;rw [List.getElem_take] at hi2;have hw := hwz n (by rw [← hi2]; exact List.getElem_mem _);cases j with
   | succ j => simp at hj
   | zero =>
    simp only [List.getElem?_cons_zero, Option.some.injEq] at hj;subst hj;have hai := hat i (by omega);have hgd : zs.getD i 0 = n := by rw [List.getD_eq_getElem?_getD, List.getElem?_eq_getElem (by omega), hi2]; rfl
    rw [hgd] at hai
    have : arr.getD (off + i * 1 + 0) undef = .int .u8 n := by
     rw [Nat.mul_one, Nat.add_zero, Array.getD_eq_getD_getElem?, hai]; rfl
    rw [this];have hb8 := byte_of hw;generalize (UInt8.ofNat n.toNat) = b8 at hb8;subst hb8;refine .val ?_;show IntKind.u8.wrap _ = _;rw [wrap_ok];have := UInt8.toNat_lt b8;exact ⟨by show (0 : Int) ≤ _; omega, by show _ ≤ (255 : Int); omega⟩
 cases hsh
theorem ASpec.law {P : Program} {f : FuncId} {ars : List AV} {W : World} {vs : Array Value} (h : ASpec P f ars [] (Pure1 (aT true))) (hn : vs.size = ars.length) (ha : ∀ (i : Nat) x, ars[i]? = some x → ARep (fun _ => none) (fun k => k < W.heap.size) W x (vs.getD i undef)) :
  Calls P f vs W fun e W' => e = .returned (.bool true) ∧ Below W.heap.size W W' := by
 refine (h W (fun _ => none) (fun k => k < W.heap.size) vs (fun k hk => ⟨hk, fun id c p hc => by simp [getL] at hc⟩) hn ha (fun id c hc => by simp [getL] at hc) (fun id id' c c' p p' b hc => by simp [getL] at hc) (fun id _ => rfl)).mono ?_;rintro e W' ⟨v, r, chs', m', F', rfl, ⟨rfl, rfl⟩, _, _, _, ⟨h1, h2, h3, h4, h5⟩, hv, _⟩;refine ⟨?_, h1, h2, h3, h4, fun k hk => h5 k hk (fun id c p hc => by simp [getL] at hc)⟩;cases hv with
 | d hd => cases hd; rfl
theorem getD_at {l : List Int} {k : Nat} (h : k < l.length) : l.getD k 0 = l[k] := by rw [List.getD_eq_getElem?_getD, List.getElem?_eq_getElem h]; rfl
theorem same_of {a b : List Int} (hl : a.length = b.length) (h : ∀ j, j < a.length → a.getD j 0 = b.getD j 0) : a = b :=
 List.ext_getElem hl fun j ha hb => by have := h j ha; rwa [getD_at ha, getD_at hb] at this
theorem same_no {a b : List Int} {j : Nat} (h : a.getD j 0 ≠ b.getD j 0) : a ≠ b := fun e => h (by rw [e])
def mapI (l : List Int) (d : Int) : List Int := l.map (fun x => x + d)
theorem mapI_len (l : List Int) (d : Int) : (mapI l d).length = l.length := List.length_map _
theorem mapI_take {l : List Int} {d : Int} {k : Nat} (hk : k < l.length) : mapI (l.take (k + 1)) d = mapI (l.take k) d ++ [l[k] + d] := by
 unfold mapI;rw [List.take_add_one, List.getElem?_eq_getElem hk, List.map_append]; rfl
theorem sameInts_spec (a b : List Int) (ha : a.length ≤ 1000000) (hb : b.length ≤ 1000000) : ASpec Tryz.prog 8 [.d (vI a), .d (vI b)] [] (Pure1 (aT (decide (a = b)))) := by
 refine ASpec.of Tryz.func8 rfl rfl fun C hC => ?_
 refine AC.seq (AC.region ?_);refine za ?_;refine AL.nil (th_n (AC.seq (AC.seq (AC.region ?_))));refine zm ?_;refine kH ?_;refine zm ?_;refine kH ?_;refine zc ?_;refine AL.nil (th_n ?_);refine AC.condND rfl (fun h0 => ?_) (fun h0 => ?_)
 ·refine AC.seq (AC.region ?_);refine za ?_;refine AL.nil (th_n (AC.ret (th_r (bq_r ?_))));have hne : a ≠ b := fun e => h0 (by rw [e])
  exact ret1 rfl (by rw [decide_eq_false hne])
 refine AC.skip (th_n (AC.seq (AC.seq (AC.region ?_))));refine zm ?_;refine kH ?_;refine zm ?_;refine AL.nil (th_n (AC.block ?_));refine AC.loop (ι := Nat) (fun k => ⟨26, 0, [(0, .d (vI a)), (1, .d (vI b)), (12, aI a.length), (13, aI k)], []⟩) (fun k => k ≤ a.length ∧ ∀ j, j < k → a.getD j 0 = b.getD j 0) (fun k => a.length - k) (0) ?_ (⟨Nat.zero_le _, fun j hj => by omega⟩) ?_
 ·refine Weak.ren _ [] hC rfl ?_ ?_ rfl rfl rfl <;> repeat (first | exact True.intro | refine And.intro ?_ ?_ | exact DLead.same)
 intro k ⟨hk, hall⟩;refine AC.seq (AC.region ?_);refine zc ?_;refine AL.nil (th_n (AC.seq ?_));refine AC.condD rfl (fun h1 => ?_) (fun h1 => ?_)
 ·refine AC.skip (th_n (AC.seq (AC.block (AC.seq ?_))));have hk1 : k < a.length := by omega
  have hl : a.length = b.length := by omega
  have hget : (ints a)[k]? = some [dI (a.getD k 0)] := ints_get hk1;have hget2 : (ints b)[k]? = some [dI (b.getD k 0)] := ints_get (by omega);refine AC.region ?_;refine zm ?_;refine za ?_;refine AL.nil (th_n (AC.seq ?_));refine AC.drawn' mixed_ok [[], [], [0,1], [0,1,2], [], [], [4,5], [4,5,6], [0,1,2,3,4,5,6,7]] (by decide) ?_;refine zd 0 [] 9 (by exact mv1 rfl) ?_;refine zd 1 [] 9 (by exact mv1 rfl) ?_;refine zd 2 [0,1] 9 (by exact g_ia_view rfl rfl rfl rfl rfl (by rfl) (by assumption)) ?_;refine zd 3 [0,1,2] 9 (by exact g_load_ref rfl rfl rfl) ?_;refine zd 4 [] 9 (by exact mv1 rfl) ?_;refine zd 5 [] 9 (by exact mv1 rfl) ?_;refine zd 6 [4,5] 9 (by exact g_ia_view rfl rfl rfl rfl rfl (by rfl) (by assumption)) ?_;refine zd 7 [4,5,6] 9 (by exact g_load_ref rfl rfl rfl) ?_;refine zd 8 [0,1,2,3,4,5,6,7] 9 (by exact g_cmp rfl rfl rfl) ?_;refine zj 9 ?_;refine th_n ?_;refine AC.condND rfl (fun h2 => ?_) (fun h2 => ?_)
  ·refine AC.seq (AC.region ?_);refine za ?_;refine AL.nil (th_n (AC.ret (ib_r (th_r (th_r (ib_r (th_r (bq_r ?_))))))));have hne : a ≠ b := same_no (by simpa using h2);exact ret1 rfl (by rw [decide_eq_false hne])
  refine AC.skip (ib_n (th_n (AC.region ?_)));refine zA ?_;refine zm ?_;refine AL.nil (th_n ?_);exact ⟨k + 1, ⟨by omega, fun j hj => by rcases Nat.lt_succ_iff_lt_or_eq.1 hj with h | rfl; exact hall j h; simpa using h2⟩, by omega, Weak.ren _ [] hC rfl (by repeat (first | exact True.intro | refine And.intro ?_ ?_ | exact DLead.same)) (by repeat (exact True.intro)) rfl rfl rfl⟩
 refine AC.exit (th_e (th_e (ib_y (th_n (AC.seq (AC.region ?_))))));refine za ?_;refine AL.nil (th_n (AC.ret (bq_r ?_)));have he : a = b := same_of (by omega) (fun j hj => hall j (by omega));exact ret1 rfl (by rw [decide_eq_true he])
theorem en_sameInts : Enters Tryz.prog 8 := enters_of Tryz.func8 rfl rfl
theorem slEqual_spec (a b : List Int) (ha : a.length ≤ 1000000) (hb : b.length ≤ 1000000) : ASpec Tryz.prog 27 [.d (vI a), .d (vI b)] [] (Pure1 (aT (decide (a = b)))) := by
 refine ASpec.of Tryz.func27 rfl rfl fun C hC => ?_
 refine AC.seq (AC.region ?_);refine za ?_;refine AL.nil (th_n (AC.seq (AC.seq (AC.region ?_))));refine zm ?_;refine kH ?_;refine zm ?_;refine kH ?_;refine zc ?_;refine AL.nil (th_n ?_);refine AC.condND rfl (fun h0 => ?_) (fun h0 => ?_)
 ·refine AC.seq (AC.region ?_);refine za ?_;refine AL.nil (th_n (AC.ret (th_r (bq_r ?_))));have hne : a ≠ b := fun e => h0 (by rw [e])
  exact ret1 rfl (by rw [decide_eq_false hne])
 refine AC.skip (th_n (AC.seq (AC.seq (AC.region ?_))));refine zm ?_;refine kH ?_;refine zm ?_;refine AL.nil (th_n (AC.block ?_));refine AC.loop (ι := Nat) (fun k => ⟨26, 0, [(0, .d (vI a)), (1, .d (vI b)), (12, aI a.length), (13, aI k)], []⟩) (fun k => k ≤ a.length ∧ ∀ j, j < k → a.getD j 0 = b.getD j 0) (fun k => a.length - k) (0) ?_ (⟨Nat.zero_le _, fun j hj => by omega⟩) ?_
 ·refine Weak.ren _ [] hC rfl ?_ ?_ rfl rfl rfl <;> repeat (first | exact True.intro | refine And.intro ?_ ?_ | exact DLead.same)
 intro k ⟨hk, hall⟩;refine AC.seq (AC.region ?_);refine zc ?_;refine AL.nil (th_n (AC.seq ?_));refine AC.condD rfl (fun h1 => ?_) (fun h1 => ?_)
 ·refine AC.skip (th_n (AC.seq (AC.block (AC.seq ?_))));have hk1 : k < a.length := by omega
  have hl : a.length = b.length := by omega
  have hget : (ints a)[k]? = some [dI (a.getD k 0)] := ints_get hk1;have hget2 : (ints b)[k]? = some [dI (b.getD k 0)] := ints_get (by omega);refine AC.region ?_;refine zm ?_;refine za ?_;refine AL.nil (th_n (AC.seq ?_));refine AC.drawn' mixed_ok [[], [], [0,1], [0,1,2], [], [], [4,5], [4,5,6], [0,1,2,3,4,5,6,7]] (by decide) ?_;refine zd 0 [] 9 (by exact mv1 rfl) ?_;refine zd 1 [] 9 (by exact mv1 rfl) ?_;refine zd 2 [0,1] 9 (by exact g_ia_view rfl rfl rfl rfl rfl (by rfl) (by assumption)) ?_;refine zd 3 [0,1,2] 9 (by exact g_load_ref rfl rfl rfl) ?_;refine zd 4 [] 9 (by exact mv1 rfl) ?_;refine zd 5 [] 9 (by exact mv1 rfl) ?_;refine zd 6 [4,5] 9 (by exact g_ia_view rfl rfl rfl rfl rfl (by rfl) (by assumption)) ?_;refine zd 7 [4,5,6] 9 (by exact g_load_ref rfl rfl rfl) ?_;refine zd 8 [0,1,2,3,4,5,6,7] 9 (by exact g_cmp rfl rfl rfl) ?_;refine zj 9 ?_;refine th_n ?_;refine AC.condND rfl (fun h2 => ?_) (fun h2 => ?_)
  ·refine AC.seq (AC.region ?_);refine za ?_;refine AL.nil (th_n (AC.ret (ib_r (th_r (th_r (ib_r (th_r (bq_r ?_))))))));have hne : a ≠ b := same_no (by simpa using h2);exact ret1 rfl (by rw [decide_eq_false hne])
  refine AC.skip (ib_n (th_n (AC.region ?_)));refine zA ?_;refine zm ?_;refine AL.nil (th_n ?_);exact ⟨k + 1, ⟨by omega, fun j hj => by rcases Nat.lt_succ_iff_lt_or_eq.1 hj with h | rfl; exact hall j h; simpa using h2⟩, by omega, Weak.ren _ [] hC rfl (by repeat (first | exact True.intro | refine And.intro ?_ ?_ | exact DLead.same)) (by repeat (exact True.intro)) rfl rfl rfl⟩
 refine AC.exit (th_e (th_e (ib_y (th_n (AC.seq (AC.region ?_))))));refine za ?_;refine AL.nil (th_n (AC.ret (bq_r ?_)));have he : a = b := same_of (by omega) (fun j hj => hall j (by omega));exact ret1 rfl (by rw [decide_eq_true he])
theorem en_slEqual : Enters Tryz.prog 27 := enters_of Tryz.func27 rfl rfl
theorem l1Own_spec (l : List Int) (hl : l.length ≤ 1000000) : ASpec Tryz.prog 131 [.d (vI l)] [] (Pure1 (.d (vI l))) := by
 refine ASpec.of Tryz.func131 rfl rfl fun C hC => ?_
 refine AC.seq (AC.region ?_);refine za ?_;refine AL.nil (th_n (AC.seq (AC.region ?_)));refine AL.q (by exact h_lit rfl rfl rfl rfl rfl rfl rfl rfl) rfl ?_;refine zm ?_;refine AL.q (by exact h_appendI [] l (.own rfl rfl rfl) (.view rfl) (by simp; omega) (by simp)) rfl ?_;refine AL.weak (Weak.freeze (i := 5) rfl rfl (Nat.le_of_eq (ints_len _).symm) (ints_all _)) ?_;refine za ?_;refine AL.nil (th_n (AC.ret (bq_r ?_)));exact ret1 rfl rfl
theorem en_l1Own : Enters Tryz.prog 131 := enters_of Tryz.func131 rfl rfl
set_option maxHeartbeats 1000000 in
theorem l1Shift_spec (l : List Int) (d : Int) (hl : l.length ≤ 1000000) (hr : ∀ x, x ∈ l → -1000000 ≤ x ∧ x ≤ 1000000) (hd : -1000000 ≤ d ∧ d ≤ 1000000) : ASpec Tryz.prog 121 [.d (vI l), aI d] [] (Pure1 (.d (vI (mapI l d)))) := by
 refine ASpec.of Tryz.func121 rfl rfl fun C hC => ?_
 refine AC.seq (AC.region ?_);refine za ?_;refine AL.nil (th_n (AC.seq (AC.region ?_)));refine za ?_;refine AL.nil (th_n (AC.seq (AC.seq (AC.region ?_))));refine zm ?_;refine kH ?_;refine zm ?_;refine AL.nil (th_n (AC.block ?_));refine AC.loop (ι := Nat) (fun k => ⟨22, 108, [(1, aI d), (5, .own 100 k), (8, .d (vI l)), (9, aI l.length), (10, aI k)], [(100, some (.arr 3 1 (ints (mapI (l.take k) d))))]⟩) (fun k => k ≤ l.length) (fun k => l.length - k) (0) ?_ (Nat.zero_le _) ?_
 ·exact (Weak.nilOwn (i := 5) (e := 3) (sz := 1) rfl (by decide)).trans (zw [(100, _)] hC)
 intro k hk;refine AC.seq (AC.region ?_);refine zc ?_;refine AL.nil (th_n (AC.seq ?_));refine AC.condD rfl (fun h0 => ?_) (fun h0 => ?_)
 ·refine AC.skip (th_n (AC.seq (AC.block (AC.seq ?_))));have hk1 : k < l.length := by omega
  have hget := ints_at hk1;have hx := hr _ (List.getElem_mem hk1);have hml : (mapI (l.take k) d).length = k := by rw [mapI_len, List.length_take]; omega
  refine AC.region ?_;refine AL.p (by exact g_ia_view rfl rfl rfl rfl rfl (by rfl) (by assumption)) rfl ?_;refine zr ?_;refine za ?_;refine AL.nil (th_n (AC.region ?_));refine kB ?_;refine zm ?_;refine zm ?_;refine zA ?_;refine AL.q (by exact h_litF rfl rfl rfl rfl rfl rfl rfl rfl) rfl ?_;refine AL.q (by exact h_appendI (mapI (l.take k) d) [l[k] + d] (.own rfl rfl (by rw [ints_len, hml])) (.view rfl) (by simp; omega) (by simp)) rfl ?_;refine AL.p (by exact as2 rfl) rfl ?_;refine AL.nil (ib_n (th_n (AC.region ?_)));refine zA ?_;refine zm ?_;refine AL.nil (th_n ?_);have hl2 : (mapI (l.take k) d ++ [l[k] + d]).length = k + 1 := by rw [List.length_append, hml]; rfl
  exact ⟨k + 1, by omega, by omega, zw [(100, _)] hC (by rw [← hl2]; repeat (first | exact True.intro | refine And.intro ?_ ?_ | exact DLead.same | exact DLead.eqI (by omega) | exact rfl | refine ⟨_, rfl, ?_⟩)) (by rw [mapI_take hk1]; repeat (first | exact True.intro | refine And.intro ?_ ?_ | exact rfl | refine ⟨_, _, rfl, rfl, ?_⟩))⟩
 refine AC.exit (th_e (th_e (ib_y (th_n (AC.seq ?_)))));have hkk : k = l.length := by omega
 subst hkk;refine AC.weak (Weak.freeze (els' := ints (mapI l d)) (i := 5) rfl rfl (by rw [ints_len, mapI_len]; simp) (by rw [List.take_length, List.take_of_length_le (by rw [ints_len, mapI_len]; exact Nat.le_refl _)])) ?_;refine AC.region ?_;refine zm ?_;refine za ?_;refine AL.nil (th_n (AC.ret (bq_r ?_)));exact ret1 rfl rfl
theorem en_l1Shift : Enters Tryz.prog 121 := enters_of Tryz.func121 rfl rfl
section
variable {P : Program} [PT P] {s : ASt} {dst : Option Nat} {ty : Nat} {pos : String} {af : Array Edge} {gd : Option (Nat × Bool)} {x y : Operand} {f t : Nat}
theorem h_make {e n bt sz k : Nat} {zs : List ZK} {te : TS} {I : Int} (ht : PT.ty P t = some ⟨.slice e, n, bt, zs⟩) (he : PT.ty P e = some te) (hs : te.size = sz) (hz0 : te.zero.length = te.size) (h0 : Nat.beq sz 0 = false)
  (hx : s.ev x = aI I) (hy : s.ev y = aI I) (hI : I = (k : Int)) (hbytes : te.bytes * k ≤ 281474976710656) (hk : k ≤ 9223372036854775807) :
  NOp P [] s ⟨dst, .makeSlice t x y, ty, pos, af, gd⟩ f ⟨.own f k, [(f, some (.arr e sz (List.replicate k (te.zero.map fun z => DV.val z.val))))]⟩ := by
 refine NOp.value fun s' ha C U U' a w m hR hU hU' hd => ?_
 have hne : sz ≠ 0 := Nat.ne_of_beq_eq_false h0;obtain ⟨i, d, z, hi, hd', hkd, h1, h2, h3, h4⟩ := PT.facts he;have hvx := hR.ev x;rw [ha.2.1 x (by simp [Op.operands]), hx] at hvx;obtain ⟨ex, _⟩ := hvx.val_eq;have hvy := hR.ev y;rw [ha.2.1 y (by simp [Op.operands]), hy] at hvy;obtain ⟨ey, _⟩ := hvy.val_eq;subst hI
 have hb' : (i.bytes : Int) * (k : Int) ≤ 281474976710656 := by
  rw [h2];have : ((te.bytes * k : Nat) : Int) ≤ 281474976710656 := by omega
  rwa [Int.natCast_mul] at this
 have hrun := run_make (P := P) w t e i z (PT.slice ht) hi h3 .i64 .i64 (k : Int) (k : Int) (by omega) (Int.le_refl _) hb' (by omega);simp only [Int.toNat_natCast] at hrun;have hzc : z.cells.size = sz := by rw [h4]; simp [hz0, hs]
 have hXs : (madeCells z.cells (k * i.size)).size = k * sz := by rw [size_madeCells, h1, hs]
 refine ⟨_, _, _, ?_, hR.newArr (n := k) (cap := k) (els := List.replicate k (te.zero.map fun z => DV.val z.val)) (vs := madeCells z.cells (k * i.size)) (fz := (0, 0)) (e := e) (sz := sz) hd (by simpa using hU 0 (by omega)) (fun j hj => by have := hU' j hj; exact ⟨this.1, by omega⟩) (by simp) hXs (by simp) (by simp only [maxLen]; omega) (by omega) (fun i' cs hc => ?_) (fun i' cs j dd hc hdd => ?_)⟩
 ·simp only [execOp, Sem.run_bind, ex, ey, hrun]
  rfl
 ·obtain ⟨h5, h6⟩ := List.getElem?_eq_some_iff.1 hc;rw [List.getElem_replicate] at h6;rw [← h6, List.length_map, hz0, hs]
 obtain ⟨h5, h6⟩ := List.getElem?_eq_some_iff.1 hc;rw [List.getElem_replicate] at h6;rw [List.length_replicate] at h5;subst h6;rw [List.getElem?_map, Option.map_eq_some_iff] at hdd;obtain ⟨zk, hzk, rfl⟩ := hdd;have hj : j < sz := by have := (List.getElem?_eq_some_iff.1 hzk).1; omega
 have hin : i' * sz + j < k * i.size := by
  rw [h1, hs];have : (i' + 1) * sz ≤ k * sz := Nat.mul_le_mul_right _ h5;rw [Nat.succ_mul] at this; omega
 have hmod : (i' * sz + j) % sz = j := by rw [Nat.mul_comm, Nat.mul_add_mod, Nat.mod_eq_of_lt hj]
 have hval : (madeCells z.cells (k * i.size)).getD (i' * sz + j) undef = zk.val := by
  unfold madeCells;rw [Array.getD_eq_getD_getElem?, Array.getElem?_map, Array.getElem?_range, if_pos hin];show z.cells[(i' * sz + j) % z.cells.size]! = zk.val;rw [hzc, hmod, h4];rw [getElem!_def];simp [hzk]
 rw [hval];exact .val zk.ok
end
inductive BL1 (ids : List Nat) (s : ASt) : DV → AV → Prop
 | d {x : DV} : BL1 ids s x (.d x)
 | nil {e sz : Nat} : BL1 ids s (.view e sz []) (.d (.val (.slice none 0 0)))
 | own {id n e sz : Nat} {els els' : List (List DV)} : ids.contains id = true → s.chunk id = some (.arr e sz els) → n ≤ els.length → els.take n = els' → BL1 ids s (.view e sz els') (.own id n)
 | pred {id : Nat} {x : DV} {v : Value} {S : Nat → Prop} {K : World → Prop} : ids.contains id = true → s.chunk id = some (.pred S K) → (∀ w, K w → DRep S w x v) → BL1 ids s x (.d (.val v))
inductive BLs (ids : List Nat) (s : ASt) : List DV → List AV → Prop
 | nil : BLs ids s [] []
 | cons {d : DV} {c : AV} {ds : List DV} {cs : List AV} : BL1 ids s d c → BLs ids s ds cs → BLs ids s (d :: ds) (c :: cs)
inductive BP (ids : List Nat) (s : ASt) : DV → AV → Prop
 | of {x : DV} {y : AV} : BL1 ids s x y → BP ids s x y
 | ptr {id t : Nat} {cs : List AV} {ds : List DV} : ids.contains id = true → s.chunk id = some (.cells t cs) → BLs ids s ds cs → BP ids s (.ref ds) (.ptr id 0)
inductive BPs (ids : List Nat) (s : ASt) : List DV → List AV → Prop
 | nil : BPs ids s [] []
 | cons {d : DV} {c : AV} {ds : List DV} {cs : List AV} : BP ids s d c → BPs ids s ds cs → BPs ids s (d :: ds) (c :: cs)
theorem BPs.get {ids : List Nat} {s : ASt} {ds : List DV} {cs : List AV} (h : BPs ids s ds cs) : ds.length = cs.length ∧ ∀ (i : Nat) c, cs[i]? = some c → ∃ d, ds[i]? = some d ∧ BP ids s d c := by
 induction h with
 | nil => exact ⟨rfl, fun i c h => by simp at h⟩
 | cons h _ ih =>
  refine ⟨by simp [ih.1], fun i c hc => ?_⟩;cases i with
  | zero => simp at hc; subst hc; exact ⟨_, rfl, h⟩
  | succ i => simpa using ih.2 i c (by simpa using hc)
inductive BL (ids : List Nat) (s : ASt) : AV → AV → Prop
 | cloB {f : FuncId} {ds : List DV} {cs : List AV} : BPs ids s ds cs → BL ids s (.clo f (ds.map .d)) (.clo f cs)
 | of {x : DV} {y : AV} : BL1 ids s x y → BL ids s (.d x) y
 | clo {f : FuncId} {ds : List DV} : BL ids s (.clo f (ds.map .d)) (.clo f (ds.map .d))
 | agg {ds : List DV} : BL ids s (.agg (ds.map .d)) (.agg (ds.map .d))
 | ptr {id t : Nat} {cs : List AV} {ds : List DV} : ids.contains id = true → s.chunk id = some (.cells t cs) → BLs ids s ds cs → BL ids s (.d (.ref ds)) (.ptr id 0)
 | aggs {cs : List AV} {ds : List DV} : BLs ids s ds cs → BL ids s (.agg (ds.map .d)) (.agg cs)
inductive BAs (ids : List Nat) (s : ASt) : List AV → List AV → Prop
 | nil : BAs ids s [] []
 | cons {x y : AV} {xs ys : List AV} : BL ids s x y → BAs ids s xs ys → BAs ids s (x :: xs) (y :: ys)
theorem BLs.get {ids : List Nat} {s : ASt} {ds : List DV} {cs : List AV} (h : BLs ids s ds cs) : ds.length = cs.length ∧ ∀ (i : Nat) d, ds[i]? = some d → ∃ c, cs[i]? = some c ∧ BL1 ids s d c := by
 induction h with
 | nil => exact ⟨rfl, fun i d h => by simp at h⟩
 | cons h _ ih =>
  refine ⟨by simp [ih.1], fun i d hd => ?_⟩;cases i with
  | zero => simp at hd; subst hd; exact ⟨_, rfl, h⟩
  | succ i => simpa using ih.2 i d (by simpa using hd)
theorem BAs.get {ids : List Nat} {s : ASt} {xs ys : List AV} (h : BAs ids s xs ys) : xs.length = ys.length ∧ ∀ (i : Nat) x, xs[i]? = some x → ∃ y, ys[i]? = some y ∧ BL ids s x y := by
 induction h with
 | nil => exact ⟨rfl, fun i d h => by simp at h⟩
 | cons h _ ih =>
  refine ⟨by simp [ih.1], fun i d hd => ?_⟩;cases i with
  | zero => simp at hd; subst hd; exact ⟨_, rfl, h⟩
  | succ i => simpa using ih.2 i d (by simpa using hd)
mutual
def AV.flat : AV → Bool
 | .d (.val _) => true
 | .tup cs => AV.flatL cs
 | .agg cs => AV.flatL cs
 | _ => false
def AV.flatL : List AV → Bool
 | [] => true
 | c :: cs => c.flat && AV.flatL cs
end
theorem AV.flatL_get : ∀ {cs : List AV}, AV.flatL cs = true → ∀ (i : Nat) c, cs[i]? = some c → c.flat = true
 | [], _, i, c, h => by simp at h
 | c :: cs, hf, i, c', h => by
  simp only [AV.flatL, Bool.and_eq_true] at hf;cases i with
  | zero => simp at h; subst h; exact hf.1
  | succ i => exact AV.flatL_get hf.2 i c' (by simpa using h)
theorem ARep.flat {m m' : Nat → Option (Option Nat × Nat)} {F F' : Nat → Prop} {w w' : World} {x : AV} {v : Value} (h : ARep m F w x v) : x.flat = true → ARep m' F' w' x v := by
 induction h with
 | d h => intro hf; rename_i x v; cases x with
  | val u => exact .d (h.flat trivial)
  | _ => simp [AV.flat] at hf
 | agg h1 _ h3 ih => intro hf; exact .agg h1 (fun i c hc => ih i c hc (AV.flatL_get (by simpa [AV.flat] using hf) i c hc)) h3
 | tup h1 _ ih => intro hf; exact .tup h1 (fun i c hc => ih i c hc (AV.flatL_get (by simpa [AV.flat] using hf) i c hc))
 | _ => intro hf; simp [AV.flat] at hf
section
variable {P : Program} [PT P]
variable {s : ASt} {dst : Option Nat} {ty : Nat} {pos : String} {af : Array Edge} {gd : Option (Nat × Bool)} {f : Nat}
theorem BL1.rep {C : Ctx} {U : Nat → Prop} {ids : List Nat} {s' : ASt} {a : Act} {w : World} {m : Nat → Option (Option Nat × Nat)} (hR : RelM C U s' a w m) (hch : ∀ id, id ∈ ids → s'.chunk id = s.chunk id) {F : Nat → Prop} (hF : ∀ k, k < w.heap.size → F k) {x : DV} {y : AV} {v : Value} (h : BL1 ids s x y) (hy : ARep m (Fz C m s' w) w y v) : DRep F w x v := by
 have hFz : ∀ q, Fz C m s' w q → F q := fun q hq => hF q hq.2.1
 cases h with
 | d => cases hy with | d h => exact h.mono hFz
 | nil => cases hy with | d h => cases h; exact .nil
 | @own id n e sz els els' hid hc hn he =>
  subst he;have hc' : s'.chunk id = some (.arr e sz els) := by rw [hch id (by simpa using hid)]; exact hc
  obtain ⟨p, hp, hr, _⟩ := hR.ch id _ hc';exact own_view hy hp hr hn hFz (fun b hb => hF b (hr.lt (.inl hb)))
 | @pred id _ u S K hid hc hK =>
  have hc' : s'.chunk id = some (.pred S K) := by rw [hch id (by simpa using hid)]; exact hc
  obtain ⟨p, hp, hr, _⟩ := hR.ch id _ hc';have hv : v = u := by cases hy with | d h => cases h; rfl
  subst hv;cases hr with
  | pred h1 h2 h3 => exact (hK w h1).mono fun k hk => hF k (h3 k hk)
theorem BP.rep {C : Ctx} {U : Nat → Prop} {ids : List Nat} {s' : ASt} {a : Act} {w : World} {m : Nat → Option (Option Nat × Nat)} (hR : RelM C U s' a w m) (hch : ∀ id, id ∈ ids → s'.chunk id = s.chunk id) {F : Nat → Prop} (hF : ∀ k, k < w.heap.size → F k) {x : DV} {y : AV} {v : Value} (h : BP ids s x y) (hy : ARep m (Fz C m s' w) w y v) : DRep F w x v := by
 have hFz : ∀ q, Fz C m s' w q → F q := fun q hq => hF q hq.2.1
 cases h with
 | of h => exact h.rep hR hch hF hy
 | ptr hid hc hcs =>
  rename_i id t cs ds;have hc' : s'.chunk id = some (.cells t cs) := by rw [hch id (by simpa using hid)]; exact hc
  cases hy with
  | ptr hp =>
   obtain ⟨hl, hg⟩ := hcs.get;cases hR.chunkAt hc' hp with
   | cells hb hs hv h1 =>
    refine .ref (hF _ (lt_of_block hb)) hb (by omega) (fun j d hd => ?_);obtain ⟨c, hc, hdc⟩ := hg j d hd;rw [Nat.zero_add];exact hdc.rep hR hch hF (hv j c hc)
theorem BL.rep {C : Ctx} {U : Nat → Prop} {ids : List Nat} {s' : ASt} {a : Act} {w : World} {m m0 : Nat → Option (Option Nat × Nat)} (hR : RelM C U s' a w m) (hch : ∀ id, id ∈ ids → s'.chunk id = s.chunk id) {F : Nat → Prop} (hF : ∀ k, k < w.heap.size → F k) {x y : AV} {v : Value} (h : BL ids s x y) (hy : ARep m (Fz C m s' w) w y v) : ARep m0 F w x v := by
 have hFz : ∀ q, Fz C m s' w q → F q := fun q hq => hF q hq.2.1
 have hds : ∀ (ds : List DV) (i : Nat) c v, (ds.map AV.d)[i]? = some c → ARep m (Fz C m s' w) w c v → ARep m0 F w c v := by
  intro ds i c v hc hv;rw [List.getElem?_map, Option.map_eq_some_iff] at hc;obtain ⟨d, _, rfl⟩ := hc;cases hv with | d h => exact .d (h.mono hFz)
 cases h with
 | cloB hcs =>
  obtain ⟨hl, hg⟩ := hcs.get;cases hy with
  | clo h1 h2 =>
   refine .clo (by rw [h1, List.length_map, hl]) (fun i c hc => ?_);rw [List.getElem?_map, Option.map_eq_some_iff] at hc;obtain ⟨d, hd, rfl⟩ := hc;have hi : i < _ := (List.getElem?_eq_some_iff.1 hd).1;obtain ⟨d', hd', hb⟩ := hg i _ (List.getElem?_eq_getElem (by omega));rw [hd] at hd';cases hd';exact .d (hb.rep hR hch hF (h2 i _ (List.getElem?_eq_getElem (by omega))))
 | of h => exact .d (h.rep hR hch hF hy)
 | clo => cases hy with | clo h1 h2 => exact .clo h1 (fun i c hc => hds _ i c _ hc (h2 i c hc))
 | agg => cases hy with | agg h1 h2 h3 => exact .agg h1 (fun i c hc => hds _ i c _ hc (h2 i c hc)) h3
 | aggs hcs =>
  obtain ⟨hl, hg⟩ := hcs.get;cases hy with
  | agg h1 h2 h3 =>
   refine .agg (by rw [h1, List.length_map, hl]) (fun i c hc => ?_) h3;rw [List.getElem?_map, Option.map_eq_some_iff] at hc;obtain ⟨d, hd, rfl⟩ := hc;obtain ⟨c', hc', hdc⟩ := hg i d hd;exact .d (hdc.rep hR hch hF (h2 i c' hc'))
 | ptr hid hc hcs =>
  rename_i id t cs ds;have hc' : s'.chunk id = some (.cells t cs) := by rw [hch id (by simpa using hid)]; exact hc
  cases hy with
  | ptr hp =>
   obtain ⟨hl, hg⟩ := hcs.get;cases hR.chunkAt hc' hp with
   | cells hb hs hv h1 =>
    refine .d (.ref (hF _ (lt_of_block hb)) hb (by omega) (fun j d hd => ?_));obtain ⟨c, hc, hdc⟩ := hg j d hd;rw [Nat.zero_add];exact hdc.rep hR hch hF (hv j c hc)
theorem h_borrow (ids : List Nat) {g : FuncId} {caps ys ars : List AV} {fx : Operand} {xs : Array Operand} {ats : Array TypeId} {r : AV} (hen : Enters P g) (hf : s.ev fx = .clo g caps) (hys : xs.toList.map s.ev ++ caps = ys)
  (hspec : ASpec P g ars [] (Pure1 r)) (hlead : BAs ids s ars ys) (hr : r.flat = true) :
  NOp P ids s ⟨dst, .call { callee := .value fx, args := xs, argTypes := ats }, ty, pos, af, gd⟩ f ⟨r, []⟩ := by
 refine ⟨fun s' ha C U U' a w m hR hU hU' hd K Q hK => ?_⟩;have hfx := hR.ev fx;rw [ha.2.1 fx (by simp [Op.operands, Call.operands]), hf] at hfx;generalize hfv : a.eval fx = fv at hfx;cases hfx with
 | clo hc1 hc2 =>
  rename_i cv
  have hrun : (execOp a.eval ⟨dst, .call { callee := .value fx, args := xs, argTypes := ats }, ty, pos, af, gd⟩).run P w = .ok (.enter g (xs.map a.eval ++ cv)) w := by
   simp [execOp, resolve, hfv, Deferred.ofValue, invoke, hen (xs.map a.eval ++ cv) w]
  obtain ⟨hl1, hl2⟩ := hlead.get
  have harg : ∀ (i : Nat) y, ys[i]? = some y → ARep m (Fz C m s' w) w y ((xs.map a.eval ++ cv).getD i undef) := by
   intro i y hy;rw [← hys] at hy
   by_cases hi : i < xs.size
   ·rw [List.getElem?_append_left (by simpa using hi), List.getElem?_map, Option.map_eq_some_iff] at hy;obtain ⟨x, hx, rfl⟩ := hy;have hx' : xs[i]? = some x := by simpa using hx
    have := hR.ev x;rw [ha.2.1 x (by simp only [Op.operands, Call.operands, Array.mem_append]; exact .inr (Array.mem_of_getElem? hx'))] at this
    have e : (xs.map a.eval ++ cv).getD i undef = a.eval x := by
     have hxi : xs[i] = x := (Array.getElem?_eq_some_iff.1 hx').2;simp [Array.getD_eq_getD_getElem?, Array.getElem?_append, hi, hxi]
    rw [e]; exact this
   rw [List.getElem?_append_right (by simpa using Nat.le_of_not_lt hi)] at hy;have := hc2 _ y hy
   have e : (xs.map a.eval ++ cv).getD i undef = cv.getD (i - xs.size) undef := by
    simp [Array.getD_eq_getD_getElem?, Array.getElem?_append, hi]
   rw [e]; simpa using this
  have hcall := hspec w (fun _ => none) (fun k => k < w.heap.size) (xs.map a.eval ++ cv) (fun k hk => ⟨hk, fun id c p hc => by simp [getL] at hc⟩) ?_ ?_ (fun id c hc => by simp [getL] at hc) (fun id id' c c' p p' b hc => by simp [getL] at hc) (fun id _ => rfl)
  ·unfold Oper.wp;rw [hrun];simp only [Oper.upon];refine Calls.mono hcall ?_;rintro e w' ⟨v, r', chs', m1, F1, rfl, ⟨rfl, rfl⟩, -, -, -, ⟨f1, f2, f3, f4, f5⟩, hv, -, -⟩;have hold : ∀ k, k < w.heap.size → w'.heap[k]? = w.heap[k]? := fun k hk => f5 k hk (fun id c p hc => by simp [getL] at hc)
   refine hK _ _ m (hR.step hd (MLe.refl m) (fun j hj => hR.un j (hU' j hj).1) ?_ f4 (fun k hk => ⟨fun id c p hc => by simp [getL] at hc, hold k hk.2.1⟩) (fun id c p b h0 h1 h2 h3 => ?_) (fun F' hF hF2 => ⟨hv.flat hr, fun id c hc => by simp [getL] at hc⟩) (fun id id' c c' p p' b hc => by simp [getL] at hc))
   ·refine ⟨f1.trans hR.fr.os, f2.trans hR.fr.tape, f3.trans hR.fr.output, Nat.le_trans hR.fr.size f4, fun k hk hn => ?_⟩;rw [hold k (Nat.lt_of_lt_of_le hk hR.fr.size)];exact hR.fr.block k hk hn
   refine hold b ?_;obtain ⟨q, hq, hr', _⟩ := hR.ch id c h1;rw [h2] at hq;obtain rfl : p = q := by simpa using hq
   exact hr'.lt h3
  ·have : ys.length = xs.size + caps.length := by rw [← hys]; simp
   simp only [Array.size_append, Array.size_map];omega
  intro i x hx;obtain ⟨y, hy, hxy⟩ := hl2 i x hx;exact hxy.rep hR ha.2.2 (fun k hk => hk) (harg i y hy)
theorem Weak.freezeRef {C : Ctx} (i : Nat) {id t : Nat} {ds : List DV} (hs : s.get i = .ptr id 0) (hc : s.chunk id = some (.cells t (ds.map .d))) : Weak C s { s with sl := (i, .d (.ref ds)) :: s.sl, ch := (id, none) :: s.ch } := by
 refine ⟨?_⟩;rintro a w ⟨m, hR⟩
 have hch : ∀ j c, (getL j ((id, none) :: s.ch)).getD none = some c → j ≠ id ∧ s.chunk j = some c := by
  intro j c h;rw [getL_cons] at h
  split at h
  ·simp at h
  rename_i e; exact ⟨e, h⟩
 have hF : ∀ q, Fz C m s w q → Fz C m { s with sl := (i, .d (.ref ds)) :: s.sl, ch := (id, none) :: s.ch } w q := fun q hq => ⟨hq.1, hq.2.1, fun j c p h1 h2 => hq.2.2 j c p (hch j c h1).2 h2⟩
 refine ⟨m, hR.fr, hR.fin, hR.sz, fun j => ?_, fun j c h1 => ?_, fun j j' c c' p p' h1 h2 hp hp' b hb hb' => hR.inj j j' c c' p p' (hch j c h1).2 (hch j' c' h2).2 hp hp' b hb hb', hR.un, hR.defers, hR.m0, hR.m0k⟩
 ·show ARep _ _ _ ((getL j ((i, .d (.ref ds)) :: s.sl)).getD .dead) _;rw [getL_cons]
  by_cases hj : j = i
  ·subst hj;rw [if_pos rfl];have hv := hR.sl j;rw [hs] at hv;generalize a.tmps.getD j undef = v at hv;simp only [Option.getD_some];cases hv with
   | ptr hp =>
    rename_i b cap;have hC := hR.chunkAt hc hp;cases hC with
    | cells hb hsz hv h1 =>
     obtain ⟨q, hq, hr, hloc⟩ := hR.ch id _ hc;rw [hp] at hq;obtain rfl : (some b, cap) = q := by simpa using hq
     have hFb : Fz C m { s with sl := (j, .d (.ref ds)) :: s.sl, ch := (id, none) :: s.ch } w b := by
      refine ⟨.inr (hloc b (.inl rfl)), lt_of_block hb, fun j' c p h1 h2 h3 => ?_⟩;obtain ⟨hne, h4⟩ := hch j' c h1;exact hne (hR.inj j' id c _ p _ h4 hc h2 hp b h3 (.inl rfl))
     refine .d (.ref hFb hb (by simp at hsz; omega) (fun k d hd => ?_));have := hv k (.d d) (by simp [hd]);rw [Nat.zero_add];cases this with | d h => exact h.mono hF
  rw [if_neg hj];exact (hR.sl j).turn (MLe.refl m) (fun k hk _ => ⟨hF k hk, rfl⟩)
 obtain ⟨_, h2⟩ := hch j c h1;obtain ⟨p, hp, hr, hl⟩ := hR.ch j c h2;exact ⟨p, hp, hr.turn (MLe.refl m) (fun k hk _ => ⟨hF k hk, rfl⟩) (fun _ _ => rfl), hl⟩
theorem RelM.freeze {C : Ctx} {U : Nat → Prop} {a : Act} {w : World} {m : Nat → Option (Option Nat × Nat)} (hR : RelM C U s a w m) {i id n e sz : Nat} {els els' : List (List DV)} (hs : s.get i = .own id n) (hc : s.chunk id = some (.arr e sz els)) (hn : n ≤ els.length) (he : els.take n = els') : RelM C U { s with sl := (i, .d (.view e sz els')) :: s.sl, ch := (id, none) :: s.ch } a w m := by
 subst he
 have hch : ∀ j c, (getL j ((id, none) :: s.ch)).getD none = some c → j ≠ id ∧ s.chunk j = some c := by
  intro j c h;rw [getL_cons] at h
  split at h
  ·simp at h
  rename_i e; exact ⟨e, h⟩
 have hF : ∀ q, Fz C m s w q → Fz C m { s with sl := (i, .d (.view e sz (els.take n))) :: s.sl, ch := (id, none) :: s.ch } w q := fun q hq => ⟨hq.1, hq.2.1, fun j c p h1 h2 => hq.2.2 j c p (hch j c h1).2 h2⟩
 refine ⟨hR.fr, hR.fin, hR.sz, fun j => ?_, fun j c h1 => ?_, fun j j' c c' p p' h1 h2 hp hp' b hb hb' => hR.inj j j' c c' p p' (hch j c h1).2 (hch j' c' h2).2 hp hp' b hb hb', hR.un, hR.defers, hR.m0, hR.m0k⟩
 ·show ARep _ _ _ ((getL j ((i, .d (.view e sz (els.take n))) :: s.sl)).getD .dead) _;rw [getL_cons]
  by_cases hj : j = i
  ·subst hj;rw [if_pos rfl];have hv := hR.sl j;rw [hs] at hv;generalize a.tmps.getD j undef = v at hv;simp only [Option.getD_some];cases hv with
   | own hp h0 =>
    rename_i cap b;have hC := hR.chunkAt hc hp;cases hC with
    | nil h =>
     have : n = 0 := by simpa using hn
     subst this;exact .d .nil
    | arr hb hf hsz hl hm h0' hrow hel =>
     rename_i b arr fz;have hlen : (els.take n).length = n := by simp; omega
     have hsub : ∀ (i : Nat) cs, (els.take n)[i]? = some cs → els[i]? = some cs := by
      intro i cs hi;rw [List.getElem?_take] at hi
      split at hi
      ·exact hi
      cases hi
     obtain ⟨q, hq, hr, hloc⟩ := hR.ch id _ hc;rw [hp] at hq;obtain rfl : (some b, cap) = q := by simpa using hq
     have hFb : Fz C m { s with sl := (j, .d (.view e sz (els.take n))) :: s.sl, ch := (id, none) :: s.ch } w b := by
      refine ⟨.inr (hloc b (.inl rfl)), lt_of_block hb, fun j' c p h1 h2 h3 => ?_⟩;obtain ⟨hne, h4⟩ := hch j' c h1;exact hne (hR.inj j' id c _ p _ h4 hc h2 hp b h3 (.inl rfl))
     have := DRep.view (F := Fz C m { s with sl := (j, .d (.view e sz (els.take n))) :: s.sl, ch := (id, none) :: s.ch } w) (e := e) (sz := sz) (els := els.take n) (off := 0) (cap := cap) hFb hb (by omega) hm (by omega) (fun i cs hi => hrow i cs (hsub i cs hi)) (fun i cs j d hi hj => by rw [Nat.zero_add]; exact (hel i cs j d (hsub i cs hi) hj).mono hF);rw [hlen] at this;exact .d this
  rw [if_neg hj];exact (hR.sl j).turn (MLe.refl m) (fun k hk _ => ⟨hF k hk, rfl⟩)
 obtain ⟨_, h2⟩ := hch j c h1;obtain ⟨p, hp, hr, hl⟩ := hR.ch j c h2;exact ⟨p, hp, hr.turn (MLe.refl m) (fun k hk _ => ⟨hF k hk, rfl⟩) (fun _ _ => rfl), hl⟩
end
structure Sig where
 name : List UInt8
 kind : Int
 deriving DecidableEq
structure Lab where
 sig : Int
 up : Bool
 deriving DecidableEq
structure Bur where
 from_ : Int
 inn : List Lab
 out : List Lab
 to_ : Int
 deriving DecidableEq
abbrev sigD (s : Sig) : List DV := [dS (bstr s.name), dI s.kind]
abbrev sigA (s : Sig) : AV := .agg [aS (bstr s.name), aI s.kind]
abbrev labD (l : Lab) : List DV := [dI l.sig, dT l.up]
abbrev labA (l : Lab) : AV := .agg [aI l.sig, aT l.up]
abbrev sigsL (l : List Sig) : List (List DV) := l.map sigD
abbrev labsL (l : List Lab) : List (List DV) := l.map labD
abbrev vSigs (l : List Sig) : DV := .view 87 2 (sigsL l)
abbrev vLabs (l : List Lab) : DV := .view 115 2 (labsL l)
theorem sigsL_len (l : List Sig) : (sigsL l).length = l.length := List.length_map _
theorem sigsL_get {l : List Sig} {k : Nat} (h : k < l.length) : (sigsL l)[k]? = some (sigD l[k]) := by unfold sigsL; rw [List.getElem?_map, List.getElem?_eq_getElem h]; rfl
theorem labsL_len (l : List Lab) : (labsL l).length = l.length := List.length_map _
theorem labsL_get {l : List Lab} {k : Nat} (h : k < l.length) : (labsL l)[k]? = some (labD l[k]) := by unfold labsL; rw [List.getElem?_map, List.getElem?_eq_getElem h]; rfl
theorem bstr_iff {a b : List UInt8} : bstr a = bstr b ↔ a = b := ⟨bstr_inj, fun h => by rw [h]⟩
def allK (f : Nat → Bool) (n : Nat) : Bool := (List.range n).all f
theorem allK_iff {f : Nat → Bool} {n : Nat} : allK f n = true ↔ ∀ i, i < n → f i = true := by simp [allK]
theorem allK_yes {f : Nat → Bool} {n : Nat} (h : ∀ i, i < n → f i = true) : allK f n = true := allK_iff.2 h
theorem allK_no {f : Nat → Bool} {n i : Nat} (hi : i < n) (h : f i = false) : allK f n = false := by
 cases e : allK f n with
 | false => rfl
 | true => have := allK_iff.1 e i hi; rw [h] at this; cases this
def inI (n lo hi : Int) : Bool := decide (lo ≤ n) && decide (n ≤ hi)
theorem inI_iff {n lo hi : Int} : inI n lo hi = true ↔ lo ≤ n ∧ n ≤ hi := by simp [inI]
def isLow (b : UInt8) : Bool := decide (97 ≤ (b.toNat : Int)) && decide ((b.toNat : Int) ≤ 122)
def isDig (b : UInt8) : Bool := decide (48 ≤ (b.toNat : Int)) && decide ((b.toNat : Int) ≤ 57)
def nameC (i : Nat) (b : UInt8) : Bool := isLow b || (isDig b && !decide (i = 0))
def nameB (m : List UInt8) : Bool := allK (fun i => nameC i (m.getD i 0)) m.length && inI m.length 1 6
theorem nameC_iff {i : Nat} {b : UInt8} : nameC i b = true ↔ (97 ≤ (b.toNat : Int) ∧ (b.toNat : Int) ≤ 122) ∨ ((48 ≤ (b.toNat : Int) ∧ (b.toNat : Int) ≤ 57) ∧ i ≠ 0) := by simp [nameC, isLow, isDig]
theorem nameC_no {i : Nat} {b : UInt8} (h : ¬ ((97 ≤ (b.toNat : Int) ∧ (b.toNat : Int) ≤ 122) ∨ ((48 ≤ (b.toNat : Int) ∧ (b.toNat : Int) ≤ 57) ∧ i ≠ 0))) : nameC i b = false := by
 cases e : nameC i b with
 | false => rfl
 | true => exact absurd (nameC_iff.1 e) h
theorem nameB_no {m : List UInt8} {k : Nat} (hk : k < m.length) (h : nameC k (m.getD k 0) = false) : nameB m = false := by unfold nameB; rw [allK_no hk h, Bool.false_and]
theorem nameB_yes {m : List UInt8} (h : ∀ j, j < m.length → nameC j (m.getD j 0) = true) : nameB m = inI m.length 1 6 := by unfold nameB; rw [allK_yes h, Bool.true_and]
def sAt (l : List Sig) (k : Nat) : Sig := l.getD k ⟨[], 0⟩
theorem sAt_nat {l : List Sig} {k : Nat} (h : k < l.length) : sAt l k = l[k] := by unfold sAt; rw [List.getD_eq_getElem?_getD, List.getElem?_eq_getElem h]; rfl
def sigK (l : List Sig) (k : Nat) : Bool := nameB (sAt l k).name && (inI (sAt l k).kind 1 3 && !(l.take k).any (fun y => decide (y.name = (sAt l k).name)))
def sigsB (l : List Sig) : Bool := allK (sigK l) l.length && inI l.length 1 8
theorem sigsB_no {l : List Sig} {k : Nat} (hk : k < l.length) (h : sigK l k = false) : sigsB l = false := by unfold sigsB; rw [allK_no hk h, Bool.false_and]
theorem sigsB_yes {l : List Sig} (h : ∀ j, j < l.length → sigK l j = true) : sigsB l = inI l.length 1 8 := by unfold sigsB; rw [allK_yes h, Bool.true_and]
def lAt (l : List Lab) (k : Nat) : Lab := l.getD k ⟨0, false⟩
theorem lAt_nat {l : List Lab} {k : Nat} (h : k < l.length) : lAt l k = l[k] := by unfold lAt; rw [List.getD_eq_getElem?_getD, List.getElem?_eq_getElem h]; rfl
def bitLb (up : Bool) : UInt8 := bif up then 49 else 48
def turnL (code : List UInt8) : List Lab → Option (List UInt8)
 | [] => some code
 | x :: l => if code.getD x.sig.toNat 0 = bitLb (!x.up) then turnL (code.set x.sig.toNat (bitLb x.up)) l else none
def cAtL (cs : List (List UInt8)) (i : Int) : List UInt8 := cs.getD i.toNat []
def stepB (cs : List (List UInt8)) (b : Bur) : Option (List (List UInt8)) :=
 if cAtL cs b.from_ = [] then some cs else
  match turnL (cAtL cs b.from_) (b.inn ++ b.out) with
  | none => none
  | some nx => if cAtL cs b.to_ ≠ [] ∧ cAtL cs b.to_ ≠ nx then none else some (cs.set b.to_.toNat nx)
def BitC (n : Nat) (c : List UInt8) : Prop := c.length = n ∧ ∀ b, b ∈ c → b = 48 ∨ b = 49
theorem BitC.set {n : Nat} {c : List UInt8} (h : BitC n c) (i : Nat) (up : Bool) : BitC n (c.set i (bitLb up)) := by
 refine ⟨by rw [List.length_set]; exact h.1, fun b hb => ?_⟩;rcases List.mem_or_eq_of_mem_set hb with h1 | rfl
 ·exact h.2 b h1
 cases up <;> simp [bitLb]
theorem turnL_bit {n : Nat} : ∀ {l : List Lab} {c c' : List UInt8}, BitC n c → turnL c l = some c' → BitC n c'
 | [], c, c', h, e => by simp only [turnL, Option.some.injEq] at e; subst e; exact h
 | x :: l, c, c', h, e => by
  simp only [turnL] at e
  split at e
  ·exact turnL_bit (h.set _ _) e
  cases e
structure CodesOk (n : Nat) (k : Nat) (cs : List (List UInt8)) : Prop where
 l : cs.length = k
 c : ∀ c, c ∈ cs → c = [] ∨ BitC n c
theorem CodesOk.at {n k : Nat} {cs : List (List UInt8)} (h : CodesOk n k cs) (i : Int) : cAtL cs i = [] ∨ BitC n (cAtL cs i) := by
 unfold cAtL;rw [List.getD_eq_getElem?_getD];cases e : cs[i.toNat]? with
 | none => exact .inl rfl
 | some c => exact h.c c (List.mem_of_getElem? e)
theorem CodesOk.set {n k : Nat} {cs : List (List UInt8)} (h : CodesOk n k cs) (i : Nat) {c : List UInt8} (hc : BitC n c) : CodesOk n k (cs.set i c) := by
 refine ⟨by rw [List.length_set]; exact h.l, fun x hx => ?_⟩;rcases List.mem_or_eq_of_mem_set hx with h1 | rfl
 ·exact h.c x h1
 exact .inr hc
theorem CodesOk.step {n k : Nat} {cs cs' : List (List UInt8)} {b : Bur} (h : CodesOk n k cs) (e : stepB cs b = some cs') : CodesOk n k cs' := by
 unfold stepB at e
 split at e
 ·simp only [Option.some.injEq] at e; subst e; exact h
 rename_i hne
 split at e
 ·cases e
 rename_i nx hnx
 split at e
 ·cases e
 simp only [Option.some.injEq] at e;subst e;have hb := (h.at b.from_).resolve_left hne;exact h.set _ (turnL_bit hb hnx)
set_option maxHeartbeats 1000000 in
theorem l2Name_spec (m : List UInt8) (hm : m.length ≤ 2000000) : ASpec Tryz.prog 73 [aS (bstr m)] [] (Pure1 (aT (nameB m))) := by
 have hsz := bstr_size m;refine ASpec.of Tryz.func73 rfl rfl fun C hC => ?_
 refine AC.seq (AC.region ?_);refine za ?_;refine AL.nil (th_n (AC.seq (AC.seq (AC.region ?_))));refine za ?_;refine AL.nil (th_n (AC.block ?_));refine AC.loop (ι := Nat) (fun k => ⟨42, 0, [(0, aS (bstr m)), (3, aI k)], []⟩) (fun k => k ≤ m.length ∧ ∀ j (hj : j < m.length), j < k → nameC j m[j] = true) (fun k => m.length - k) (0) ?_ (⟨Nat.zero_le _, fun j _ hj => by omega⟩) ?_
 ·refine Weak.ren _ [] hC rfl ?_ ?_ rfl rfl rfl <;> repeat (first | exact True.intro | refine And.intro ?_ ?_ | exact DLead.same)
 intro k ⟨hk, hall⟩;refine AC.seq (AC.seq (AC.region ?_));refine zm ?_;refine zm ?_;refine AL.p (by exact g_len_str rfl rfl rfl) rfl ?_;refine zc ?_;refine AL.nil (th_n ?_);refine AC.condD rfl (fun h0 => ?_) (fun h0 => ?_)
 ·refine AC.skip (th_n (AC.seq (AC.block (AC.seq ?_))));have hk1 : k < m.length := by omega
  have hget := bstr_at hk1;have hlt := m[k].toNat_lt;refine AC.region ?_;refine zm ?_;refine zm ?_;refine AL.p (by exact g_index rfl rfl rfl (by rfl) (by assumption)) rfl ?_;refine zc ?_;refine zm ?_;refine AL.caseG rfl rfl (fun h1 => ?_) (fun h1 => ?_)
  ·refine zy ?_;refine zm ?_;refine zy ?_;refine zm ?_;refine zy ?_;refine AL.p (by exact g_index rfl rfl rfl (by rfl) (by assumption)) rfl ?_;refine zy ?_;refine zc ?_;refine zQ ?_;refine za ?_;refine AL.nil (th_n (AC.seq (AC.region ?_)));refine zm ?_;refine kC ?_;refine zm ?_;refine AL.caseGN rfl rfl (fun h2 => ?_) (fun h2 => ?_)
   ·refine zy ?_;refine zm ?_;refine zy ?_;refine zc ?_;refine zy ?_;refine zm ?_;refine AL.caseG rfl rfl (fun h3 => ?_) (fun h3 => ?_)
    ·refine zn ?_;refine zn ?_;refine zn ?_;refine zn ?_;refine zy ?_;refine zQ ?_;refine zy ?_;refine zm ?_;refine zn ?_;refine zn ?_;refine zn ?_;refine zn ?_;refine zy ?_;refine zQ ?_;refine zQ ?_;refine AL.nil (th_n ?_);refine AC.condT rfl ?_;refine AC.seq (AC.region ?_);refine za ?_;refine AL.nil (th_n (AC.ret (ib_r (th_r (th_r (ib_r (th_r (bq_r ?_))))))));have hb : nameC k m[k] = false := nameC_no (by simp_all <;> omega);exact ret1 rfl (by rw [nameB_no hk1 (by rw [List.getD_eq_getElem?_getD, List.getElem?_eq_getElem hk1]; exact hb)])
    refine zy ?_;refine zm ?_;refine zy ?_;refine zm ?_;refine zy ?_;refine AL.p (by exact g_index rfl rfl rfl (by rfl) (by assumption)) rfl ?_;refine zy ?_;refine zc ?_;refine zy ?_;refine zP ?_;refine zy ?_;refine zm ?_;refine AL.caseG rfl rfl (fun h4 => ?_) (fun h4 => ?_)
    ·refine zn ?_;refine zn ?_;refine zn ?_;refine zn ?_;refine zy ?_;refine zQ ?_;refine zQ ?_;refine AL.nil (th_n ?_);refine AC.condT rfl ?_;refine AC.seq (AC.region ?_);refine za ?_;refine AL.nil (th_n (AC.ret (ib_r (th_r (th_r (ib_r (th_r (bq_r ?_))))))));have hb : nameC k m[k] = false := nameC_no (by simp_all <;> omega);exact ret1 rfl (by rw [nameB_no hk1 (by rw [List.getD_eq_getElem?_getD, List.getElem?_eq_getElem hk1]; exact hb)])
    refine zy ?_;refine zm ?_;refine zy ?_;refine zm ?_;refine zy ?_;refine AL.p (by exact g_index rfl rfl rfl (by rfl) (by assumption)) rfl ?_;refine zy ?_;refine zc ?_;refine zy ?_;refine zP ?_;refine zQ ?_;refine AL.nil (th_n ?_);refine AC.condD rfl (fun h5 => ?_) (fun h5 => ?_)
    ·refine AC.seq (AC.region ?_);refine za ?_;refine AL.nil (th_n (AC.ret (ib_r (th_r (th_r (ib_r (th_r (bq_r ?_))))))));have hb : nameC k m[k] = false := nameC_no (by simp_all <;> omega);exact ret1 rfl (by rw [nameB_no hk1 (by rw [List.getD_eq_getElem?_getD, List.getElem?_eq_getElem hk1]; exact hb)])
    refine AC.skip (ib_n (th_n (AC.region ?_)));refine zm ?_;refine zA ?_;refine za ?_;refine AL.nil (th_n ?_);have hb : nameC k m[k] = true := nameC_iff.2 (by simp_all <;> omega);exact ⟨k + 1, ⟨by omega, fun j hj hj2 => by rcases Nat.lt_succ_iff_lt_or_eq.1 hj2 with h | rfl; exact hall j hj h; exact hb⟩, by omega, Weak.ren _ [] hC rfl (by repeat (first | exact True.intro | refine And.intro ?_ ?_ | exact DLead.same)) (by repeat (exact True.intro)) rfl rfl rfl⟩
   refine zn ?_;refine zn ?_;refine zn ?_;refine AL.notU rfl rfl rfl ?_;refine AL.notU rfl rfl rfl ?_;refine AL.notU rfl rfl rfl ?_;refine AL.notU rfl rfl rfl ?_;refine zn ?_;refine zn ?_;refine AL.notU rfl rfl rfl ?_;refine AL.notU rfl rfl rfl ?_;refine AL.notU rfl rfl rfl ?_;refine AL.notU rfl rfl rfl ?_;refine zn ?_;refine zP ?_;refine AL.nil (th_n ?_);refine AC.condF rfl ?_;refine AC.skip (ib_n (th_n (AC.region ?_)));refine zm ?_;refine zA ?_;refine za ?_;refine AL.nil (th_n ?_);have hb : nameC k m[k] = true := nameC_iff.2 (by simp_all <;> omega);exact ⟨k + 1, ⟨by omega, fun j hj hj2 => by rcases Nat.lt_succ_iff_lt_or_eq.1 hj2 with h | rfl; exact hall j hj h; exact hb⟩, by omega, Weak.ren _ [] hC rfl (by repeat (first | exact True.intro | refine And.intro ?_ ?_ | exact DLead.same)) (by repeat (exact True.intro)) rfl rfl rfl⟩
  refine zn ?_;refine zn ?_;refine zn ?_;refine zn ?_;refine zP ?_;refine za ?_;refine AL.nil (th_n (AC.seq (AC.region ?_)));refine zm ?_;refine kC ?_;refine zm ?_;refine zy ?_;refine zm ?_;refine zy ?_;refine zc ?_;refine zy ?_;refine zm ?_;refine AL.caseG rfl rfl (fun h2 => ?_) (fun h2 => ?_)
  ·refine zn ?_;refine zn ?_;refine zn ?_;refine zn ?_;refine zy ?_;refine zQ ?_;refine zy ?_;refine zm ?_;refine zn ?_;refine zn ?_;refine zn ?_;refine zn ?_;refine zy ?_;refine zQ ?_;refine zQ ?_;refine AL.nil (th_n ?_);refine AC.condT rfl ?_;refine AC.seq (AC.region ?_);refine za ?_;refine AL.nil (th_n (AC.ret (ib_r (th_r (th_r (ib_r (th_r (bq_r ?_))))))));have hb : nameC k m[k] = false := nameC_no (by simp_all <;> omega);exact ret1 rfl (by rw [nameB_no hk1 (by rw [List.getD_eq_getElem?_getD, List.getElem?_eq_getElem hk1]; exact hb)])
  refine zy ?_;refine zm ?_;refine zy ?_;refine zm ?_;refine zy ?_;refine AL.p (by exact g_index rfl rfl rfl (by rfl) (by assumption)) rfl ?_;refine zy ?_;refine zc ?_;refine zy ?_;refine zP ?_;refine zy ?_;refine zm ?_;refine AL.caseG rfl rfl (fun h3 => ?_) (fun h3 => ?_)
  ·refine zn ?_;refine zn ?_;refine zn ?_;refine zn ?_;refine zy ?_;refine zQ ?_;refine zQ ?_;refine AL.nil (th_n ?_);refine AC.condT rfl ?_;refine AC.seq (AC.region ?_);refine za ?_;refine AL.nil (th_n (AC.ret (ib_r (th_r (th_r (ib_r (th_r (bq_r ?_))))))));have hb : nameC k m[k] = false := nameC_no (by simp_all <;> omega);exact ret1 rfl (by rw [nameB_no hk1 (by rw [List.getD_eq_getElem?_getD, List.getElem?_eq_getElem hk1]; exact hb)])
  refine zy ?_;refine zm ?_;refine zy ?_;refine zm ?_;refine zy ?_;refine AL.p (by exact g_index rfl rfl rfl (by rfl) (by assumption)) rfl ?_;refine zy ?_;refine zc ?_;refine zy ?_;refine zP ?_;refine zQ ?_;refine AL.nil (th_n ?_);refine AC.condD rfl (fun h4 => ?_) (fun h4 => ?_)
  ·refine AC.seq (AC.region ?_);refine za ?_;refine AL.nil (th_n (AC.ret (ib_r (th_r (th_r (ib_r (th_r (bq_r ?_))))))));have hb : nameC k m[k] = false := nameC_no (by simp_all <;> omega);exact ret1 rfl (by rw [nameB_no hk1 (by rw [List.getD_eq_getElem?_getD, List.getElem?_eq_getElem hk1]; exact hb)])
  refine AC.skip (ib_n (th_n (AC.region ?_)));refine zm ?_;refine zA ?_;refine za ?_;refine AL.nil (th_n ?_);have hb : nameC k m[k] = true := nameC_iff.2 (by simp_all <;> omega);exact ⟨k + 1, ⟨by omega, fun j hj hj2 => by rcases Nat.lt_succ_iff_lt_or_eq.1 hj2 with h | rfl; exact hall j hj h; exact hb⟩, by omega, Weak.ren _ [] hC rfl (by repeat (first | exact True.intro | refine And.intro ?_ ?_ | exact DLead.same)) (by repeat (exact True.intro)) rfl rfl rfl⟩
 refine AC.exit (th_e (th_e (ib_y (th_n (AC.seq (AC.region ?_))))));refine zm ?_;refine AL.p (by exact g_len_str rfl rfl rfl) rfl ?_;refine AL.q (by exact h_pure en_l1In rfl rfl (by repeat (first | exact rfl | exact DLead.same | refine ⟨_, _, rfl, ?_, ?_⟩)) (l1In_spec _ _ _) rfl) rfl ?_;refine za ?_;refine AL.nil (th_n (AC.ret (bq_r ?_)));exact ret1 rfl (by rw [nameB_yes (fun j hj => by rw [List.getD_eq_getElem?_getD, List.getElem?_eq_getElem hj]; exact hall j hj (by omega)), hsz]; rfl)
theorem en_l2Name : Enters Tryz.prog 73 := enters_of Tryz.func73 rfl rfl
set_option maxHeartbeats 2000000 in
theorem isName_spec (m : List UInt8) (hm : m.length ≤ 2000000) : ASpec Tryz.prog 54 [aS (bstr m)] [] (Pure1 (aT (nameB m))) := by
 have hsz := bstr_size m;refine ASpec.of Tryz.func54 rfl rfl fun C hC => ?_
 refine AC.seq (AC.region ?_);refine za ?_;refine AL.nil (th_n (AC.seq (AC.seq (AC.region ?_))));refine za ?_;refine AL.nil (th_n (AC.block ?_));refine AC.loop (ι := Nat) (fun k => ⟨45, 0, [(0, aS (bstr m)), (3, aI k)], []⟩) (fun k => k ≤ m.length ∧ ∀ j (hj : j < m.length), j < k → nameC j m[j] = true) (fun k => m.length - k) (0) ?_ (⟨Nat.zero_le _, fun j _ hj => by omega⟩) ?_
 ·refine Weak.ren _ [] hC rfl ?_ ?_ rfl rfl rfl <;> repeat (first | exact True.intro | refine And.intro ?_ ?_ | exact DLead.same)
 intro k ⟨hk, hall⟩;refine AC.seq (AC.seq (AC.region ?_));refine zm ?_;refine zm ?_;refine AL.p (by exact g_len_str rfl rfl rfl) rfl ?_;refine zc ?_;refine AL.nil (th_n ?_);refine AC.condD rfl (fun h0 => ?_) (fun h0 => ?_)
 ·refine AC.skip (th_n (AC.seq (AC.block (AC.seq ?_))));have hk1 : k < m.length := by omega
  have hget := bstr_at hk1;have hlt := m[k].toNat_lt;refine AC.drawn' mixed_ok [[], [], [0,1], [0,1,2], [0,1,2,3], [0,1,2,3,4], [0,1,2,3,4], [0,1,2,3,4,5,6], [0,1,2,3,4,5,6,7], [0,1,2,3,4,5,6,7,8], [], [], [10,11], [10,11,12], [0,1,2,3,4,10,11,12,13], [0,1,2,3,4,10,11,12,13,14], [0,1,2,3,4,10,11,12,13,14], [0,1,2,3,4,10,11,12,13,14,15,16], [0,1,2,3,4,10,11,12,13,14,15,16,17], [0,1,2,3,4,10,11,12,13,14,15,16,17,18], [0,1,2,3,4,5,6,7,8,9,10,11,12,13,14], [0,1,2,3,4,5,6,7,8,9,10,11,12,13,14,15,16,17,18,19,20]] (by decide) ?_;refine zd 0 [] 22 (by exact mv1 rfl) ?_;refine zd 1 [] 22 (by exact mv1 rfl) ?_;refine zd 2 [0,1] 22 (by exact g_index rfl rfl rfl (by rfl) (by assumption)) ?_;refine zd 3 [0,1,2] 22 (by exact g_cmp rfl rfl rfl) ?_;refine zd 4 [0,1,2,3] 22 (by exact mv1 rfl) ?_;refine DF.caseD 4 rfl (fun h1 => ?_) (fun h1 => ?_)
  ·refine ze 5 [0,1,2,3,4] 22 (by exact mv1 rfl) ?_;refine ze 6 [0,1,2,3,4] 22 (by exact mv1 rfl) ?_;refine ze 7 [0,1,2,3,4,5,6] 22 (by exact g_index rfl rfl rfl (by rfl) (by assumption)) ?_;refine ze 8 [0,1,2,3,4,5,6,7] 22 (by exact g_cmp rfl rfl rfl) ?_;refine zd 9 (List.range 9) 22 (by exact g_pickT (r := .d _) rfl rfl) ?_;refine zd 10 [] 22 (by exact mv1 rfl) ?_;refine zd 11 [] 22 (by exact mv1 rfl) ?_;refine zd 12 [10,11] 22 (by exact g_index rfl rfl rfl (by rfl) (by assumption)) ?_;refine zd 13 [10,11,12] 22 (by exact g_cmp rfl rfl rfl) ?_;refine zd 14 [0,1,2,3,4,10,11,12,13] 22 (by exact mv1 rfl) ?_;refine DF.caseD 14 rfl (fun h2 => ?_) (fun h2 => ?_)
   ·refine ze 15 [0,1,2,3,4,10,11,12,13,14] 22 (by exact mv1 rfl) ?_;refine ze 16 [0,1,2,3,4,10,11,12,13,14] 22 (by exact mv1 rfl) ?_;refine ze 17 [0,1,2,3,4,10,11,12,13,14,15,16] 22 (by exact g_index rfl rfl rfl (by rfl) (by assumption)) ?_;refine ze 18 [0,1,2,3,4,10,11,12,13,14,15,16,17] 22 (by exact g_cmp rfl rfl rfl) ?_;refine zd 19 [0,1,2,3,4,10,11,12,13,14,15,16,17,18] 22 (by exact g_pickT (r := .d _) rfl rfl) ?_;refine zd 20 (List.range 15) 22 (by exact as1 rfl) ?_;refine zd 21 (List.range 21) 22 (by exact as1 rfl) ?_;refine zj 22 ?_;refine th_n (AC.seq (AC.region ?_));refine zm ?_;refine kC ?_;refine zm ?_;refine AL.caseGN rfl rfl (fun h3 => ?_) (fun h3 => ?_)
    ·refine zy ?_;refine zm ?_;refine zy ?_;refine kC ?_;refine zy ?_;refine zm ?_;refine AL.caseGN rfl rfl (fun h4 => ?_) (fun h4 => ?_)
     ·refine zn ?_;refine zn ?_;refine zy ?_;refine zQ ?_;refine zQ ?_;refine AL.nil (th_n ?_);refine AC.condT rfl ?_;refine AC.seq (AC.region ?_);refine za ?_;refine AL.nil (th_n (AC.ret (ib_r (th_r (th_r (ib_r (th_r (bq_r ?_))))))));have hb : nameC k m[k] = false := nameC_no (by simp_all <;> omega);exact ret1 rfl (by rw [nameB_no hk1 (by rw [List.getD_eq_getElem?_getD, List.getElem?_eq_getElem hk1]; exact hb)])
     refine zy ?_;refine zm ?_;refine zy ?_;refine zc ?_;refine zy ?_;refine zP ?_;refine zQ ?_;refine AL.nil (th_n ?_);refine AC.condD rfl (fun h5 => ?_) (fun h5 => ?_)
     ·refine AC.seq (AC.region ?_);refine za ?_;refine AL.nil (th_n (AC.ret (ib_r (th_r (th_r (ib_r (th_r (bq_r ?_))))))));have hb : nameC k m[k] = false := nameC_no (by simp_all <;> omega);exact ret1 rfl (by rw [nameB_no hk1 (by rw [List.getD_eq_getElem?_getD, List.getElem?_eq_getElem hk1]; exact hb)])
     refine AC.skip (ib_n (th_n (AC.region ?_)));refine zm ?_;refine zA ?_;refine za ?_;refine AL.nil (th_n ?_);have hb : nameC k m[k] = true := nameC_iff.2 (by simp_all <;> omega);exact ⟨k + 1, ⟨by omega, fun j hj hj2 => by rcases Nat.lt_succ_iff_lt_or_eq.1 hj2 with h | rfl; exact hall j hj h; exact hb⟩, by omega, Weak.ren _ [] hC rfl (by repeat (first | exact True.intro | refine And.intro ?_ ?_ | exact DLead.same)) (by repeat (exact True.intro)) rfl rfl rfl⟩
    refine zn ?_;refine zn ?_;refine zn ?_;refine AL.notU rfl rfl rfl ?_;refine AL.notU rfl rfl rfl ?_;refine zn ?_;refine zP ?_;refine AL.nil (th_n ?_);refine AC.condF rfl ?_;refine AC.skip (ib_n (th_n (AC.region ?_)));refine zm ?_;refine zA ?_;refine za ?_;refine AL.nil (th_n ?_);have hb : nameC k m[k] = true := nameC_iff.2 (by simp_all <;> omega);exact ⟨k + 1, ⟨by omega, fun j hj hj2 => by rcases Nat.lt_succ_iff_lt_or_eq.1 hj2 with h | rfl; exact hall j hj h; exact hb⟩, by omega, Weak.ren _ [] hC rfl (by repeat (first | exact True.intro | refine And.intro ?_ ?_ | exact DLead.same)) (by repeat (exact True.intro)) rfl rfl rfl⟩
   refine zg 15 [0,1,2,3,4,10,11,12,13,14] 22 ?_;refine zg 16 [0,1,2,3,4,10,11,12,13,14] 22 ?_;refine zg 17 [0,1,2,3,4,10,11,12,13,14,15,16] 22 ?_;refine zg 18 [0,1,2,3,4,10,11,12,13,14,15,16,17] 22 ?_;refine zd 19 [0,1,2,3,4,10,11,12,13,14,15,16,17,18] 22 (by exact g_pickF (r := .d _) rfl rfl) ?_;refine zd 20 (List.range 15) 22 (by exact as1 rfl) ?_;refine zd 21 (List.range 21) 22 (by exact as1 rfl) ?_;refine zj 22 ?_;refine th_n (AC.seq (AC.region ?_));refine zm ?_;refine kC ?_;refine zm ?_;refine AL.caseGN rfl rfl (fun h3 => ?_) (fun h3 => ?_)
   ·refine zy ?_;refine zm ?_;refine zy ?_;refine kC ?_;refine zy ?_;refine zm ?_;refine zn ?_;refine zn ?_;refine zy ?_;refine zQ ?_;refine zQ ?_;refine AL.nil (th_n ?_);refine AC.condT rfl ?_;refine AC.seq (AC.region ?_);refine za ?_;refine AL.nil (th_n (AC.ret (ib_r (th_r (th_r (ib_r (th_r (bq_r ?_))))))));have hb : nameC k m[k] = false := nameC_no (by simp_all <;> omega);exact ret1 rfl (by rw [nameB_no hk1 (by rw [List.getD_eq_getElem?_getD, List.getElem?_eq_getElem hk1]; exact hb)])
   refine zn ?_;refine zn ?_;refine zn ?_;refine AL.notU rfl rfl rfl ?_;refine AL.notU rfl rfl rfl ?_;refine zn ?_;refine zP ?_;refine AL.nil (th_n ?_);refine AC.condF rfl ?_;refine AC.skip (ib_n (th_n (AC.region ?_)));refine zm ?_;refine zA ?_;refine za ?_;refine AL.nil (th_n ?_);have hb : nameC k m[k] = true := nameC_iff.2 (by simp_all <;> omega);exact ⟨k + 1, ⟨by omega, fun j hj hj2 => by rcases Nat.lt_succ_iff_lt_or_eq.1 hj2 with h | rfl; exact hall j hj h; exact hb⟩, by omega, Weak.ren _ [] hC rfl (by repeat (first | exact True.intro | refine And.intro ?_ ?_ | exact DLead.same)) (by repeat (exact True.intro)) rfl rfl rfl⟩
  refine zg 5 [0,1,2,3,4] 22 ?_;refine zg 6 [0,1,2,3,4] 22 ?_;refine zg 7 [0,1,2,3,4,5,6] 22 ?_;refine zg 8 [0,1,2,3,4,5,6,7] 22 ?_;refine zd 9 (List.range 9) 22 (by exact g_pickF (r := .d _) rfl rfl) ?_;refine zd 10 [] 22 (by exact mv1 rfl) ?_;refine zd 11 [] 22 (by exact mv1 rfl) ?_;refine zd 12 [10,11] 22 (by exact g_index rfl rfl rfl (by rfl) (by assumption)) ?_;refine zd 13 [10,11,12] 22 (by exact g_cmp rfl rfl rfl) ?_;refine zd 14 [0,1,2,3,4,10,11,12,13] 22 (by exact mv1 rfl) ?_;refine DF.caseD 14 rfl (fun h2 => ?_) (fun h2 => ?_)
  ·refine ze 15 [0,1,2,3,4,10,11,12,13,14] 22 (by exact mv1 rfl) ?_;refine ze 16 [0,1,2,3,4,10,11,12,13,14] 22 (by exact mv1 rfl) ?_;refine ze 17 [0,1,2,3,4,10,11,12,13,14,15,16] 22 (by exact g_index rfl rfl rfl (by rfl) (by assumption)) ?_;refine ze 18 [0,1,2,3,4,10,11,12,13,14,15,16,17] 22 (by exact g_cmp rfl rfl rfl) ?_;refine zd 19 [0,1,2,3,4,10,11,12,13,14,15,16,17,18] 22 (by exact g_pickT (r := .d _) rfl rfl) ?_;refine zd 20 (List.range 15) 22 (by exact as1 rfl) ?_;refine zd 21 (List.range 21) 22 (by exact as1 rfl) ?_;refine zj 22 ?_;refine th_n (AC.seq (AC.region ?_));refine zm ?_;refine kC ?_;refine zm ?_;refine zy ?_;refine zm ?_;refine zy ?_;refine kC ?_;refine zy ?_;refine zm ?_;refine AL.caseGN rfl rfl (fun h3 => ?_) (fun h3 => ?_)
   ·refine zn ?_;refine zn ?_;refine zy ?_;refine zQ ?_;refine zQ ?_;refine AL.nil (th_n ?_);refine AC.condT rfl ?_;refine AC.seq (AC.region ?_);refine za ?_;refine AL.nil (th_n (AC.ret (ib_r (th_r (th_r (ib_r (th_r (bq_r ?_))))))));have hb : nameC k m[k] = false := nameC_no (by simp_all <;> omega);exact ret1 rfl (by rw [nameB_no hk1 (by rw [List.getD_eq_getElem?_getD, List.getElem?_eq_getElem hk1]; exact hb)])
   refine zy ?_;refine zm ?_;refine zy ?_;refine zc ?_;refine zy ?_;refine zP ?_;refine zQ ?_;refine AL.nil (th_n ?_);refine AC.condD rfl (fun h4 => ?_) (fun h4 => ?_)
   ·refine AC.seq (AC.region ?_);refine za ?_;refine AL.nil (th_n (AC.ret (ib_r (th_r (th_r (ib_r (th_r (bq_r ?_))))))));have hb : nameC k m[k] = false := nameC_no (by simp_all <;> omega);exact ret1 rfl (by rw [nameB_no hk1 (by rw [List.getD_eq_getElem?_getD, List.getElem?_eq_getElem hk1]; exact hb)])
   refine AC.skip (ib_n (th_n (AC.region ?_)));refine zm ?_;refine zA ?_;refine za ?_;refine AL.nil (th_n ?_);have hb : nameC k m[k] = true := nameC_iff.2 (by simp_all <;> omega);exact ⟨k + 1, ⟨by omega, fun j hj hj2 => by rcases Nat.lt_succ_iff_lt_or_eq.1 hj2 with h | rfl; exact hall j hj h; exact hb⟩, by omega, Weak.ren _ [] hC rfl (by repeat (first | exact True.intro | refine And.intro ?_ ?_ | exact DLead.same)) (by repeat (exact True.intro)) rfl rfl rfl⟩
  refine zg 15 [0,1,2,3,4,10,11,12,13,14] 22 ?_;refine zg 16 [0,1,2,3,4,10,11,12,13,14] 22 ?_;refine zg 17 [0,1,2,3,4,10,11,12,13,14,15,16] 22 ?_;refine zg 18 [0,1,2,3,4,10,11,12,13,14,15,16,17] 22 ?_;refine zd 19 [0,1,2,3,4,10,11,12,13,14,15,16,17,18] 22 (by exact g_pickF (r := .d _) rfl rfl) ?_;refine zd 20 (List.range 15) 22 (by exact as1 rfl) ?_;refine zd 21 (List.range 21) 22 (by exact as1 rfl) ?_;refine zj 22 ?_;refine th_n (AC.seq (AC.region ?_));refine zm ?_;refine kC ?_;refine zm ?_;refine zy ?_;refine zm ?_;refine zy ?_;refine kC ?_;refine zy ?_;refine zm ?_;refine zn ?_;refine zn ?_;refine zy ?_;refine zQ ?_;refine zQ ?_;refine AL.nil (th_n ?_);refine AC.condT rfl ?_;refine AC.seq (AC.region ?_);refine za ?_;refine AL.nil (th_n (AC.ret (ib_r (th_r (th_r (ib_r (th_r (bq_r ?_))))))));have hb : nameC k m[k] = false := nameC_no (by simp_all <;> omega);exact ret1 rfl (by rw [nameB_no hk1 (by rw [List.getD_eq_getElem?_getD, List.getElem?_eq_getElem hk1]; exact hb)])
 refine AC.exit (th_e (th_e (ib_y (th_n (AC.seq (AC.region ?_))))));refine zm ?_;refine AL.p (by exact g_len_str rfl rfl rfl) rfl ?_;refine AL.q (by exact h_pure en_within rfl rfl (by repeat (first | exact rfl | exact DLead.same | refine ⟨_, _, rfl, ?_, ?_⟩)) (within_spec _ _ _) rfl) rfl ?_;refine za ?_;refine AL.nil (th_n (AC.ret (bq_r ?_)));exact ret1 rfl (by rw [nameB_yes (fun j hj => by rw [List.getD_eq_getElem?_getD, List.getElem?_eq_getElem hj]; exact hall j hj (by omega)), hsz]; rfl)
theorem en_isName : Enters Tryz.prog 54 := enters_of Tryz.func54 rfl rfl
set_option maxHeartbeats 1000000 in
theorem indexSig_spec (l : List Sig) (hl : l.length ≤ 2000000) (g : FuncId) (ds : List DV) (hen : Enters Tryz.prog g) (p : Sig → Bool) (hp : ∀ t, t ∈ l → ASpec Tryz.prog g (sigA t :: ds.map .d) [] (Pure1 (aT (p t)))) : ASpec Tryz.prog 75 [.d (vSigs l), .clo g (ds.map .d)] [] (Pure1 (aI (findI p l))) := by
 refine ASpec.of Tryz.func75 rfl rfl fun C hC => ?_
 refine AC.seq (AC.region ?_);refine za ?_;refine AL.nil (th_n (AC.seq (AC.seq (AC.region ?_))));refine zm ?_;refine kH ?_;refine zm ?_;refine AL.nil (th_n (AC.block ?_));refine AC.loop (ι := Nat) (fun k => ⟨19, 0, [(0, .d (vSigs l)), (1, .clo g (ds.map .d)), (6, .d (vSigs l)), (7, aI l.length), (8, aI k)], []⟩) (fun k => k ≤ l.length ∧ ∀ j (hj : j < l.length), j < k → p l[j] = false) (fun k => l.length - k) (0) ?_ (⟨Nat.zero_le _, fun j _ hj => by omega⟩) ?_
 ·refine Weak.ren _ [] hC rfl ⟨.same, ⟨_, rfl, leadsL_data _ ds⟩, ?_⟩ trivial rfl rfl rfl; repeat (first | exact True.intro | refine And.intro ?_ ?_ | exact DLead.same)
 intro k ⟨hk, hall⟩;refine AC.seq (AC.region ?_);refine zc ?_;refine AL.nil (th_n (AC.seq ?_));refine AC.condD rfl (fun h0 => ?_) (fun h0 => ?_)
 ·refine AC.skip (th_n (AC.seq (AC.block (AC.seq ?_))));have hk1 : k < l.length := by omega
  have hget := sigsL_get hk1;refine AC.region ?_;refine zm ?_;refine za ?_;refine AL.nil (th_n (AC.seq (AC.region ?_)));refine AL.p (by exact mv6 rfl) rfl ?_;refine zm ?_;refine zm ?_;refine AL.p (by exact g_ia_view rfl rfl rfl rfl rfl (by rfl) (by assumption)) rfl ?_;refine kG ?_;refine AL.q (by exact h_pure hen rfl rfl (by exact ⟨_, _, rfl, ⟨_, rfl, _, _, rfl, .same, _, _, rfl, .same, rfl⟩, leadsL_data _ ds⟩) (hp l[k] (List.getElem_mem hk1)) rfl) rfl ?_;refine AL.nil (th_n ?_);refine AC.condB rfl (fun h1 => ?_) (fun h1 => ?_)
  ·refine AC.seq (AC.region ?_);refine zm ?_;refine za ?_;refine AL.nil (th_n (AC.ret (ib_r (th_r (th_r (ib_r (th_r (bq_r ?_))))))));exact ret1 rfl (by rw [findI_at hk1 h1 (fun j hj => hall j (by omega) hj)])
  refine AC.skip (ib_n (th_n (AC.region ?_)));refine zA ?_;refine zm ?_;refine AL.nil (th_n ?_);exact ⟨k + 1, ⟨by omega, fun j hj hj2 => by rcases Nat.lt_succ_iff_lt_or_eq.1 hj2 with h | rfl; exact hall j hj h; exact h1⟩, by omega, Weak.ren _ [] hC rfl ⟨.same, ⟨_, rfl, leadsL_data _ ds⟩, by repeat (first | exact True.intro | refine And.intro ?_ ?_ | exact DLead.same)⟩ trivial rfl rfl rfl⟩
 refine AC.exit (th_e (th_e (ib_y (th_n (AC.seq (AC.region ?_))))));refine za ?_;refine AL.nil (th_n (AC.ret (bq_r ?_)));exact ret1 rfl (by rw [findI_none (fun j hj => hall j hj (by omega))])
theorem en_indexSig : Enters Tryz.prog 75 := enters_of Tryz.func75 rfl rfl
set_option maxHeartbeats 1000000 in
theorem containsSig_spec (l : List Sig) (hl : l.length ≤ 2000000) (g : FuncId) (ds : List DV) (hen : Enters Tryz.prog g) (p : Sig → Bool) (hp : ∀ t, t ∈ l → ASpec Tryz.prog g (sigA t :: ds.map .d) [] (Pure1 (aT (p t)))) : ASpec Tryz.prog 55 [.d (vSigs l), .clo g (ds.map .d)] [] (Pure1 (aT (l.any p))) := by
 refine ASpec.of Tryz.func55 rfl rfl fun C hC => ?_
 refine AC.seq (AC.region ?_);refine za ?_;refine AL.nil (th_n (AC.seq (AC.region ?_)));refine zm ?_;refine AL.p (by exact mv6 rfl) rfl ?_;refine AL.q (by exact h_pure en_indexSig rfl rfl (by exact ⟨_, _, rfl, .same, _, _, rfl, ⟨_, rfl, leadsL_data _ ds⟩, rfl⟩) (indexSig_spec l hl g ds hen p hp) rfl) rfl ?_;refine zc ?_;refine za ?_;refine AL.nil (th_n (AC.ret (bq_r ?_)));exact ret1 rfl (by rw [findI_any])
theorem en_containsSig : Enters Tryz.prog 55 := enters_of Tryz.func55 rfl rfl
theorem areSignals1_spec (x s : Sig) : ASpec Tryz.prog 56 [sigA x, .d (.ref (sigD s))] [] (Pure1 (aT (decide (x.name = s.name)))) := by
 refine ASpec.of Tryz.func56 rfl rfl fun C hC => ?_
 refine AC.seq (AC.region ?_);refine kD ?_;refine za ?_;refine AL.nil (th_n (AC.seq (AC.region ?_)));refine zf ?_;refine zr ?_;refine zf ?_;refine zr ?_;refine AL.p (by exact g_scmp rfl rfl rfl) rfl ?_;refine za ?_;refine AL.nil (th_n (AC.ret (bq_r ?_)));exact ret1 rfl (by simp only [bstr_iff])
theorem en_areSignals1 : Enters Tryz.prog 56 := enters_of Tryz.func56 rfl rfl
set_option maxHeartbeats 1000000 in
theorem areSignals_spec (l : List Sig) (hl : l.length ≤ 1048576) (hn : ∀ t, t ∈ l → t.name.length ≤ 1048576) : ASpec Tryz.prog 26 [.d (vSigs l)] [] (Pure1 (aT (sigsB l))) := by
 refine ASpec.of Tryz.func26 rfl rfl fun C hC => ?_
 refine AC.seq (AC.region ?_);refine za ?_;refine AL.nil (th_n (AC.seq (AC.seq (AC.region ?_))));refine zm ?_;refine kH ?_;refine zm ?_;refine AL.nil (th_n (AC.block ?_));refine AC.loop (ι := Nat) (fun k => ⟨33, 0, [(0, .d (vSigs l)), (5, .d (vSigs l)), (6, aI l.length), (7, aI k)], []⟩) (fun k => k ≤ l.length ∧ ∀ j (hj : j < l.length), j < k → sigK l j = true) (fun k => l.length - k) (0) ?_ (⟨Nat.zero_le _, fun j _ hj => by omega⟩) ?_
 ·refine Weak.ren _ [] hC rfl ?_ ?_ rfl rfl rfl <;> repeat (first | exact True.intro | refine And.intro ?_ ?_ | exact DLead.same)
 intro k ⟨hk, hall⟩;refine AC.seq (AC.region ?_);refine zc ?_;refine AL.nil (th_n (AC.seq ?_));refine AC.condD rfl (fun h0 => ?_) (fun h0 => ?_)
 ·refine AC.skip (th_n (AC.seq (AC.block (AC.seq ?_))));have hk1 : k < l.length := by omega
  have hget := sigsL_get hk1;have hnk := hn _ (List.getElem_mem hk1);refine AC.region ?_;refine zm ?_;refine AL.p (by exact g_ia_view rfl rfl rfl rfl rfl (by rfl) (by assumption)) rfl ?_;refine kG ?_;refine kE ?_;refine za ?_;refine zs ?_;refine AL.nil (th_n (AC.seq ?_));refine AC.weak (Weak.freezeRef (ds := sigD l[k]) 4 rfl rfl) ?_;have hkl : k ≤ (sigsL l).length := by rw [sigsL_len]; exact hk
  have htk : ((sigsL l).take k).drop 0 = sigsL (l.take k) := by simp [List.map_take]
  have hN := isName_spec l[k].name (by omega);have hW := within_spec l[k].kind 1 3;have hS := containsSig_spec (l.take k) (by rw [List.length_take]; omega) 56 [.ref (sigD l[k])] en_areSignals1 (fun y => decide (y.name = l[k].name)) (fun t _ => areSignals1_spec t l[k]);have hK : sigK l k = (nameB l[k].name && ((decide ((1 : Int) ≤ l[k].kind) && decide (l[k].kind ≤ 3)) && !(l.take k).any (fun y => decide (y.name = l[k].name)))) := by rw [sigK, sAt_nat hk1]; rfl
  obtain ⟨b1, hb1⟩ := eqx (nameB l[k].name);obtain ⟨b2, hb2⟩ := eqx ((decide ((1 : Int) ≤ l[k].kind) && decide (l[k].kind ≤ 3)));obtain ⟨b3, hb3⟩ := eqx ((l.take k).any (fun y => decide (y.name = l[k].name)));rw [← hb1] at hN hK;rw [← hb2] at hW hK;rw [← hb3] at hS hK;clear hb1 hb2 hb3;refine AC.region ?_;refine zf ?_;refine zr ?_;refine kV en_isName hN ?_;refine kC ?_;refine zm ?_;refine AL.caseGB rfl rfl (fun h1 => ?_) (fun h1 => ?_)
  ·refine zn ?_;refine zn ?_;refine zn ?_;refine zn ?_;refine zQ ?_;refine zm ?_;refine zn ?_;refine zn ?_;refine zn ?_;refine zn ?_;refine zn ?_;refine zQ ?_;refine AL.nil (th_n ?_);refine AC.condT rfl ?_;refine AC.seq (AC.region ?_);refine za ?_;refine AL.nil (th_n (AC.ret (ib_r (th_r (th_r (ib_r (th_r (bq_r ?_))))))));exact ret1 rfl (by rw [sigsB_no hk1 (by rw [hK]; simp_all)])
  refine zy ?_;refine zf ?_;refine zy ?_;refine zr ?_;refine zy ?_;refine kV en_within hW ?_;refine zy ?_;refine kC ?_;refine zP ?_;refine zm ?_;refine AL.caseGB rfl rfl (fun h2 => ?_) (fun h2 => ?_)
  ·refine zn ?_;refine zn ?_;refine zn ?_;refine zn ?_;refine zn ?_;refine zQ ?_;refine AL.nil (th_n ?_);refine AC.condT rfl ?_;refine AC.seq (AC.region ?_);refine za ?_;refine AL.nil (th_n (AC.ret (ib_r (th_r (th_r (ib_r (th_r (bq_r ?_))))))));exact ret1 rfl (by rw [sigsB_no hk1 (by rw [hK]; simp_all)])
  refine zy ?_;refine zm ?_;refine zy ?_;refine zm ?_;refine zy ?_;refine AL.p (by exact g_slice_view (r := sigsL (l.take k)) (l := 0) (h := k) rfl rfl rfl rfl .none (.some rfl rfl) (Nat.zero_le _) hkl htk) rfl ?_;refine zy ?_;refine AL.p (by exact g_fn rfl) rfl ?_;refine zy ?_;refine AL.q (by exact h_pure en_containsSig rfl rfl (by exact ⟨_, _, rfl, .same, _, _, rfl, ⟨_, rfl, leadsL_data _ _⟩, rfl⟩) hS rfl) rfl ?_;refine zP ?_;refine AL.nil (th_n ?_);refine AC.condB rfl (fun h3 => ?_) (fun h3 => ?_)
  ·refine AC.seq (AC.region ?_);refine za ?_;refine AL.nil (th_n (AC.ret (ib_r (th_r (th_r (ib_r (th_r (bq_r ?_))))))));exact ret1 rfl (by rw [sigsB_no hk1 (by rw [hK]; simp_all)])
  refine AC.skip (ib_n (th_n (AC.region ?_)));refine zA ?_;refine zm ?_;refine AL.nil (th_n ?_);exact ⟨k + 1, ⟨by omega, fun j hj hj2 => by rcases Nat.lt_succ_iff_lt_or_eq.1 hj2 with h | rfl; exact hall j hj h; rw [hK]; simp_all⟩, by omega, Weak.ren _ [] hC rfl (by repeat (first | exact True.intro | refine And.intro ?_ ?_ | exact DLead.same)) (by repeat (exact True.intro)) rfl rfl rfl⟩
 refine AC.exit (th_e (th_e (ib_y (th_n (AC.seq (AC.region ?_))))));refine zm ?_;refine kH ?_;refine AL.q (by exact h_pure en_within rfl rfl (by repeat (first | exact rfl | exact DLead.same | refine ⟨_, _, rfl, ?_, ?_⟩)) (within_spec _ _ _) rfl) rfl ?_;refine za ?_;refine AL.nil (th_n (AC.ret (bq_r ?_)));exact ret1 rfl (by rw [sigsB_yes (fun j hj => hall j hj (by omega))]; rfl)
theorem en_areSignals : Enters Tryz.prog 26 := enters_of Tryz.func26 rfl rfl
theorem any_take_step {α : Type} {p : α → Bool} {l : List α} {k : Nat} (hk : k < l.length) (h : ∀ j (hj : j < l.length), j < k → p l[j] = false) : (l.take k).any p = false := by
 rw [List.any_eq_false];intro x hx;obtain ⟨j, hj, rfl⟩ := List.getElem_of_mem hx;rw [List.length_take] at hj;rw [List.getElem_take, h j (by omega) (by omega)];simp
theorem any_take_at {α : Type} {p : α → Bool} {l : List α} {k j : Nat} (hk : k ≤ l.length) (hj : j < k) (h : p (l[j]'(by omega)) = true) : (l.take k).any p = true := by
 rw [List.any_eq_true];exact ⟨l[j]'(by omega), List.mem_take_iff_getElem.2 ⟨j, by omega, rfl⟩, h⟩
set_option maxHeartbeats 1000000 in
theorem l2Signals_spec (l : List Sig) (hl : l.length ≤ 1048576) (hn : ∀ t, t ∈ l → t.name.length ≤ 1048576) : ASpec Tryz.prog 52 [.d (vSigs l)] [] (Pure1 (aT (sigsB l))) := by
 refine ASpec.of Tryz.func52 rfl rfl fun C hC => ?_
 refine AC.seq (AC.region ?_);refine za ?_;refine AL.nil (th_n (AC.seq (AC.seq (AC.region ?_))));refine zm ?_;refine kH ?_;refine zm ?_;refine AL.nil (th_n (AC.block ?_));refine AC.loop (ι := Nat) (fun k => ⟨42, 0, [(0, .d (vSigs l)), (7, .d (vSigs l)), (8, aI l.length), (9, aI k)], []⟩) (fun k => k ≤ l.length ∧ ∀ j (hj : j < l.length), j < k → sigK l j = true) (fun k => l.length - k) (0) ?_ (⟨Nat.zero_le _, fun j _ hj => by omega⟩) ?_
 ·refine Weak.ren _ [] hC rfl ?_ ?_ rfl rfl rfl <;> repeat (first | exact True.intro | refine And.intro ?_ ?_ | exact DLead.same)
 intro k ⟨hk, hall⟩;refine AC.seq (AC.region ?_);refine zc ?_;refine AL.nil (th_n (AC.seq ?_));refine AC.condD rfl (fun h0 => ?_) (fun h0 => ?_)
 ·refine AC.skip (th_n (AC.seq (AC.block (AC.seq ?_))));have hk1 : k < l.length := by omega
  have hget := sigsL_get hk1;have hnk := hn _ (List.getElem_mem hk1);refine AC.region ?_;refine zm ?_;refine AL.p (by exact g_ia_view rfl rfl rfl rfl rfl (by rfl) (by assumption)) rfl ?_;refine kG ?_;refine kE ?_;refine za ?_;refine zs ?_;refine AL.nil (th_n (AC.seq (AC.seq ?_)));refine AC.weak (Weak.freezeRef (ds := sigD l[k]) 4 rfl rfl) ?_;have hkl : k ≤ (sigsL l).length := by rw [sigsL_len]; exact hk
  have htk : ((sigsL l).take k).drop 0 = sigsL (l.take k) := by simp [List.map_take]
  have hN := l2Name_spec l[k].name (by omega);have hW := l1In_spec l[k].kind 1 3;have hK : sigK l k = (nameB l[k].name && ((decide ((1 : Int) ≤ l[k].kind) && decide (l[k].kind ≤ 3)) && !(l.take k).any (fun y => decide (y.name = l[k].name)))) := by rw [sigK, sAt_nat hk1]; rfl
  obtain ⟨b1, hb1⟩ := eqx (nameB l[k].name);obtain ⟨b2, hb2⟩ := eqx ((decide ((1 : Int) ≤ l[k].kind) && decide (l[k].kind ≤ 3)));rw [← hb1] at hN hK;rw [← hb2] at hW hK;clear hb1 hb2;refine AC.region ?_;refine zf ?_;refine zr ?_;refine kV en_l2Name hN ?_;refine kC ?_;refine zm ?_;refine AL.caseGB rfl rfl (fun h1 => ?_) (fun h1 => ?_)
  ·refine zn ?_;refine zn ?_;refine zn ?_;refine zn ?_;refine zQ ?_;refine AL.nil (th_n ?_);refine AC.condT rfl ?_;refine AC.seq (AC.region ?_);refine za ?_;refine AL.nil (th_n (AC.ret (th_r (ib_r (th_r (th_r (ib_r (th_r (bq_r ?_)))))))));exact ret1 rfl (by rw [sigsB_no hk1 (by rw [hK]; simp_all)])
  refine zy ?_;refine zf ?_;refine zy ?_;refine zr ?_;refine zy ?_;refine kV en_l1In hW ?_;refine zy ?_;refine kC ?_;refine zP ?_;refine AL.nil (th_n ?_);refine AC.condB rfl (fun h2 => ?_) (fun h2 => ?_)
  ·refine AC.seq (AC.region ?_);refine za ?_;refine AL.nil (th_n (AC.ret (th_r (ib_r (th_r (th_r (ib_r (th_r (bq_r ?_)))))))));exact ret1 rfl (by rw [sigsB_no hk1 (by rw [hK]; simp_all)])
  refine AC.skip (th_n (AC.seq (AC.region ?_)));refine zm ?_;refine zm ?_;refine AL.p (by exact g_slice_view (r := sigsL (l.take k)) (l := 0) (h := k) rfl rfl rfl rfl .none (.some rfl rfl) (Nat.zero_le _) hkl htk) rfl ?_;refine AL.p (by exact g_len_view (els := sigsL (l.take k)) (k := k) rfl rfl (by rw [sigsL_len, List.length_take]; omega)) rfl ?_;refine zm ?_;refine AL.nil (th_n (AC.block ?_));refine AC.loop (ι := Nat) (fun q => ⟨42, 0, [(0, .d (vSigs l)), (7, .d (vSigs l)), (8, aI l.length), (9, aI k), (4, .d (.ref (sigD l[k]))), (26, .d (vSigs (l.take k))), (27, aI k), (28, aI q)], []⟩) (fun q => q ≤ k ∧ ∀ j (hj : j < l.length), j < q → (fun y : Sig => decide (y.name = l[k].name)) l[j] = false) (fun q => k - q) (0) ?_ (⟨Nat.zero_le _, fun j _ hj => by omega⟩) ?_
  ·refine Weak.ren _ [] hC rfl ?_ ?_ rfl rfl rfl <;> repeat (first | exact True.intro | refine And.intro ?_ ?_ | exact DLead.same)
  intro q ⟨hq, hno⟩;refine AC.seq (AC.region ?_);refine zc ?_;refine AL.nil (th_n (AC.seq ?_));refine AC.condD rfl (fun h3 => ?_) (fun h3 => ?_)
  ·refine AC.skip (th_n (AC.seq (AC.block (AC.seq ?_))));have hq1 : q < k := by omega
   have hget2 : (sigsL (l.take k))[q]? = some (sigD (l[q]'(by omega))) := by rw [sigsL_get (by rw [List.length_take]; omega)]; simp
   refine AC.region ?_;refine AL.p (by exact g_ia_view rfl rfl rfl rfl rfl (by rfl) (by assumption)) rfl ?_;refine kG ?_;refine kE ?_;refine zs ?_;refine AL.nil (th_n (AC.seq (AC.region ?_)));refine zf ?_;refine zr ?_;refine zF ?_;refine zl ?_;refine AL.p (by exact g_scmp rfl rfl rfl) rfl ?_;refine AL.nil (th_n ?_);refine AC.condD rfl (fun h4 => ?_) (fun h4 => ?_)
   ·refine AC.seq (AC.region ?_);refine za ?_;refine AL.nil (th_n (AC.ret (ib_r (th_r (th_r (ib_r (ib_r (th_r (th_r (ib_r (th_r (bq_r ?_))))))))))));have hne : (l.take k).any (fun y => decide (y.name = l[k].name)) = true := any_take_at (by omega) hq1 (by have := bstr_inj h4; simp [this]);exact ret1 rfl (by rw [sigsB_no hk1 (by rw [hK, hne]; simp)])
   refine AC.skip (ib_n (th_n (AC.region ?_)));refine zA ?_;refine zm ?_;refine AL.nil (th_n ?_);exact ⟨q + 1, ⟨by omega, fun j hj hj2 => by rcases Nat.lt_succ_iff_lt_or_eq.1 hj2 with h | rfl; exact hno j hj h; exact decide_eq_false (fun e => h4 (by rw [e]))⟩, by omega, Weak.ren _ [] hC rfl (by repeat (first | exact True.intro | refine And.intro ?_ ?_ | exact DLead.same)) (by repeat (exact True.intro)) rfl rfl rfl⟩
  refine AC.exit (th_e (th_e (ib_y (ib_n (th_n (AC.region ?_))))));refine zA ?_;refine zm ?_;refine AL.nil (th_n ?_);exact ⟨k + 1, ⟨by omega, fun j hj hj2 => by rcases Nat.lt_succ_iff_lt_or_eq.1 hj2 with h | rfl; exact hall j hj h; rw [hK, any_take_step hk1 (fun j hj hjk => hno j hj (by omega))]; simp_all⟩, by omega, Weak.ren _ [] hC rfl (by repeat (first | exact True.intro | refine And.intro ?_ ?_ | exact DLead.same)) (by repeat (exact True.intro)) rfl rfl rfl⟩
 refine AC.exit (th_e (th_e (ib_y (th_n (AC.seq (AC.region ?_))))));refine zm ?_;refine kH ?_;refine AL.q (by exact h_pure en_l1In rfl rfl (by repeat (first | exact rfl | exact DLead.same | refine ⟨_, _, rfl, ?_, ?_⟩)) (l1In_spec _ _ _) rfl) rfl ?_;refine za ?_;refine AL.nil (th_n (AC.ret (bq_r ?_)));exact ret1 rfl (by rw [sigsB_yes (fun j hj => hall j hj (by omega))]; rfl)
theorem en_l2Signals : Enters Tryz.prog 52 := enters_of Tryz.func52 rfl rfl
end Go.Proofs.YtjodfopifgiipaaGreat
