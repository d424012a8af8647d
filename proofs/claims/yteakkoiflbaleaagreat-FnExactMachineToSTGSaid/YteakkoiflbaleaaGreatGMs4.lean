/- Contracts of the functions of the program and of the reference, each proved by a walk through its code. -/
import Derived.Test.YteakkoiflbaleaaGreatGMs3
set_option linter.all false
set_option maxRecDepth 20000
namespace Go.Proofs.YteakkoiflbaleaaGreat
open Go.RowKit
set_option maxHeartbeats 1000000 in
theorem toSig_spec (x : Sig)  : ASpec Tryz.prog 48 [sigA x] [] (Pure1 (sigA x)) := by
 refine ASpec.of Tryz.func48 rfl rfl fun C hC => ?_
 refine AC.seq (AC.region ?_);refine kD ?_;refine kE ?_;refine AL.nil (th_n (AC.seq (AC.region ?_)));refine kE ?_;refine AL.nil (th_n (AC.seq (AC.region ?_)));refine zf ?_;refine zr ?_;refine zF ?_;refine zs ?_;refine AL.nil (th_n (AC.seq (AC.region ?_)));refine zf ?_;refine zr ?_;refine zF ?_;refine zs ?_;refine AL.nil (th_n (AC.seq (AC.region ?_)));refine AL.p (by exact g_load_ptrN rfl rfl rfl rfl rfl) rfl ?_;refine zs ?_;refine AL.nil (th_n (AC.ret (bq_r ?_)));exact ret0 rfl (by repeat (first | exact DLead.same | exact rfl | refine ⟨_, rfl, ?_⟩ | refine ⟨_, _, rfl, ?_, ?_⟩))
theorem en_toSig : Enters Tryz.prog 48 := enters_of Tryz.func48 rfl rfl
set_option maxHeartbeats 2000000 in
theorem toSigS_spec (l : List Sig) (hl : l.length ≤ 1048576) : ASpec Tryz.prog 19 [.d (vLSigs l)] [] (Pure1 (.d (vSigs l))) := by
 have hrl : (sigsL l).length = l.length := List.length_map _;refine ASpec.of Tryz.func19 rfl rfl fun C hC => ?_
 refine AC.seq (AC.region ?_);refine za ?_;refine AL.nil (th_n (AC.seq (AC.region ?_)));refine zm ?_;refine kH ?_;refine AL.q (by exact h_make (k := l.length) rfl rfl rfl rfl rfl rfl rfl rfl (by show 24 * l.length ≤ _; omega) (by omega)) rfl ?_;refine AL.p (by exact as2 rfl) rfl ?_;refine AL.nil (th_n (AC.seq (AC.seq (AC.region ?_))));refine za ?_;refine AL.nil (th_n (AC.block ?_));refine AC.loop (ι := Nat) (fun k => ⟨23, 108, [(0, .d (vLSigs l)), (3, .own 100 l.length), (4, aI k)], [(100, some (.arr 91 2 (fillR (sigsL l) [dS (bstr []), dI 0] k)))]⟩) (fun k => k ≤ l.length) (fun k => l.length - k) (0) ?_ (Nat.zero_le _) ?_
 ·exact zw [(100, _)] hC (b := by rw [fill_zero, hrl]; repeat (first | exact True.intro | refine And.intro ?_ ?_ | exact rfl | refine ⟨_, _, rfl, rfl, ?_⟩))
 intro k hk;refine AC.seq (AC.seq (AC.region ?_));refine zm ?_;refine zm ?_;refine kH ?_;refine zc ?_;refine AL.nil (th_n ?_);refine AC.condD rfl (fun h0 => ?_) (fun h0 => ?_)
 ·refine AC.skip (th_n (AC.seq (AC.block ?_)));have hk1 : k < l.length := by omega
  have hget := sigsL_get hk1;have hget2 := sigsL_get hk1;have hfl := fill_len (sigsL l) [dS (bstr []), dI 0] (k := k) (by omega);have hst := fill_set (R := sigsL l) (z := [dS (bstr []), dI 0]) (k := k) (by omega) hget2;refine AC.region ?_;refine kB ?_;refine zm ?_;refine zm ?_;refine zm ?_;refine AL.p (by exact g_ia_view rfl rfl rfl rfl rfl (by rfl) (by assumption)) rfl ?_;refine kG ?_;refine AL.q (by exact h_pure en_toSig rfl rfl (by repeat (first | exact rfl | exact DLead.same | refine ⟨_, _, rfl, ?_, ?_⟩ | refine ⟨_, rfl, ?_⟩)) (toSig_spec _) rfl) rfl ?_;refine AL.p (by exact g_ia_own rfl rfl rfl rfl rfl (by rfl) (by omega) (by rfl)) rfl ?_;refine AL.q (by exact h_store_row (i := k) (ds := sigD l[k]) rfl rfl rfl rfl rfl rfl rfl (by omega)) rfl ?_;refine AL.nil (ib_n (th_n (AC.region ?_)));refine zm ?_;refine zA ?_;refine za ?_;refine AL.nil (th_n ?_);exact ⟨k + 1, by omega, by omega, zw [(100, _)] hC (b := by rw [← hst]; repeat (first | exact True.intro | refine And.intro ?_ ?_ | exact rfl | refine ⟨_, _, rfl, rfl, ?_⟩))⟩
 refine AC.exit (th_e (th_e (ib_y (th_n (AC.seq ?_)))));have hkk : k = l.length := by omega
 have hfa := fill_all (sigsL l) [dS (bstr []), dI 0];rw [hrl] at hfa;rw [hkk, hfa];refine AC.weak (Weak.freeze (els' := sigsL l) (i := 3) rfl rfl (by omega) (List.take_of_length_le (by omega))) ?_;refine AC.region ?_;refine zm ?_;refine za ?_;refine AL.nil (th_n (AC.ret (bq_r ?_)));exact ret1 rfl rfl
theorem en_toSigS : Enters Tryz.prog 19 := enters_of Tryz.func19 rfl rfl
set_option maxHeartbeats 1000000 in
theorem toLab_spec (x : Lab)  : ASpec Tryz.prog 94 [labA x] [] (Pure1 (labA x)) := by
 refine ASpec.of Tryz.func94 rfl rfl fun C hC => ?_
 refine AC.seq (AC.region ?_);refine kD ?_;refine kE ?_;refine AL.nil (th_n (AC.seq (AC.region ?_)));refine kE ?_;refine AL.nil (th_n (AC.seq (AC.region ?_)));refine zf ?_;refine zr ?_;refine zF ?_;refine zs ?_;refine AL.nil (th_n (AC.seq (AC.region ?_)));refine zf ?_;refine zr ?_;refine zF ?_;refine zs ?_;refine AL.nil (th_n (AC.seq (AC.region ?_)));refine AL.p (by exact g_load_ptrN rfl rfl rfl rfl rfl) rfl ?_;refine zs ?_;refine AL.nil (th_n (AC.ret (bq_r ?_)));exact ret0 rfl (by repeat (first | exact DLead.same | exact rfl | refine ⟨_, rfl, ?_⟩ | refine ⟨_, _, rfl, ?_, ?_⟩))
theorem en_toLab : Enters Tryz.prog 94 := enters_of Tryz.func94 rfl rfl
set_option maxHeartbeats 2000000 in
theorem toLabS_spec (l : List Lab) (hl : l.length ≤ 1048576) : ASpec Tryz.prog 71 [.d (vLLabs l)] [] (Pure1 (.d (vLabs l))) := by
 have hrl : (labsL l).length = l.length := List.length_map _;refine ASpec.of Tryz.func71 rfl rfl fun C hC => ?_
 refine AC.seq (AC.region ?_);refine za ?_;refine AL.nil (th_n (AC.seq (AC.region ?_)));refine zm ?_;refine kH ?_;refine AL.q (by exact h_make (k := l.length) rfl rfl rfl rfl rfl rfl rfl rfl (by show 16 * l.length ≤ _; omega) (by omega)) rfl ?_;refine AL.p (by exact as2 rfl) rfl ?_;refine AL.nil (th_n (AC.seq (AC.seq (AC.region ?_))));refine za ?_;refine AL.nil (th_n (AC.block ?_));refine AC.loop (ι := Nat) (fun k => ⟨23, 108, [(0, .d (vLLabs l)), (3, .own 100 l.length), (4, aI k)], [(100, some (.arr 63 2 (fillR (labsL l) [dI 0, dT false] k)))]⟩) (fun k => k ≤ l.length) (fun k => l.length - k) (0) ?_ (Nat.zero_le _) ?_
 ·exact zw [(100, _)] hC (b := by rw [fill_zero, hrl]; repeat (first | exact True.intro | refine And.intro ?_ ?_ | exact rfl | refine ⟨_, _, rfl, rfl, ?_⟩))
 intro k hk;refine AC.seq (AC.seq (AC.region ?_));refine zm ?_;refine zm ?_;refine kH ?_;refine zc ?_;refine AL.nil (th_n ?_);refine AC.condD rfl (fun h0 => ?_) (fun h0 => ?_)
 ·refine AC.skip (th_n (AC.seq (AC.block ?_)));have hk1 : k < l.length := by omega
  have hget := labsL_get hk1;have hget2 := labsL_get hk1;have hfl := fill_len (labsL l) [dI 0, dT false] (k := k) (by omega);have hst := fill_set (R := labsL l) (z := [dI 0, dT false]) (k := k) (by omega) hget2;refine AC.region ?_;refine kB ?_;refine zm ?_;refine zm ?_;refine zm ?_;refine AL.p (by exact g_ia_view rfl rfl rfl rfl rfl (by rfl) (by assumption)) rfl ?_;refine kG ?_;refine AL.q (by exact h_pure en_toLab rfl rfl (by repeat (first | exact rfl | exact DLead.same | refine ⟨_, _, rfl, ?_, ?_⟩ | refine ⟨_, rfl, ?_⟩)) (toLab_spec _) rfl) rfl ?_;refine AL.p (by exact g_ia_own rfl rfl rfl rfl rfl (by rfl) (by omega) (by rfl)) rfl ?_;refine AL.q (by exact h_store_row (i := k) (ds := labD l[k]) rfl rfl rfl rfl rfl rfl rfl (by omega)) rfl ?_;refine AL.nil (ib_n (th_n (AC.region ?_)));refine zm ?_;refine zA ?_;refine za ?_;refine AL.nil (th_n ?_);exact ⟨k + 1, by omega, by omega, zw [(100, _)] hC (b := by rw [← hst]; repeat (first | exact True.intro | refine And.intro ?_ ?_ | exact rfl | refine ⟨_, _, rfl, rfl, ?_⟩))⟩
 refine AC.exit (th_e (th_e (ib_y (th_n (AC.seq ?_)))));have hkk : k = l.length := by omega
 have hfa := fill_all (labsL l) [dI 0, dT false];rw [hrl] at hfa;rw [hkk, hfa];refine AC.weak (Weak.freeze (els' := labsL l) (i := 3) rfl rfl (by omega) (List.take_of_length_le (by omega))) ?_;refine AC.region ?_;refine zm ?_;refine za ?_;refine AL.nil (th_n (AC.ret (bq_r ?_)));exact ret1 rfl rfl
theorem en_toLabS : Enters Tryz.prog 71 := enters_of Tryz.func71 rfl rfl
set_option maxHeartbeats 1000000 in
theorem toBur_spec (x : Bur) (h1 : x.inn.length ≤ 1048576) (h2 : x.out.length ≤ 1048576) : ASpec Tryz.prog 49 [burLA x] [] (Pure1 (burA x)) := by
 refine ASpec.of Tryz.func49 rfl rfl fun C hC => ?_
 refine AC.seq (AC.region ?_);refine kD ?_;refine kE ?_;refine AL.nil (th_n (AC.seq (AC.region ?_)));refine kE ?_;refine AL.nil (th_n (AC.seq (AC.region ?_)));refine zf ?_;refine zr ?_;refine zF ?_;refine zs ?_;refine AL.nil (th_n (AC.seq (AC.region ?_)));refine zf ?_;refine zr ?_;refine AL.q (by exact h_pure en_toLabS rfl rfl (by repeat (first | exact rfl | exact DLead.same | refine ⟨_, _, rfl, ?_, ?_⟩)) (toLabS_spec _ (by assumption)) rfl) rfl ?_;refine zF ?_;refine zs ?_;refine AL.nil (th_n (AC.seq (AC.region ?_)));refine zf ?_;refine zr ?_;refine AL.q (by exact h_pure en_toLabS rfl rfl (by repeat (first | exact rfl | exact DLead.same | refine ⟨_, _, rfl, ?_, ?_⟩)) (toLabS_spec _ (by assumption)) rfl) rfl ?_;refine zF ?_;refine zs ?_;refine AL.nil (th_n (AC.seq (AC.region ?_)));refine zf ?_;refine zr ?_;refine zF ?_;refine zs ?_;refine AL.nil (th_n (AC.seq (AC.region ?_)));refine AL.p (by exact g_load_ptrN rfl rfl rfl rfl rfl) rfl ?_;refine zs ?_;refine AL.nil (th_n (AC.ret (bq_r ?_)));exact ret0 rfl (by repeat (first | exact DLead.same | exact rfl | refine ⟨_, rfl, ?_⟩ | refine ⟨_, _, rfl, ?_, ?_⟩))
theorem en_toBur : Enters Tryz.prog 49 := enters_of Tryz.func49 rfl rfl
set_option maxHeartbeats 2000000 in
theorem toBurS_spec (l : List Bur) (hl : l.length ≤ 1048576) (hb : ∀ t, t ∈ l → t.inn.length ≤ 1048576 ∧ t.out.length ≤ 1048576) : ASpec Tryz.prog 20 [.d (vLBurs l)] [] (Pure1 (.d (vBurs l))) := by
 have hrl : (bursL l).length = l.length := List.length_map _;refine ASpec.of Tryz.func20 rfl rfl fun C hC => ?_
 refine AC.seq (AC.region ?_);refine za ?_;refine AL.nil (th_n (AC.seq (AC.region ?_)));refine zm ?_;refine kH ?_;refine AL.q (by exact h_make (k := l.length) rfl rfl rfl rfl rfl rfl rfl rfl (by show 64 * l.length ≤ _; omega) (by omega)) rfl ?_;refine AL.p (by exact as2 rfl) rfl ?_;refine AL.nil (th_n (AC.seq (AC.seq (AC.region ?_))));refine za ?_;refine AL.nil (th_n (AC.block ?_));refine AC.loop (ι := Nat) (fun k => ⟨23, 108, [(0, .d (vLBurs l)), (3, .own 100 l.length), (4, aI k)], [(100, some (.arr 54 4 (fillR (bursL l) [dI 0, DV.val (.slice none 0 0), DV.val (.slice none 0 0), dI 0] k)))]⟩) (fun k => k ≤ l.length) (fun k => l.length - k) (0) ?_ (Nat.zero_le _) ?_
 ·exact zw [(100, _)] hC (b := by rw [fill_zero, hrl]; repeat (first | exact True.intro | refine And.intro ?_ ?_ | exact rfl | refine ⟨_, _, rfl, rfl, ?_⟩))
 intro k hk;refine AC.seq (AC.seq (AC.region ?_));refine zm ?_;refine zm ?_;refine kH ?_;refine zc ?_;refine AL.nil (th_n ?_);refine AC.condD rfl (fun h0 => ?_) (fun h0 => ?_)
 ·refine AC.skip (th_n (AC.seq (AC.block ?_)));have hk1 : k < l.length := by omega
  have hget := bursLL_get hk1;have hget2 := bursL_get hk1;have hb1 := (hb _ (List.getElem_mem hk1)).1;have hb2 := (hb _ (List.getElem_mem hk1)).2;have hfl := fill_len (bursL l) [dI 0, DV.val (.slice none 0 0), DV.val (.slice none 0 0), dI 0] (k := k) (by omega);have hst := fill_set (R := bursL l) (z := [dI 0, DV.val (.slice none 0 0), DV.val (.slice none 0 0), dI 0]) (k := k) (by omega) hget2;refine AC.region ?_;refine kB ?_;refine zm ?_;refine zm ?_;refine zm ?_;refine AL.p (by exact g_ia_view rfl rfl rfl rfl rfl (by rfl) (by assumption)) rfl ?_;refine kG ?_;refine AL.q (by exact h_pure en_toBur rfl rfl (by repeat (first | exact rfl | exact DLead.same | refine ⟨_, _, rfl, ?_, ?_⟩ | refine ⟨_, rfl, ?_⟩)) (toBur_spec _ (by assumption) (by assumption)) rfl) rfl ?_;refine AL.p (by exact g_ia_own rfl rfl rfl rfl rfl (by rfl) (by omega) (by rfl)) rfl ?_;refine AL.q (by exact h_store_row (i := k) (ds := burD l[k]) rfl rfl rfl rfl rfl rfl rfl (by omega)) rfl ?_;refine AL.nil (ib_n (th_n (AC.region ?_)));refine zm ?_;refine zA ?_;refine za ?_;refine AL.nil (th_n ?_);exact ⟨k + 1, by omega, by omega, zw [(100, _)] hC (b := by rw [← hst]; repeat (first | exact True.intro | refine And.intro ?_ ?_ | exact rfl | refine ⟨_, _, rfl, rfl, ?_⟩))⟩
 refine AC.exit (th_e (th_e (ib_y (th_n (AC.seq ?_)))));have hkk : k = l.length := by omega
 have hfa := fill_all (bursL l) [dI 0, DV.val (.slice none 0 0), DV.val (.slice none 0 0), dI 0];rw [hrl] at hfa;rw [hkk, hfa];refine AC.weak (Weak.freeze (els' := bursL l) (i := 3) rfl rfl (by omega) (List.take_of_length_le (by omega))) ?_;refine AC.region ?_;refine zm ?_;refine za ?_;refine AL.nil (th_n (AC.ret (bq_r ?_)));exact ret1 rfl rfl
theorem en_toBurS : Enters Tryz.prog 20 := enters_of Tryz.func20 rfl rfl
structure SmM (m : Mach) : Prop where
 s : m.sigs.length ≤ 1048576
 sn : ∀ t, t ∈ m.sigs → t.name.length ≤ 1048576
 st : okI m.states
 b : m.burs.length ≤ 1048576
 bl : ∀ t, t ∈ m.burs → t.inn.length ≤ 1048576 ∧ t.out.length ≤ 1048576
 f : m.first.length ≤ 1048576
theorem sumL_mem {α : Type} {wt : α → Nat} : ∀ {l : List α} {x : α}, x ∈ l → wt x ≤ sumL wt l
 | a :: l, x, h => by
  rcases List.mem_cons.1 h with rfl | h
  ·simp only [sumL]; omega
  have := sumL_mem (wt := wt) h; simp only [sumL]; omega
theorem SmM.of {m : Mach} (hm : ArgM m) (h : szMc m ≤ 1048576) : SmM m := by
 have e : szMc m = (m.sigs.length + sumL szSg m.sigs) + (m.burs.length + sumL szBr m.burs) + m.first.length := rfl;refine ⟨by omega, fun t ht => ?_, hm.st, by omega, fun t ht => ?_, by omega⟩
 ·have := sumL_mem (wt := szSg) ht; have e2 : szSg t = t.name.length := rfl; omega
 have := sumL_mem (wt := szBr) ht; have e2 : szBr t = t.inn.length + t.out.length := rfl; omega
set_option maxHeartbeats 1000000 in
theorem toMach_spec (x : Mach) (h : SmM x) : ASpec Tryz.prog 6 [machLA x] [] (Pure1 (machA x)) := by
 have h1 := toSigS_spec x.sigs h.s;have h2 := toBurS_spec x.burs h.b h.bl;refine ASpec.of Tryz.func6 rfl rfl fun C hC => ?_
 refine AC.seq (AC.region ?_);refine kD ?_;refine kE ?_;refine AL.nil (th_n (AC.seq (AC.region ?_)));refine kE ?_;refine AL.nil (th_n (AC.seq (AC.region ?_)));refine zf ?_;refine zr ?_;refine kV en_toSigS h1 ?_;refine zF ?_;refine zs ?_;refine AL.nil (th_n (AC.seq (AC.region ?_)));refine zf ?_;refine zr ?_;refine zF ?_;refine zs ?_;refine AL.nil (th_n (AC.seq (AC.region ?_)));refine zf ?_;refine zr ?_;refine kV en_toBurS h2 ?_;refine zF ?_;refine zs ?_;refine AL.nil (th_n (AC.seq (AC.region ?_)));refine zf ?_;refine zr ?_;refine zF ?_;refine zs ?_;refine AL.nil (th_n (AC.seq (AC.region ?_)));refine AL.p (by exact g_load_ptrN rfl rfl rfl rfl rfl) rfl ?_;refine zs ?_;refine AL.nil (th_n (AC.ret (bq_r ?_)));exact ret0 rfl (by repeat (first | exact DLead.same | exact rfl | refine ⟨_, rfl, ?_⟩ | refine ⟨_, _, rfl, ?_, ?_⟩))
theorem en_toMach : Enters Tryz.prog 6 := enters_of Tryz.func6 rfl rfl
theorem eqSig_dec (a b : Sig) : decide (a = b) = (decide (a.name = b.name) && decide (a.kind = b.kind)) := by
 cases a; cases b;simp only [Sig.mk.injEq, Bool.decide_and]
set_option maxHeartbeats 1000000 in
theorem eqSig_spec (a b : Sig)  : ASpec Tryz.prog 56 [sigA a, sigA b] [] (Pure1 (aT (decide (a = b)))) := by
 rw [eqSig_dec];refine ASpec.of Tryz.func56 rfl rfl fun C hC => ?_
 refine AC.seq (AC.region ?_);refine kD ?_;refine kD ?_;refine za ?_;refine AL.nil (th_n (AC.seq (AC.seq (AC.region ?_))));refine zf ?_;refine zr ?_;refine zf ?_;refine zr ?_;refine AL.p (by exact g_scmp rfl rfl rfl) rfl ?_;refine AL.nil (th_n ?_);refine AC.condND rfl (fun h0 => ?_) (fun h0 => ?_)
 ·refine AC.seq (AC.region ?_);refine za ?_;refine AL.nil (th_n (AC.ret (th_r (bq_r ?_))));exact ret1 rfl (by simp_all [bstr_iff])
 refine AC.skip (th_n (AC.seq (AC.seq (AC.region ?_))));refine zf ?_;refine zr ?_;refine zf ?_;refine zr ?_;refine zc ?_;refine AL.nil (th_n ?_);refine AC.condND rfl (fun h1 => ?_) (fun h1 => ?_)
 ·refine AC.seq (AC.region ?_);refine za ?_;refine AL.nil (th_n (AC.ret (th_r (bq_r ?_))));exact ret1 rfl (by simp_all [bstr_iff])
 refine AC.skip (th_n (AC.seq (AC.region ?_)));refine za ?_;refine AL.nil (th_n (AC.ret (bq_r ?_)));exact ret1 rfl (by simp_all [bstr_iff])
theorem en_eqSig : Enters Tryz.prog 56 := enters_of Tryz.func56 rfl rfl
set_option maxHeartbeats 1000000 in
theorem eqSigS_spec (a b : List Sig) (ha : a.length ≤ 1048576) (hb : b.length ≤ 1048576)  : ASpec Tryz.prog 27 [.d (vSigs a), .d (vSigs b)] [] (Pure1 (aT (decide (a = b)))) := by
 refine ASpec.of Tryz.func27 rfl rfl fun C hC => ?_
 refine AC.seq (AC.region ?_);refine za ?_;refine AL.nil (th_n (AC.seq (AC.seq (AC.region ?_))));refine zm ?_;refine kH ?_;refine zm ?_;refine kH ?_;refine zc ?_;refine AL.nil (th_n ?_);refine AC.condND rfl (fun h0 => ?_) (fun h0 => ?_)
 ·refine AC.seq (AC.region ?_);refine za ?_;refine AL.nil (th_n (AC.ret (th_r (bq_r ?_))));have hne : a ≠ b := fun e => h0 (by rw [e])
  exact ret1 rfl (by rw [decide_eq_false hne])
 refine AC.skip (th_n (AC.seq (AC.seq (AC.region ?_))));refine za ?_;refine AL.nil (th_n (AC.block ?_));refine AC.loop (ι := Nat) (fun k => ⟨27, 0, [(0, .d (vSigs a)), (1, .d (vSigs b)), (5, aI k)], []⟩) (fun k => k ≤ a.length ∧ ∀ j (h1 : j < a.length) (h2 : j < b.length), j < k → a[j] = b[j]) (fun k => a.length - k) (0) ?_ (⟨Nat.zero_le _, fun j _ _ hj => by omega⟩) ?_
 ·refine Weak.ren _ [] hC rfl ?_ ?_ rfl rfl rfl <;> repeat (first | exact True.intro | refine And.intro ?_ ?_ | exact DLead.same)
 intro k ⟨hk, hall⟩;refine AC.seq (AC.seq (AC.region ?_));refine zm ?_;refine zm ?_;refine kH ?_;refine zc ?_;refine AL.nil (th_n ?_);refine AC.condD rfl (fun h1 => ?_) (fun h1 => ?_)
 ·refine AC.skip (th_n (AC.seq (AC.block (AC.seq ?_))));have hk1 : k < a.length := by omega
  have hk2 : k < b.length := by omega
  have hgeta := sigsL_get hk1;have hgetb := sigsL_get hk2;refine AC.drawn' mixed_ok [[], [], [0,1], [0,1,2], [], [], [4,5], [4,5,6], [0,1,2,3,4,5,6,7], [0,1,2,3,4,5,6,7,8]] (by decide) ?_;refine zd 0 [] 10 (by exact mv1 rfl) ?_;refine zd 1 [] 10 (by exact mv1 rfl) ?_;refine zd 2 [0,1] 10 (by exact g_ia_view rfl rfl rfl rfl rfl (by rfl) (by assumption)) ?_;refine zd 3 [0,1,2] 10 (by exact g_load_refN rfl rfl rfl rfl) ?_;refine zd 4 [] 10 (by exact mv1 rfl) ?_;refine zd 5 [] 10 (by exact mv1 rfl) ?_;refine zd 6 [4,5] 10 (by exact g_ia_view rfl rfl rfl rfl rfl (by rfl) (by assumption)) ?_;refine zd 7 [4,5,6] 10 (by exact g_load_refN rfl rfl rfl rfl) ?_;refine zh 8 [0,1,2,3,4,5,6,7] 10 (by exact h_pure en_eqSig rfl rfl (by repeat (first | exact rfl | exact DLead.same | refine ⟨_, _, rfl, ?_, ?_⟩ | refine ⟨_, rfl, ?_⟩)) (eqSig_spec _ _) rfl) ?_;refine zd 9 (List.range 9) 10 (by exact g_not rfl) ?_;refine zj 10 ?_;refine th_n ?_;refine AC.condND rfl (fun h2 => ?_) (fun h2 => ?_)
  ·refine AC.seq (AC.region ?_);refine za ?_;refine AL.nil (th_n (AC.ret (ib_r (th_r (th_r (ib_r (th_r (bq_r ?_))))))));have hne : a ≠ b := fun e => by subst e; simp at h2
   exact ret1 rfl (by rw [decide_eq_false hne])
  refine AC.skip (ib_n (th_n (AC.region ?_)));refine zm ?_;refine zA ?_;refine za ?_;refine AL.nil (th_n ?_);have hkk : a[k] = b[k] := by simpa using h2
  exact ⟨k + 1, ⟨by omega, fun j h1 h2 hj => by rcases Nat.lt_succ_iff_lt_or_eq.1 hj with h | rfl; exact hall j h1 h2 h; exact hkk⟩, by omega, Weak.ren _ [] hC rfl (by repeat (first | exact True.intro | refine And.intro ?_ ?_ | exact DLead.same)) (by repeat (exact True.intro)) rfl rfl rfl⟩
 refine AC.exit (th_e (th_e (ib_y (th_n (AC.seq (AC.region ?_))))));refine za ?_;refine AL.nil (th_n (AC.ret (bq_r ?_)));have he : a = b := List.ext_getElem (by omega) (fun j h1 h2 => hall j h1 h2 (by omega));exact ret1 rfl (by rw [decide_eq_true he])
theorem en_eqSigS : Enters Tryz.prog 27 := enters_of Tryz.func27 rfl rfl
theorem eqLab_dec (a b : Lab) : decide (a = b) = (decide (a.sig = b.sig) && decide (a.up = b.up)) := by
 cases a; cases b;simp only [Lab.mk.injEq, Bool.decide_and]
set_option maxHeartbeats 1000000 in
theorem eqLab_spec (a b : Lab)  : ASpec Tryz.prog 57 [labA a, labA b] [] (Pure1 (aT (decide (a = b)))) := by
 rw [eqLab_dec];refine ASpec.of Tryz.func57 rfl rfl fun C hC => ?_
 refine AC.seq (AC.region ?_);refine kD ?_;refine kD ?_;refine za ?_;refine AL.nil (th_n (AC.seq (AC.seq (AC.region ?_))));refine zf ?_;refine zr ?_;refine zf ?_;refine zr ?_;refine zc ?_;refine AL.nil (th_n ?_);refine AC.condND rfl (fun h0 => ?_) (fun h0 => ?_)
 ·refine AC.seq (AC.region ?_);refine za ?_;refine AL.nil (th_n (AC.ret (th_r (bq_r ?_))));exact ret1 rfl (by simp_all [bstr_iff])
 refine AC.skip (th_n (AC.seq (AC.seq (AC.region ?_))));refine zf ?_;refine zr ?_;refine zf ?_;refine zr ?_;refine AL.p (by exact g_neB rfl rfl rfl) rfl ?_;refine AL.nil (th_n ?_);refine AC.condND rfl (fun h1 => ?_) (fun h1 => ?_)
 ·refine AC.seq (AC.region ?_);refine za ?_;refine AL.nil (th_n (AC.ret (th_r (bq_r ?_))));exact ret1 rfl (by simp_all [bstr_iff])
 refine AC.skip (th_n (AC.seq (AC.region ?_)));refine za ?_;refine AL.nil (th_n (AC.ret (bq_r ?_)));exact ret1 rfl (by simp_all [bstr_iff])
theorem en_eqLab : Enters Tryz.prog 57 := enters_of Tryz.func57 rfl rfl
set_option maxHeartbeats 1000000 in
theorem eqLabS_spec (a b : List Lab) (ha : a.length ≤ 1048576) (hb : b.length ≤ 1048576)  : ASpec Tryz.prog 28 [.d (vLabs a), .d (vLabs b)] [] (Pure1 (aT (decide (a = b)))) := by
 refine ASpec.of Tryz.func28 rfl rfl fun C hC => ?_
 refine AC.seq (AC.region ?_);refine za ?_;refine AL.nil (th_n (AC.seq (AC.seq (AC.region ?_))));refine zm ?_;refine kH ?_;refine zm ?_;refine kH ?_;refine zc ?_;refine AL.nil (th_n ?_);refine AC.condND rfl (fun h0 => ?_) (fun h0 => ?_)
 ·refine AC.seq (AC.region ?_);refine za ?_;refine AL.nil (th_n (AC.ret (th_r (bq_r ?_))));have hne : a ≠ b := fun e => h0 (by rw [e])
  exact ret1 rfl (by rw [decide_eq_false hne])
 refine AC.skip (th_n (AC.seq (AC.seq (AC.region ?_))));refine za ?_;refine AL.nil (th_n (AC.block ?_));refine AC.loop (ι := Nat) (fun k => ⟨27, 0, [(0, .d (vLabs a)), (1, .d (vLabs b)), (5, aI k)], []⟩) (fun k => k ≤ a.length ∧ ∀ j (h1 : j < a.length) (h2 : j < b.length), j < k → a[j] = b[j]) (fun k => a.length - k) (0) ?_ (⟨Nat.zero_le _, fun j _ _ hj => by omega⟩) ?_
 ·refine Weak.ren _ [] hC rfl ?_ ?_ rfl rfl rfl <;> repeat (first | exact True.intro | refine And.intro ?_ ?_ | exact DLead.same)
 intro k ⟨hk, hall⟩;refine AC.seq (AC.seq (AC.region ?_));refine zm ?_;refine zm ?_;refine kH ?_;refine zc ?_;refine AL.nil (th_n ?_);refine AC.condD rfl (fun h1 => ?_) (fun h1 => ?_)
 ·refine AC.skip (th_n (AC.seq (AC.block (AC.seq ?_))));have hk1 : k < a.length := by omega
  have hk2 : k < b.length := by omega
  have hgeta := labsL_get hk1;have hgetb := labsL_get hk2;refine AC.drawn' mixed_ok [[], [], [0,1], [0,1,2], [], [], [4,5], [4,5,6], [0,1,2,3,4,5,6,7], [0,1,2,3,4,5,6,7,8]] (by decide) ?_;refine zd 0 [] 10 (by exact mv1 rfl) ?_;refine zd 1 [] 10 (by exact mv1 rfl) ?_;refine zd 2 [0,1] 10 (by exact g_ia_view rfl rfl rfl rfl rfl (by rfl) (by assumption)) ?_;refine zd 3 [0,1,2] 10 (by exact g_load_refN rfl rfl rfl rfl) ?_;refine zd 4 [] 10 (by exact mv1 rfl) ?_;refine zd 5 [] 10 (by exact mv1 rfl) ?_;refine zd 6 [4,5] 10 (by exact g_ia_view rfl rfl rfl rfl rfl (by rfl) (by assumption)) ?_;refine zd 7 [4,5,6] 10 (by exact g_load_refN rfl rfl rfl rfl) ?_;refine zh 8 [0,1,2,3,4,5,6,7] 10 (by exact h_pure en_eqLab rfl rfl (by repeat (first | exact rfl | exact DLead.same | refine ⟨_, _, rfl, ?_, ?_⟩ | refine ⟨_, rfl, ?_⟩)) (eqLab_spec _ _) rfl) ?_;refine zd 9 (List.range 9) 10 (by exact g_not rfl) ?_;refine zj 10 ?_;refine th_n ?_;refine AC.condND rfl (fun h2 => ?_) (fun h2 => ?_)
  ·refine AC.seq (AC.region ?_);refine za ?_;refine AL.nil (th_n (AC.ret (ib_r (th_r (th_r (ib_r (th_r (bq_r ?_))))))));have hne : a ≠ b := fun e => by subst e; simp at h2
   exact ret1 rfl (by rw [decide_eq_false hne])
  refine AC.skip (ib_n (th_n (AC.region ?_)));refine zm ?_;refine zA ?_;refine za ?_;refine AL.nil (th_n ?_);have hkk : a[k] = b[k] := by simpa using h2
  exact ⟨k + 1, ⟨by omega, fun j h1 h2 hj => by rcases Nat.lt_succ_iff_lt_or_eq.1 hj with h | rfl; exact hall j h1 h2 h; exact hkk⟩, by omega, Weak.ren _ [] hC rfl (by repeat (first | exact True.intro | refine And.intro ?_ ?_ | exact DLead.same)) (by repeat (exact True.intro)) rfl rfl rfl⟩
 refine AC.exit (th_e (th_e (ib_y (th_n (AC.seq (AC.region ?_))))));refine za ?_;refine AL.nil (th_n (AC.ret (bq_r ?_)));have he : a = b := List.ext_getElem (by omega) (fun j h1 h2 => hall j h1 h2 (by omega));exact ret1 rfl (by rw [decide_eq_true he])
theorem en_eqLabS : Enters Tryz.prog 28 := enters_of Tryz.func28 rfl rfl
theorem eqBur_dec (a b : Bur) : decide (a = b) = (decide (a.from_ = b.from_) && (decide (a.inn = b.inn) && (decide (a.out = b.out) && decide (a.to_ = b.to_)))) := by
 cases a; cases b;simp only [Bur.mk.injEq, Bool.decide_and]
set_option maxHeartbeats 1000000 in
theorem eqBur_spec (a b : Bur) (h1 : a.inn.length ≤ 1048576) (h2 : b.inn.length ≤ 1048576) (h3 : a.out.length ≤ 1048576) (h4 : b.out.length ≤ 1048576) : ASpec Tryz.prog 58 [burA a, burA b] [] (Pure1 (aT (decide (a = b)))) := by
 rw [eqBur_dec];refine ASpec.of Tryz.func58 rfl rfl fun C hC => ?_
 refine AC.seq (AC.region ?_);refine kD ?_;refine kD ?_;refine za ?_;refine AL.nil (th_n (AC.seq (AC.seq (AC.region ?_))));refine zf ?_;refine zr ?_;refine zf ?_;refine zr ?_;refine zc ?_;refine AL.nil (th_n ?_);refine AC.condND rfl (fun h0 => ?_) (fun h0 => ?_)
 ·refine AC.seq (AC.region ?_);refine za ?_;refine AL.nil (th_n (AC.ret (th_r (bq_r ?_))));exact ret1 rfl (by simp_all [bstr_iff])
 refine AC.skip (th_n (AC.seq (AC.seq (AC.region ?_))));refine zf ?_;refine zr ?_;refine zf ?_;refine zr ?_;refine AL.q (by exact h_pure en_eqLabS rfl rfl (by repeat (first | exact rfl | exact DLead.same | refine ⟨_, _, rfl, ?_, ?_⟩)) (eqLabS_spec _ _ (by assumption) (by assumption)) rfl) rfl ?_;refine kC ?_;refine AL.nil (th_n ?_);refine AC.condND rfl (fun h1 => ?_) (fun h1 => ?_)
 ·refine AC.seq (AC.region ?_);refine za ?_;refine AL.nil (th_n (AC.ret (th_r (bq_r ?_))));exact ret1 rfl (by simp_all [bstr_iff])
 refine AC.skip (th_n (AC.seq (AC.seq (AC.region ?_))));refine zf ?_;refine zr ?_;refine zf ?_;refine zr ?_;refine AL.q (by exact h_pure en_eqLabS rfl rfl (by repeat (first | exact rfl | exact DLead.same | refine ⟨_, _, rfl, ?_, ?_⟩)) (eqLabS_spec _ _ (by assumption) (by assumption)) rfl) rfl ?_;refine kC ?_;refine AL.nil (th_n ?_);refine AC.condND rfl (fun h2 => ?_) (fun h2 => ?_)
 ·refine AC.seq (AC.region ?_);refine za ?_;refine AL.nil (th_n (AC.ret (th_r (bq_r ?_))));exact ret1 rfl (by simp_all [bstr_iff])
 refine AC.skip (th_n (AC.seq (AC.seq (AC.region ?_))));refine zf ?_;refine zr ?_;refine zf ?_;refine zr ?_;refine zc ?_;refine AL.nil (th_n ?_);refine AC.condND rfl (fun h3 => ?_) (fun h3 => ?_)
 ·refine AC.seq (AC.region ?_);refine za ?_;refine AL.nil (th_n (AC.ret (th_r (bq_r ?_))));exact ret1 rfl (by simp_all [bstr_iff])
 refine AC.skip (th_n (AC.seq (AC.region ?_)));refine za ?_;refine AL.nil (th_n (AC.ret (bq_r ?_)));exact ret1 rfl (by simp_all [bstr_iff])
theorem en_eqBur : Enters Tryz.prog 58 := enters_of Tryz.func58 rfl rfl
set_option maxHeartbeats 1000000 in
theorem eqBurS_spec (a b : List Bur) (ha : a.length ≤ 1048576) (hb : b.length ≤ 1048576) (hba : ∀ t, t ∈ a → t.inn.length ≤ 1048576 ∧ t.out.length ≤ 1048576) (hbb : ∀ t, t ∈ b → t.inn.length ≤ 1048576 ∧ t.out.length ≤ 1048576) : ASpec Tryz.prog 29 [.d (vBurs a), .d (vBurs b)] [] (Pure1 (aT (decide (a = b)))) := by
 refine ASpec.of Tryz.func29 rfl rfl fun C hC => ?_
 refine AC.seq (AC.region ?_);refine za ?_;refine AL.nil (th_n (AC.seq (AC.seq (AC.region ?_))));refine zm ?_;refine kH ?_;refine zm ?_;refine kH ?_;refine zc ?_;refine AL.nil (th_n ?_);refine AC.condND rfl (fun h0 => ?_) (fun h0 => ?_)
 ·refine AC.seq (AC.region ?_);refine za ?_;refine AL.nil (th_n (AC.ret (th_r (bq_r ?_))));have hne : a ≠ b := fun e => h0 (by rw [e])
  exact ret1 rfl (by rw [decide_eq_false hne])
 refine AC.skip (th_n (AC.seq (AC.seq (AC.region ?_))));refine za ?_;refine AL.nil (th_n (AC.block ?_));refine AC.loop (ι := Nat) (fun k => ⟨27, 0, [(0, .d (vBurs a)), (1, .d (vBurs b)), (5, aI k)], []⟩) (fun k => k ≤ a.length ∧ ∀ j (h1 : j < a.length) (h2 : j < b.length), j < k → a[j] = b[j]) (fun k => a.length - k) (0) ?_ (⟨Nat.zero_le _, fun j _ _ hj => by omega⟩) ?_
 ·refine Weak.ren _ [] hC rfl ?_ ?_ rfl rfl rfl <;> repeat (first | exact True.intro | refine And.intro ?_ ?_ | exact DLead.same)
 intro k ⟨hk, hall⟩;refine AC.seq (AC.seq (AC.region ?_));refine zm ?_;refine zm ?_;refine kH ?_;refine zc ?_;refine AL.nil (th_n ?_);refine AC.condD rfl (fun h1 => ?_) (fun h1 => ?_)
 ·refine AC.skip (th_n (AC.seq (AC.block (AC.seq ?_))));have hk1 : k < a.length := by omega
  have hk2 : k < b.length := by omega
  have hgeta := bursL_get hk1;have hgetb := bursL_get hk2;have q1 := (hba _ (List.getElem_mem hk1)).1;have q2 := (hba _ (List.getElem_mem hk1)).2;have q3 := (hbb _ (List.getElem_mem hk2)).1;have q4 := (hbb _ (List.getElem_mem hk2)).2;refine AC.drawn' mixed_ok [[], [], [0,1], [0,1,2], [], [], [4,5], [4,5,6], [0,1,2,3,4,5,6,7], [0,1,2,3,4,5,6,7,8]] (by decide) ?_;refine zd 0 [] 10 (by exact mv1 rfl) ?_;refine zd 1 [] 10 (by exact mv1 rfl) ?_;refine zd 2 [0,1] 10 (by exact g_ia_view rfl rfl rfl rfl rfl (by rfl) (by assumption)) ?_;refine zd 3 [0,1,2] 10 (by exact g_load_refN rfl rfl rfl rfl) ?_;refine zd 4 [] 10 (by exact mv1 rfl) ?_;refine zd 5 [] 10 (by exact mv1 rfl) ?_;refine zd 6 [4,5] 10 (by exact g_ia_view rfl rfl rfl rfl rfl (by rfl) (by assumption)) ?_;refine zd 7 [4,5,6] 10 (by exact g_load_refN rfl rfl rfl rfl) ?_;refine zh 8 [0,1,2,3,4,5,6,7] 10 (by exact h_pure en_eqBur rfl rfl (by repeat (first | exact rfl | exact DLead.same | refine ⟨_, _, rfl, ?_, ?_⟩ | refine ⟨_, rfl, ?_⟩)) (eqBur_spec _ _ (by assumption) (by assumption) (by assumption) (by assumption)) rfl) ?_;refine zd 9 (List.range 9) 10 (by exact g_not rfl) ?_;refine zj 10 ?_;refine th_n ?_;refine AC.condND rfl (fun h2 => ?_) (fun h2 => ?_)
  ·refine AC.seq (AC.region ?_);refine za ?_;refine AL.nil (th_n (AC.ret (ib_r (th_r (th_r (ib_r (th_r (bq_r ?_))))))));have hne : a ≠ b := fun e => by subst e; simp at h2
   exact ret1 rfl (by rw [decide_eq_false hne])
  refine AC.skip (ib_n (th_n (AC.region ?_)));refine zm ?_;refine zA ?_;refine za ?_;refine AL.nil (th_n ?_);have hkk : a[k] = b[k] := by simpa using h2
  exact ⟨k + 1, ⟨by omega, fun j h1 h2 hj => by rcases Nat.lt_succ_iff_lt_or_eq.1 hj with h | rfl; exact hall j h1 h2 h; exact hkk⟩, by omega, Weak.ren _ [] hC rfl (by repeat (first | exact True.intro | refine And.intro ?_ ?_ | exact DLead.same)) (by repeat (exact True.intro)) rfl rfl rfl⟩
 refine AC.exit (th_e (th_e (ib_y (th_n (AC.seq (AC.region ?_))))));refine za ?_;refine AL.nil (th_n (AC.ret (bq_r ?_)));have he : a = b := List.ext_getElem (by omega) (fun j h1 h2 => hall j h1 h2 (by omega));exact ret1 rfl (by rw [decide_eq_true he])
theorem en_eqBurS : Enters Tryz.prog 29 := enters_of Tryz.func29 rfl rfl
theorem eqMach_dec (a b : Mach) : decide (a = b) = (decide (a.sigs = b.sigs) && (decide (a.states = b.states) && (decide (a.burs = b.burs) && decide (a.first = b.first)))) := by
 cases a; cases b;simp only [Mach.mk.injEq, Bool.decide_and]
set_option maxHeartbeats 1000000 in
theorem eqMach_spec (a b : Mach) (ha : SmM a) (hb : SmM b) : ASpec Tryz.prog 9 [machA a, machA b] [] (Pure1 (aT (decide (a = b)))) := by
 rw [eqMach_dec];have k1 := eqSigS_spec a.sigs b.sigs ha.s hb.s;have k2 := eqBurS_spec a.burs b.burs ha.b hb.b ha.bl hb.bl;refine ASpec.of Tryz.func9 rfl rfl fun C hC => ?_
 refine AC.seq (AC.region ?_);refine kD ?_;refine kD ?_;refine za ?_;refine AL.nil (th_n (AC.seq (AC.seq (AC.region ?_))));refine zf ?_;refine zr ?_;refine zf ?_;refine zr ?_;refine kV en_eqSigS k1 ?_;refine kC ?_;refine AL.nil (th_n ?_);refine AC.condND rfl (fun h0 => ?_) (fun h0 => ?_)
 ·refine AC.seq (AC.region ?_);refine za ?_;refine AL.nil (th_n (AC.ret (th_r (bq_r ?_))));exact ret1 rfl (by simp_all [bstr_iff])
 refine AC.skip (th_n (AC.seq (AC.seq (AC.region ?_))));refine zf ?_;refine zr ?_;refine zf ?_;refine zr ?_;refine zc ?_;refine AL.nil (th_n ?_);refine AC.condND rfl (fun h1 => ?_) (fun h1 => ?_)
 ·refine AC.seq (AC.region ?_);refine za ?_;refine AL.nil (th_n (AC.ret (th_r (bq_r ?_))));exact ret1 rfl (by simp_all [bstr_iff])
 refine AC.skip (th_n (AC.seq (AC.seq (AC.region ?_))));refine zf ?_;refine zr ?_;refine zf ?_;refine zr ?_;refine kV en_eqBurS k2 ?_;refine kC ?_;refine AL.nil (th_n ?_);refine AC.condND rfl (fun h2 => ?_) (fun h2 => ?_)
 ·refine AC.seq (AC.region ?_);refine za ?_;refine AL.nil (th_n (AC.ret (th_r (bq_r ?_))));exact ret1 rfl (by simp_all [bstr_iff])
 refine AC.skip (th_n (AC.seq (AC.seq (AC.region ?_))));refine zf ?_;refine zr ?_;refine zf ?_;refine zr ?_;refine AL.p (by exact g_scmp rfl rfl rfl) rfl ?_;refine AL.nil (th_n ?_);refine AC.condND rfl (fun h3 => ?_) (fun h3 => ?_)
 ·refine AC.seq (AC.region ?_);refine za ?_;refine AL.nil (th_n (AC.ret (th_r (bq_r ?_))));exact ret1 rfl (by simp_all [bstr_iff])
 refine AC.skip (th_n (AC.seq (AC.region ?_)));refine za ?_;refine AL.nil (th_n (AC.ret (bq_r ?_)));exact ret1 rfl (by simp_all [bstr_iff])
theorem en_eqMach : Enters Tryz.prog 9 := enters_of Tryz.func9 rfl rfl
def allK (f : Nat → Bool) (n : Nat) : Bool := (List.range n).all f
theorem allK_iff {f : Nat → Bool} {n : Nat} : allK f n = true ↔ ∀ i, i < n → f i = true := by simp [allK]
theorem allK_yes {f : Nat → Bool} {n : Nat} (h : ∀ i, i < n → f i = true) : allK f n = true := allK_iff.2 h
theorem allK_no {f : Nat → Bool} {n i : Nat} (hi : i < n) (h : f i = false) : allK f n = false := by
 cases e : allK f n with
 | false => rfl
 | true => have := allK_iff.1 e i hi; rw [h] at this; cases this
def inI (n lo hi : Int) : Bool := decide (lo ≤ n) && decide (n ≤ hi)
theorem inI_iff {n lo hi : Int} : inI n lo hi = true ↔ lo ≤ n ∧ n ≤ hi := by simp [inI]
def isLow (b : UInt8) : Bool := decide (97 ≤ (b.toNat : Int)) && decide ((b.toNat : Int) ≤ 122)
def isDig (b : UInt8) : Bool := decide (48 ≤ (b.toNat : Int)) && decide ((b.toNat : Int) ≤ 57)
def nameC (i : Nat) (b : UInt8) : Bool := isLow b || (isDig b && !decide (i = 0))
def nameB (m : List UInt8) : Bool := allK (fun i => nameC i (m.getD i 0)) m.length && inI m.length 1 6
theorem nameC_iff {i : Nat} {b : UInt8} : nameC i b = true ↔ (97 ≤ (b.toNat : Int) ∧ (b.toNat : Int) ≤ 122) ∨ ((48 ≤ (b.toNat : Int) ∧ (b.toNat : Int) ≤ 57) ∧ i ≠ 0) := by simp [nameC, isLow, isDig]
theorem nameC_no {i : Nat} {b : UInt8} (h : ¬ ((97 ≤ (b.toNat : Int) ∧ (b.toNat : Int) ≤ 122) ∨ ((48 ≤ (b.toNat : Int) ∧ (b.toNat : Int) ≤ 57) ∧ i ≠ 0))) : nameC i b = false := by
 cases e : nameC i b with
 | false => rfl
 | true => exact absurd (nameC_iff.1 e) h
theorem nameB_no {m : List UInt8} {k : Nat} (hk : k < m.length) (h : nameC k (m.getD k 0) = false) : nameB m = false := by unfold nameB; rw [allK_no hk h, Bool.false_and]
theorem nameB_yes {m : List UInt8} (h : ∀ j, j < m.length → nameC j (m.getD j 0) = true) : nameB m = inI m.length 1 6 := by unfold nameB; rw [allK_yes h, Bool.true_and]
def sAt (l : List Sig) (k : Nat) : Sig := l.getD k ⟨[], 0⟩
theorem sAt_nat {l : List Sig} {k : Nat} (h : k < l.length) : sAt l k = l[k] := by unfold sAt; rw [List.getD_eq_getElem?_getD, List.getElem?_eq_getElem h]; rfl
def sigK (l : List Sig) (k : Nat) : Bool := nameB (sAt l k).name && (inI (sAt l k).kind 1 3 && !(l.take k).any (fun y => decide (y.name = (sAt l k).name)))
def sigsB (l : List Sig) : Bool := allK (sigK l) l.length && inI l.length 1 8
theorem sigsB_no {l : List Sig} {k : Nat} (hk : k < l.length) (h : sigK l k = false) : sigsB l = false := by unfold sigsB; rw [allK_no hk h, Bool.false_and]
theorem sigsB_yes {l : List Sig} (h : ∀ j, j < l.length → sigK l j = true) : sigsB l = inI l.length 1 8 := by unfold sigsB; rw [allK_yes h, Bool.true_and]
def lAt (l : List Lab) (k : Nat) : Lab := l.getD k ⟨0, false⟩
theorem lAt_nat {l : List Lab} {k : Nat} (h : k < l.length) : lAt l k = l[k] := by unfold lAt; rw [List.getD_eq_getElem?_getD, List.getElem?_eq_getElem h]; rfl
def labK (s : List Sig) (l : List Lab) (kind : Int) (k : Nat) : Bool := inI (lAt l k).sig 0 ((s.length : Int) - 1) && (decide ((sAt s (lAt l k).sig.toNat).kind = kind) && (decide (k = 0) || decide ((lAt l (k - 1)).sig < (lAt l k).sig)))
def labsB (s : List Sig) (l : List Lab) (kind : Int) : Bool := allK (labK s l kind) l.length
theorem labsB_no {s : List Sig} {l : List Lab} {kind : Int} {k : Nat} (hk : k < l.length) (h : labK s l kind k = false) : labsB s l kind = false := allK_no hk h
theorem labsB_in {s : List Sig} {l : List Lab} {kind : Int} (h : labsB s l kind = true) : ∀ x, x ∈ l → 0 ≤ x.sig ∧ x.sig < s.length := by
 intro x hx;obtain ⟨k, hk, rfl⟩ := List.getElem_of_mem hx;have := allK_iff.1 h k hk;unfold labK at this;rw [lAt_nat hk] at this;simp only [Bool.and_eq_true] at this;have := inI_iff.1 this.1;omega
theorem labsB_ge {s : List Sig} {l : List Lab} {kind : Int} (h : labsB s l kind = true) : ∀ (k : Nat) (hk : k < l.length), (k : Int) ≤ l[k].sig
 | 0, hk => (labsB_in h _ (List.getElem_mem hk)).1
 | k + 1, hk => by
  have ih := labsB_ge h k (by omega);have := allK_iff.1 h (k + 1) hk;unfold labK at this;rw [lAt_nat hk, Nat.add_sub_cancel, lAt_nat (show k < l.length by omega)] at this;simp only [Bool.and_eq_true, Bool.or_eq_true, decide_eq_true_eq] at this;rcases this.2.2 with h2 | h2 <;> omega
theorem labsB_len {s : List Sig} {l : List Lab} {kind : Int} (h : labsB s l kind = true) : l.length ≤ s.length := by
 rcases Nat.eq_zero_or_pos l.length with h0 | h0
 ·omega
 have h1 := labsB_ge h (l.length - 1) (by omega);have h2 := labsB_in h _ (List.getElem_mem (show l.length - 1 < l.length by omega));omega
def burB (s : List Sig) (states : Int) (b : Bur) : Bool := inI b.from_ 0 (states - 1) && (inI b.to_ 0 (states - 1) && (!decide (b.inn.length = 0) && (labsB s b.inn 1 && labsB s b.out 2)))
def formB (m : Mach) : Bool := m.burs.all (burB m.sigs m.states) && ((m.sigs.all (fun s => decide (s.kind = 1 ∨ s.kind = 2)) && sigsB m.sigs) && (inI m.states 1 6 && (decide ((m.burs.length : Int) ≤ 6) && bitsB m.first m.sigs.length)))
def bitLb (up : Bool) : UInt8 := bif up then 49 else 48
def turnL (code : List UInt8) : List Lab → Option (List UInt8)
 | [] => some code
 | x :: l => if code.getD x.sig.toNat 0 = bitLb (!x.up) then turnL (code.set x.sig.toNat (bitLb x.up)) l else none
def cAtL (cs : List (List UInt8)) (i : Int) : List UInt8 := cs.getD i.toNat []
def stepB (cs : List (List UInt8)) (b : Bur) : Option (List (List UInt8)) :=
 if cAtL cs b.from_ = [] then some cs else
  match turnL (cAtL cs b.from_) (b.inn ++ b.out) with
  | none => none
  | some nx => if cAtL cs b.to_ ≠ [] ∧ cAtL cs b.to_ ≠ nx then none else some (cs.set b.to_.toNat nx)
def passB : List Bur → List (List UInt8) → Option (List (List UInt8))
 | [], cs => some cs
 | b :: bs, cs => match stepB cs b with | none => none | some cs' => passB bs cs'
def runB (bs : List Bur) : Nat → List (List UInt8) → Option (List (List UInt8))
 | 0, cs => some cs
 | n + 1, cs => match passB bs cs with | none => none | some cs' => runB bs n cs'
def begB (m : Mach) : List (List UInt8) := (List.replicate m.states.toNat ([] : List UInt8)).set 0 m.first
def codesB (m : Mach) : Option (List (List UInt8)) := runB m.burs m.states.toNat (begB m)
def amongB (a b : List Lab) : Bool := a.all (fun x => b.any (fun y => decide (x = y)))
def bAt (l : List Bur) (k : Nat) : Bur := l.getD k ⟨0, [], [], 0⟩
theorem bAt_nat {l : List Bur} {k : Nat} (h : k < l.length) : bAt l k = l[k] := by unfold bAt; rw [List.getD_eq_getElem?_getD, List.getElem?_eq_getElem h]; rfl
def pairB (l : List Bur) (i k : Nat) : Bool := decide (i = k) || (!decide ((bAt l i).from_ = (bAt l k).from_) || !amongB (bAt l i).inn (bAt l k).inn)
def maxB (l : List Bur) : Bool := allK (fun i => allK (pairB l i) l.length) l.length
def okCodes (m : Mach) : Bool := match codesB m with | none => false | some cs => !cs.any (fun c => decide (c = []))
def goodM (m : Mach) : Bool := formB m && (okCodes m && maxB m.burs)
structure FormM (m : Mach) : Prop where
 st : 1 ≤ m.states ∧ m.states ≤ 6
 sl : 1 ≤ m.sigs.length ∧ m.sigs.length ≤ 8
 sb : sigsB m.sigs = true
 sk : ∀ s, s ∈ m.sigs → s.kind = 1 ∨ s.kind = 2
 bl : m.burs.length ≤ 6
 f : bitsB m.first m.sigs.length = true
 b : ∀ b, b ∈ m.burs → burB m.sigs m.states b = true
theorem formB_iff {m : Mach} (h : formB m = true) : FormM m := by
 simp only [formB, Bool.and_eq_true, List.all_eq_true, decide_eq_true_eq] at h;obtain ⟨h1, ⟨h2, h3⟩, h4, h5, h6⟩ := h;have h3' := h3;unfold sigsB at h3';rw [Bool.and_eq_true] at h3';have h7 := inI_iff.1 h3'.2;have h8 := inI_iff.1 h4;exact ⟨h8, by omega, h3, h2, by omega, h6, h1⟩
theorem burB_iff {s : List Sig} {n : Int} {b : Bur} (h : burB s n b = true) : (0 ≤ b.from_ ∧ b.from_ < n) ∧ (0 ≤ b.to_ ∧ b.to_ < n) ∧ b.inn.length ≠ 0 ∧ labsB s b.inn 1 = true ∧ labsB s b.out 2 = true := by
 simp only [burB, Bool.and_eq_true, Bool.not_eq_true', decide_eq_false_iff_not] at h;have h1 := inI_iff.1 h.1;have h2 := inI_iff.1 h.2.1;exact ⟨⟨h1.1, by omega⟩, ⟨h2.1, by omega⟩, h.2.2.1, h.2.2.2.1, h.2.2.2.2⟩
def BitC (n : Nat) (c : List UInt8) : Prop := c.length = n ∧ ∀ b, b ∈ c → b = 48 ∨ b = 49
theorem BitC.set {n : Nat} {c : List UInt8} (h : BitC n c) (i : Nat) (up : Bool) : BitC n (c.set i (bitLb up)) := by
 refine ⟨by rw [List.length_set]; exact h.1, fun b hb => ?_⟩;rcases List.mem_or_eq_of_mem_set hb with h1 | rfl
 ·exact h.2 b h1
 cases up <;> simp [bitLb]
theorem turnL_bit {n : Nat} : ∀ {l : List Lab} {c c' : List UInt8}, BitC n c → turnL c l = some c' → BitC n c'
 | [], c, c', h, e => by simp only [turnL, Option.some.injEq] at e; subst e; exact h
 | x :: l, c, c', h, e => by
  simp only [turnL] at e
  split at e
  ·exact turnL_bit (h.set _ _) e
  cases e
structure CodesOk (n : Nat) (k : Nat) (cs : List (List UInt8)) : Prop where
 l : cs.length = k
 c : ∀ c, c ∈ cs → c = [] ∨ BitC n c
theorem CodesOk.at {n k : Nat} {cs : List (List UInt8)} (h : CodesOk n k cs) (i : Int) : cAtL cs i = [] ∨ BitC n (cAtL cs i) := by
 unfold cAtL;rw [List.getD_eq_getElem?_getD];cases e : cs[i.toNat]? with
 | none => exact .inl rfl
 | some c => exact h.c c (List.mem_of_getElem? e)
theorem CodesOk.set {n k : Nat} {cs : List (List UInt8)} (h : CodesOk n k cs) (i : Nat) {c : List UInt8} (hc : BitC n c) : CodesOk n k (cs.set i c) := by
 refine ⟨by rw [List.length_set]; exact h.l, fun x hx => ?_⟩;rcases List.mem_or_eq_of_mem_set hx with h1 | rfl
 ·exact h.c x h1
 exact .inr hc
theorem CodesOk.step {n k : Nat} {cs cs' : List (List UInt8)} {b : Bur} (h : CodesOk n k cs) (e : stepB cs b = some cs') : CodesOk n k cs' := by
 unfold stepB at e
 split at e
 ·simp only [Option.some.injEq] at e; subst e; exact h
 rename_i hne
 split at e
 ·cases e
 rename_i nx hnx
 split at e
 ·cases e
 simp only [Option.some.injEq] at e;subst e;have hb := (h.at b.from_).resolve_left hne;exact h.set _ (turnL_bit hb hnx)
theorem bits_BitC {m : List UInt8} {n : Nat} (h : bitsB m n = true) : BitC n m := by
 unfold bitsB at h;rw [Bool.and_eq_true, decide_eq_true_eq, List.all_eq_true] at h;refine ⟨by omega, fun b hb => ?_⟩;have := h.1 b hb;simp only [bit, Bool.or_eq_true, decide_eq_true_eq] at this;rcases this with h1 | h1
 ·exact .inl (UInt8.toNat_inj.1 (by show b.toNat = 48; omega))
 exact .inr (UInt8.toNat_inj.1 (by show b.toNat = 49; omega))
theorem CodesOk.beg {m : Mach} (h : FormM m) : CodesOk m.sigs.length m.states.toNat (begB m) := by
 unfold begB;refine ⟨by rw [List.length_set, List.length_replicate], fun c hc => ?_⟩;rcases List.mem_or_eq_of_mem_set hc with h1 | rfl
 ·exact .inl (List.eq_of_mem_replicate h1)
 exact .inr (bits_BitC h.f)
end Go.Proofs.YteakkoiflbaleaaGreat
