/- Contracts of the functions of the program and of the reference, each proved by a walk through its code. -/
import Derived.Shelf.SlSortCmp.NoneTotal
import Derived.Shelf.SlGeneric
import Derived.Ground.SlsfProg
import Derived.Test.YtbofmbjefbpnaaaGreatGRa11
set_option linter.all false
set_option maxRecDepth 20000
namespace Go.Proofs.YtbofmbjefbpnaaaGreat
open Go.RowKit
def lpJ (Q : List Ar) (set met : List Int) (j : Nat) : List Int := ((Q.take j).map Ar.to_).filter fun v => sdB set v && !sdB met v
theorem lpJ_succ {Q : List Ar} {set met : List Int} {j : Nat} (hj : j < Q.length) : lpJ Q set met (j + 1) = lpJ Q set met j ++ (if (sdB set Q[j].to_ && !sdB met Q[j].to_) = true then [Q[j].to_] else []) := by
 unfold lpJ;rw [List.take_add_one, List.getElem?_eq_getElem hj, List.map_append, List.filter_append];congr 1;show List.filter _ [Q[j].to_] = _;cases h : (sdB set Q[j].to_ && !sdB met Q[j].to_) <;> simp [h]
theorem lpJ_all (L : List Ar) (set : List Int) (k : Int) (met : List Int) : lpJ (L.filter fun a => decide (a.from_ = k)) set met (L.filter fun a => decide (a.from_ = k)).length = lpN L set k met := by unfold lpJ lpN; rw [List.take_length]
theorem mu_zero {set met : List Int} (h : muM set met = 0) {v : Int} (h1 : sdB set v = true) (h2 : sdB met v = false) : False := by
 unfold muM at h;have hv : v ∈ set.filter fun v => !sdB met v := List.mem_filter.2 ⟨of_decide_eq_true h1, by rw [h2]; rfl⟩
 rw [List.length_eq_zero_iff.1 h] at hv;cases hv
set_option maxHeartbeats 16000000 in
theorem l10Long_step (c : SG) (set : List Int) (hl : c.arcs.length ≤ 1000000) (hs : set.length ≤ 1000) (n : Nat) (hn : n ≤ 1000) (ih : ∀ m, m < n → ∀ k met, srtd met → met.length + m ≤ 2000 → muM set met ≤ m → ASpec Tryz.prog 91 [sgA c, .d (vI set), aI k, .d (vI met)] [] (Pure1 (aI (lpF c.arcs set m k met)))) (k : Int) (met : List Int) (hsr : srtd met) (hml : met.length + n ≤ 2000) (hmu : muM set met ≤ n) : ASpec Tryz.prog 91 [sgA c, .d (vI set), aI k, .d (vI met)] [] (Pure1 (aI (lpF c.arcs set n k met))) := by
 have hFr := l5From_spec c k hl;have hAll := lpJ_all c.arcs set k met;have hQe : leaveL c k = c.arcs.filter fun a => decide (a.from_ = k) := rfl
 have hQl : (leaveL c k).length ≤ c.arcs.length := by rw [hQe]; exact List.length_filter_le _ _
 obtain ⟨Q, hQ⟩ := eqx (leaveL c k);rw [← hQ] at hFr hQl hQe;rw [← hQe] at hAll;obtain ⟨f, hf⟩ : ∃ f : Int → Nat, f = fun v => lpF c.arcs set (n - 1) v (v :: met) := ⟨_, rfl⟩
 have hfl : ∀ v, f v ≤ 1000 := fun v => by rw [hf]; have := lpF_le c.arcs set (n - 1) v (v :: met); dsimp only; omega
 have hR : lpF c.arcs set n k met = mxL f (lpJ Q set met Q.length) := by
  rw [hAll, hf];cases n with
  | zero =>
   have e : lpN c.arcs set k met = [] := by
    refine List.filter_eq_nil_iff.2 fun v _ h => ?_
    rw [Bool.and_eq_true, Bool.not_eq_true'] at h;exact mu_zero (Nat.le_zero.1 hmu) h.1 h.2
   rw [e]; rfl
  | succ m => rfl
 have hHs := fun v => l1Has_spec set v (by omega)
 have hHm := fun v => l1Has_spec met v (by omega)
 have hRec : ∀ v, sdB set v = true → sdB met v = false → ASpec Tryz.prog 91 [sgA c, .d (vI set), aI v, .d (vI (putI met v))] [] (Pure1 (aI (f v))) := fun v h1 h2 => by
  have hpm := (putI_srtd hsr v);have hmm := muM_put (set := set) (met := met) (met' := putI met v) (v := v) (of_decide_eq_true h1) (of_decide_eq_false h2) hpm.2;have hpl := putI_len met v;have := ih (n - 1) (by omega) v (putI met v) hpm.1 (by omega) (by omega)
  have e : lpF c.arcs set (n - 1) v (putI met v) = f v := by
   rw [hf];exact lpF_congr (fun _ _ => Iff.rfl) (fun _ => Iff.rfl) (n - 1) v _ _ fun w => by rw [hpm.2 w, List.mem_cons, or_comm]
  rwa [e] at this
 have hJ := fun j (hj : j < Q.length) => lpJ_succ (set := set) (met := met) hj
 have hJ0 : lpJ Q set met 0 = [] := rfl;have hML : ∀ j, mxL f (lpJ Q set met j) ≤ 1001 := fun j => mxF_le f 1001 _ 0 (Nat.zero_le _) fun v _ => by have := hfl v; omega
 rw [hR];obtain ⟨J, hJe⟩ := eqx (lpJ Q set met);rw [← hJe] at hJ hJ0 hML ⊢;have hJ : ∀ j (hj : j < Q.length), J (j + 1) = J j ++ (if (sdB set Q[j].to_ && !sdB met Q[j].to_) = true then [Q[j].to_] else []) := hJ;clear hJe hR hf hAll hQ ih hmu;refine ASpec.of Tryz.func91 rfl rfl fun C hC => ?_
 refine AC.seq (AC.region ?_);refine kD ?_;refine za ?_;refine AL.nil (th_n (AC.seq (AC.region ?_)));refine za ?_;refine AL.nil (th_n (AC.seq (AC.region ?_)));refine za ?_;refine AL.nil (th_n (AC.seq (AC.seq (AC.region ?_))));refine kG ?_;refine zm ?_;refine kV en_l5From hFr ?_;refine kI Q.length (arL_len _) ?_;refine zm ?_;refine AL.nil (th_n (AC.block ?_));refine AC.loop (ι := Nat × List Int) (fun z => ⟨58, 300, [(1, .d (vI set)), (3, .d (vI met)), (4, .d (.ref (sgD c))), (9, aI (mxL f (J z.1) : Nat)), (10, .own 100 z.2.length), (15, .d (vArs Q)), (16, aI Q.length), (17, aI z.1)], [(100, some (.arr 3 1 (ints z.2)))]⟩) (fun z => z.1 ≤ Q.length ∧ z.2.length ≤ z.1 ∧ ∀ v, v ∈ z.2 → 1 + f v ≤ mxL f (J z.1)) (fun z => Q.length - z.1) ((0, [])) ?_ (⟨Nat.zero_le _, Nat.zero_le _, fun v h => by cases h⟩) ?_
 ·exact (Weak.nilOwn (i := 10) (e := 3) (sz := 1) rfl (by decide)).trans (Weak.ren _ [(100, _)] hC rfl (by rw [hJ0]; repeat (first | exact True.intro | refine And.intro ?_ ?_ | exact DLead.same | exact rfl | refine ⟨_, rfl, ?_⟩)) (by repeat (first | exact True.intro | refine And.intro ?_ ?_ | exact rfl | refine ⟨_, _, rfl, rfl, ?_⟩)) rfl rfl rfl)
 rintro ⟨j, T⟩ ⟨hj, hTl, hTm⟩;dsimp only at hj hTl hTm ⊢;refine AC.seq (AC.region ?_);refine zc ?_;refine AL.nil (th_n (AC.seq ?_));refine AC.condD rfl (fun h0 => ?_) (fun h0 => ?_)
 ·refine AC.skip (th_n (AC.seq (AC.block (AC.seq ?_))));have hj1 : j < Q.length := by omega
  have hget := arL_get hj1;have hJj := hJ j hj1;have hMj := hML j;obtain ⟨a, ha⟩ := eqx (Q[j]);rw [← ha] at hget hJj;clear ha;obtain ⟨v, hv⟩ := eqx a.to_;have hS1 := hHs a.to_;have hM1 := hHm a.to_;have hT1 := l1Has_spec T a.to_ (by omega);rw [hasI_dec] at hS1 hM1 hT1;rw [← hv] at hJj hget hS1 hM1 hT1;have hRv := hRec v;have hfv := hfl v;have hPv := l1Put_spec met v (by omega);have htm : sdB T v = true → 1 + f v ≤ mxL f (J j) := fun h => hTm v (of_decide_eq_true h)
  have hsn := mxL_snoc f (J j) v;obtain ⟨b1, m1⟩ := eqx (sdB set v);obtain ⟨b2, m2⟩ := eqx (sdB met v);obtain ⟨b3, m3⟩ := eqx (sdB T v);rw [← m1] at hS1 hJj hRv;rw [← m2] at hM1 hJj hRv;rw [← m3] at hT1 htm;obtain ⟨N, hN⟩ := eqx (mxL f (J j));rw [← hN] at hMj htm hsn hTm ⊢;obtain ⟨w, hw⟩ := eqx (f v);rw [← hw] at hRv hfv htm hsn;have hMo : ASpec Tryz.prog 90 [aI (N : Int), aI (1 + (w : Int))] [] (Pure1 (aI ((max N (1 + w) : Nat) : Int))) := by have := mostL_spec (N : Int) (1 + (w : Int)); rwa [show max (N : Int) (1 + (w : Int)) = ((max N (1 + w) : Nat) : Int) by omega] at this
  clear m1 m2 m3;refine AC.region ?_;refine AL.p (by exact g_ia_view rfl rfl rfl rfl rfl (by rfl) (by assumption)) rfl ?_;refine kG ?_;refine kE ?_;refine zs ?_;refine AL.nil (th_n (AC.seq (AC.region ?_)));refine zm ?_;refine zF ?_;refine zl ?_;refine kV en_l1Has hS1 ?_;refine zm ?_;refine AL.caseGB rfl rfl (fun h1 => ?_) (fun h1 => ?_)
  ·refine zy ?_;refine zm ?_;refine zy ?_;refine zF ?_;refine zy ?_;refine zl ?_;refine zy ?_;refine kV en_l1Has hM1 ?_;refine zy ?_;refine kC ?_;refine zQ ?_;refine zm ?_;refine AL.caseGB rfl rfl (fun h2 => ?_) (fun h2 => ?_)
   ·refine zy ?_;refine kB ?_;refine zy ?_;refine zF ?_;refine zy ?_;refine zl ?_;refine zy ?_;refine AL.q (by exact h_borrow [100] en_l1Has rfl rfl hT1 (.cons (.of (.own (id := 100) rfl rfl (Nat.le_of_eq (ints_len _).symm) (List.take_of_length_le (Nat.le_of_eq (ints_len _))))) (.cons (.of .d) .nil)) rfl) rfl ?_;refine zy ?_;refine kC ?_;refine zQ ?_;refine AL.nil (th_n ?_);refine AC.condB rfl (fun h3 => ?_) (fun h3 => ?_)
    ·refine AC.seq ?_;have c1 : b1 = true := by assumption
     have c2 : b2 = false := by have q := ‹(!b2) = true›; simpa using q
     have c3 : b3 = false := by have q := ‹(!b3) = true›; simpa using q
     have hRv1 := hRv c1 c2;rw [c1, c2, if_pos (by rfl)] at hJj;refine AC.region ?_;refine kB ?_;refine zF ?_;refine zl ?_;refine AL.q (by exact h_litF rfl rfl rfl rfl rfl rfl rfl rfl) rfl ?_;refine AL.q (by exact h_appendI T [v] (.own rfl rfl (ints_len _).symm) (.view rfl) (by rw [List.length_append]; simp only [List.length_cons, List.length_nil]; omega) (by simp)) rfl ?_;refine AL.p (by exact as2 rfl) rfl ?_;refine AL.nil (th_n ?_);refine AC.drawn' mixed_ok [[], [], [], [], [3], [], [], [6], [5,6,7], [1,2,3,4,5,6,7,8], [1,2,3,4,5,6,7,8,9], [0,1,2,3,4,5,6,7,8,9,10], [0,1,2,3,4,5,6,7,8,9,10,11]] (by decide) ?_;refine zd 0 [] 13 (by exact mv1 rfl) ?_;refine zd 1 [] 13 (by exact g_load_refN rfl rfl rfl rfl) ?_;refine zd 2 [] 13 (by exact mv1 rfl) ?_;refine zd 3 [] 13 (by exact g_fa_ptr rfl rfl rfl rfl rfl) ?_;refine zd 4 [3] 13 (by exact g_load_ptr rfl rfl rfl rfl rfl) ?_;refine zd 5 [] 13 (by exact mv1 rfl) ?_;refine zd 6 [] 13 (by exact g_fa_ptr rfl rfl rfl rfl rfl) ?_;refine zd 7 [6] 13 (by exact g_load_ptr rfl rfl rfl rfl rfl) ?_;refine zh 8 [5,6,7] 13 (by exact h_pure en_l1Put rfl rfl (by repeat (first | exact rfl | exact DLead.same | refine ⟨_, _, rfl, ?_, ?_⟩)) hPv rfl) ?_;refine zh 9 [1,2,3,4,5,6,7,8] 13 (by exact h_pure en_l10Long rfl rfl (by repeat (first | exact rfl | exact DLead.same | refine ⟨_, _, rfl, ?_, ?_⟩ | refine ⟨_, rfl, ?_⟩)) hRv1 rfl) ?_;refine zd 10 [1,2,3,4,5,6,7,8,9] 13 (by exact g_arith rfl rfl rfl (by exact wrap_i64 (by omega))) ?_;refine zh 11 (List.range 11) 13 (by exact h_pure en_l1Most rfl rfl (by repeat (first | exact rfl | exact DLead.same | refine ⟨_, _, rfl, ?_, ?_⟩)) hMo rfl) ?_;refine zd 12 (List.range 12) 13 (by exact as1 rfl) ?_;refine zj 13 ?_;refine ib_n (th_n (AC.region ?_));refine zA ?_;refine zm ?_;refine AL.nil (th_n ?_)
     (have q := ‹(!b3) = true›; exact ⟨(j + 1, T ++ [v]), ⟨by dsimp only; omega, by dsimp only; rw [List.length_append, List.length_singleton]; omega, fun y hy => by dsimp only; rw [hJj, hsn]; rcases List.mem_append.1 hy with h | h; (exact Nat.le_trans (hTm y h) (Nat.le_max_left _ _)); (rw [List.mem_singleton.1 h, ← hw]; exact Nat.le_max_right _ _)⟩, by dsimp only; omega, Weak.ren _ [(100, _)] hC rfl (by dsimp only; rw [hJj, hsn]; repeat (first | exact True.intro | refine And.intro ?_ ?_ | exact DLead.same | exact rfl | refine ⟨_, rfl, ?_⟩)) (by dsimp only; repeat (first | exact True.intro | refine And.intro ?_ ?_ | exact rfl | refine ⟨_, _, rfl, rfl, ?_⟩)) rfl rfl rfl⟩)
    refine AC.skip (ib_n (th_n (AC.region ?_)));refine zA ?_;refine zm ?_;refine AL.nil (th_n ?_)
    (have hJs : mxL f (J (j + 1)) = N := (by (have c3 : b3 = true := (by have q := ‹(!b3) = false›; simpa using q); have c1 := ‹b1 = true›; have c2 := ‹(!b2) = true›; rw [c1, c2, if_pos (by rfl)] at hJj; rw [hJj, hsn]; exact Nat.max_eq_left (htm c3))); exact ⟨(j + 1, T), ⟨by dsimp only; omega, by dsimp only; omega, fun y hy => by dsimp only; rw [hJs]; exact hTm y hy⟩, by dsimp only; omega, Weak.ren _ [(100, 100)] hC rfl (by dsimp only; rw [hJs]; repeat (first | exact True.intro | refine And.intro ?_ ?_ | exact DLead.same | exact rfl | refine ⟨_, rfl, ?_⟩)) (by dsimp only; repeat (first | exact True.intro | refine And.intro ?_ ?_ | exact rfl | refine ⟨_, _, rfl, rfl, ?_⟩)) rfl rfl rfl⟩)
   refine zn ?_;refine zn ?_;refine zn ?_;refine zn ?_;refine zn ?_;refine zP ?_;refine AL.nil (th_n ?_);refine AC.condF rfl ?_;refine AC.skip (ib_n (th_n (AC.region ?_)));refine zA ?_;refine zm ?_;refine AL.nil (th_n ?_)
   (have hJs : mxL f (J (j + 1)) = N := (by (have c2 := ‹(!b2) = false›; rw [c2, Bool.and_false, if_neg (by decide), List.append_nil] at hJj; rw [hJj, ← hN])); exact ⟨(j + 1, T), ⟨by dsimp only; omega, by dsimp only; omega, fun y hy => by dsimp only; rw [hJs]; exact hTm y hy⟩, by dsimp only; omega, Weak.ren _ [(100, 100)] hC rfl (by dsimp only; rw [hJs]; repeat (first | exact True.intro | refine And.intro ?_ ?_ | exact DLead.same | exact rfl | refine ⟨_, rfl, ?_⟩)) (by dsimp only; repeat (first | exact True.intro | refine And.intro ?_ ?_ | exact rfl | refine ⟨_, _, rfl, rfl, ?_⟩)) rfl rfl rfl⟩)
  refine zn ?_;refine zn ?_;refine zn ?_;refine zn ?_;refine zn ?_;refine zP ?_;refine zm ?_;refine zn ?_;refine zn ?_;refine zn ?_;refine zn ?_;refine zn ?_;refine zP ?_;refine AL.nil (th_n ?_);refine AC.condF rfl ?_;refine AC.skip (ib_n (th_n (AC.region ?_)));refine zA ?_;refine zm ?_;refine AL.nil (th_n ?_)
  (have hJs : mxL f (J (j + 1)) = N := (by (have c1 := ‹b1 = false›; rw [c1, Bool.false_and, if_neg (by decide), List.append_nil] at hJj; rw [hJj, ← hN])); exact ⟨(j + 1, T), ⟨by dsimp only; omega, by dsimp only; omega, fun y hy => by dsimp only; rw [hJs]; exact hTm y hy⟩, by dsimp only; omega, Weak.ren _ [(100, 100)] hC rfl (by dsimp only; rw [hJs]; repeat (first | exact True.intro | refine And.intro ?_ ?_ | exact DLead.same | exact rfl | refine ⟨_, rfl, ?_⟩)) (by dsimp only; repeat (first | exact True.intro | refine And.intro ?_ ?_ | exact rfl | refine ⟨_, _, rfl, rfl, ?_⟩)) rfl rfl rfl⟩)
 refine AC.exit (th_e (th_e (ib_y (th_n (AC.seq ?_)))));have hjj : j = Q.length := by omega
 rw [hjj];refine AC.region ?_;refine zm ?_;refine za ?_;refine AL.nil (th_n (AC.ret (bq_r ?_)));exact ret1 rfl rfl
theorem l10Long_spec (c : SG) (set : List Int) (hl : c.arcs.length ≤ 1000000) (hs : set.length ≤ 1000) (n : Nat) (hn : n ≤ 1000) : ∀ k met, srtd met → met.length + n ≤ 2000 → muM set met ≤ n → ASpec Tryz.prog 91 [sgA c, .d (vI set), aI k, .d (vI met)] [] (Pure1 (aI (lpF c.arcs set n k met))) := by
 induction n using Nat.strongRecOn with
 | _ n ih => exact l10Long_step c set hl hs n hn fun m hm => ih m hm (by omega)
def mx0 (f : Int → Nat) (l : List Int) : Nat := l.foldl (fun m v => max m (f v)) 0
theorem mx0_snoc (f : Int → Nat) (l : List Int) (v : Int) : mx0 f (l ++ [v]) = max (mx0 f l) (f v) := by unfold mx0; rw [List.foldl_append]; rfl
theorem mx0_le (f : Int → Nat) (b : Nat) (l : List Int) (h : ∀ v, f v ≤ b) : mx0 f l ≤ b := by
 unfold mx0
 have : ∀ (l : List Int) (m : Nat), m ≤ b → l.foldl (fun m v => max m (f v)) m ≤ b := fun l => by
  induction l with
  | nil => exact fun m h => h
  | cons x l ih => exact fun m hm => ih _ (Nat.max_le.2 ⟨hm, h x⟩)
 exact this l 0 (Nat.zero_le _)
def lonF (c : SG) (s : List Int) (k : Int) : Nat := lpF c.arcs s s.length k [k]
noncomputable def lonQ (c : SG) (s : List Int) : Bool := setQ c s && decide (s.length ≤ 8)
noncomputable def lonR (c : SG) (s : List Int) : Nat × Bool := if lonQ c s = true then (mx0 (lonF c s) s, true) else (0, false)
theorem muM_le (set met : List Int) : muM set met ≤ set.length := List.length_filter_le _ _
set_option maxHeartbeats 4000000 in
theorem sLonP_spec (c : SG) (s : List Int) (hs : s.length ≤ 1000000) (hc : SgL c) : ASpec Tryz.prog 30 [sgA c, .d (vI s)] [] (Pure1 (.tup [aI (lonR c s).1, aT (lonR c s).2])) := by
 have hH := l10Set_spec c s (by omega) hc;have hl := hc.a;have hR : lonR c s = if lonQ c s = true then (mx0 (lonF c s) s, true) else (0, false) := rfl
 have hQ : lonQ c s = (setQ c s && decide (s.length ≤ 8)) := rfl;obtain ⟨b0, e⟩ := eqx (setQ c s);rw [← e] at hH hQ;rw [hQ] at hR;obtain ⟨R, hRR⟩ := eqx (lonR c s);rw [← hRR] at hR ⊢;have hz : decide ((s.length : Int) > 8) = !decide (s.length ≤ 8) := by rw [← decide_not]; exact decide_eq_decide.2 ⟨fun h => by omega, fun h => by omega⟩
 obtain ⟨d, hd⟩ := eqx (decide (s.length ≤ 8));rw [← hd] at hR hz;have hF : ∀ k, s.length ≤ 8 → ASpec Tryz.prog 91 [sgA c, .d (vI s), aI k, .d (vI [k])] [] (Pure1 (aI (lonF c s k))) := fun k h8 => l10Long_spec c s hl (by omega) s.length (by omega) k [k] (List.pairwise_singleton _ _) (by simp only [List.length_cons, List.length_nil]; omega) (muM_le _ _)
 have hFl : ∀ k, lonF c s k ≤ s.length := fun k => lpF_le _ _ _ _ _
 obtain ⟨f, hf⟩ := eqx (lonF c s);rw [← hf] at hR hF hFl;have hMl := fun l => mx0_le f s.length l hFl
 clear e hRR hf hQ;refine ASpec.of Tryz.func30 rfl rfl fun C hC => ?_
 refine AC.seq (AC.region ?_);refine kD ?_;refine za ?_;refine za ?_;refine AL.nil (th_n (AC.seq (AC.seq (AC.region ?_))));refine kG ?_;refine zm ?_;refine kV en_l10Set hH ?_;refine kC ?_;refine zm ?_;refine AL.caseGB rfl rfl (fun h0 => ?_) (fun h0 => ?_)
 ·refine zn ?_;refine zn ?_;refine zn ?_;refine zQ ?_;refine AL.nil (th_n ?_);refine AC.condT rfl ?_;refine AC.seq (AC.region ?_);refine za ?_;refine za ?_;refine AL.nil (th_n (AC.ret (th_r (bq_r ?_))));have e : R = (0, false) := hR.trans (if_neg (by (have q := ‹(!b0) = true›; revert q; cases b0 <;> simp)));exact ret0 rfl (by rw [e]; show AV.leads _ (.tup [aI 0, aT false]) _; repeat (first | exact DLead.same | exact rfl | refine ⟨_, rfl, ?_⟩ | refine ⟨_, _, rfl, ?_, ?_⟩))
 refine zy ?_;refine zm ?_;refine zy ?_;refine kH ?_;refine zy ?_;refine AL.p (by exact g_cmp (r := !d) rfl rfl (congrArg some hz)) rfl ?_;refine zP ?_;refine AL.nil (th_n ?_);refine AC.condB rfl (fun h1 => ?_) (fun h1 => ?_)
 ·refine AC.seq (AC.region ?_);refine za ?_;refine za ?_;refine AL.nil (th_n (AC.ret (th_r (bq_r ?_))));have e : R = (0, false) := hR.trans (if_neg (by (have q := ‹(!d) = true›; revert q; cases d <;> simp)));exact ret0 rfl (by rw [e]; show AV.leads _ (.tup [aI 0, aT false]) _; repeat (first | exact DLead.same | exact rfl | refine ⟨_, rfl, ?_⟩ | refine ⟨_, _, rfl, ?_, ?_⟩))
 refine AC.skip (th_n (AC.seq ?_));have c1 : b0 = true := by have q := ‹(!b0) = false›; simpa using q
 have c2 : d = true := by have q := ‹(!d) = false›; simpa using q
 have h8 : s.length ≤ 8 := of_decide_eq_true (hd.symm.trans c2);rw [c1, c2, if_pos (by rfl)] at hR;refine AC.region ?_;refine za ?_;refine AL.nil (th_n (AC.seq (AC.seq (AC.region ?_))));refine zm ?_;refine kH ?_;refine zm ?_;refine AL.nil (th_n (AC.block ?_));refine AC.loop (ι := Nat) (fun j => ⟨34, 300, [(1, .d (vI s)), (2, .d (.ref (sgD c))), (6, aI (mx0 f (s.take j) : Nat)), (18, .d (vI s)), (19, aI s.length), (20, aI j)], []⟩) (fun j => j ≤ s.length) (fun j => s.length - j) (0) ?_ (Nat.zero_le _) ?_
 ·exact Weak.ren _ [] hC rfl (by repeat (first | exact True.intro | refine And.intro ?_ ?_ | exact DLead.same)) (by repeat (exact True.intro)) rfl rfl rfl
 intro j hj;refine AC.seq (AC.region ?_);refine zc ?_;refine AL.nil (th_n (AC.seq ?_));refine AC.condD rfl (fun h2 => ?_) (fun h2 => ?_)
 ·refine AC.skip (th_n (AC.seq (AC.block (AC.seq ?_))));have hj1 : j < s.length := by omega
  have hget := ints_at hj1;have htk : s.take (j + 1) = s.take j ++ [s[j]] := by rw [List.take_add_one, List.getElem?_eq_getElem hj1]; rfl
  have hsn := mx0_snoc f (s.take j) s[j];rw [← htk] at hsn;have hM1 := hMl (s.take j);obtain ⟨k, hk⟩ := eqx (s[j]);rw [← hk] at hget hsn;have hFk := hF k h8;have hFlk := hFl k;obtain ⟨N, hN⟩ := eqx (mx0 f (s.take j));rw [← hN] at hsn hM1 ⊢;obtain ⟨w, hw⟩ := eqx (f k);rw [← hw] at hFk hFlk hsn;have hMo : ASpec Tryz.prog 90 [aI (N : Int), aI (w : Int)] [] (Pure1 (aI ((max N w : Nat) : Int))) := by have := mostL_spec (N : Int) (w : Int); rwa [show max (N : Int) (w : Int) = ((max N w : Nat) : Int) by omega] at this
  refine AC.region ?_;refine AL.p (by exact g_ia_view (i := j) rfl rfl rfl rfl rfl rfl hget) rfl ?_;refine zr ?_;refine za ?_;refine AL.nil (th_n (AC.region ?_));refine zm ?_;refine kG ?_;refine zm ?_;refine zm ?_;refine zm ?_;refine AL.q (by exact h_litF rfl rfl rfl rfl rfl rfl rfl rfl) rfl ?_;refine kV en_l10Long hFk ?_;refine kV en_l1Most hMo ?_;refine za ?_;refine AL.nil (ib_n (th_n (AC.region ?_)));refine zA ?_;refine zm ?_;refine AL.nil (th_n ?_);exact ⟨j + 1, by omega, by omega, Weak.ren _ [] hC rfl (by rw [hsn]; repeat (first | exact True.intro | refine And.intro ?_ ?_ | exact DLead.same)) (by repeat (exact True.intro)) rfl rfl rfl⟩
 refine AC.exit (th_e (th_e (ib_y (th_n (AC.seq ?_)))));have hjj : j = s.length := by omega
 rw [hjj, List.take_length];refine AC.region ?_;refine zm ?_;refine za ?_;refine za ?_;refine AL.nil (th_n (AC.ret (bq_r ?_)));exact ret0 rfl (by rw [hR]; show AV.leads _ (.tup [aI (mx0 f s : Nat), aT true]) _; repeat (first | exact DLead.same | exact rfl | refine ⟨_, rfl, ?_⟩ | refine ⟨_, _, rfl, ?_, ?_⟩))
theorem en_sLonP : Enters Tryz.prog 30 := enters_of Tryz.func30 rfl rfl
theorem en_longestFrom : Enters Tryz.prog 89 := enters_of Tryz.func89 rfl rfl
def cK (set met : List Int) (k : Int) (a : Ar) : Bool := decide (a.from_ = k) && (sdB set a.to_ && !sdB met a.to_)
def lpK (L : List Ar) (set met : List Int) (k : Int) (j : Nat) : List Int := ((L.take j).filter (cK set met k)).map Ar.to_
theorem lpK_succ {L : List Ar} {set met : List Int} {k : Int} {j : Nat} (hj : j < L.length) : lpK L set met k (j + 1) = lpK L set met k j ++ (if cK set met k L[j] = true then [L[j].to_] else []) := by
 unfold lpK;rw [filter_snoc _ hj, List.map_append];congr 1
 split <;> rfl
theorem lpK_mem {L : List Ar} {set met : List Int} {k v : Int} : v ∈ lpK L set met k L.length ↔ v ∈ lpN L set k met := by
 rw [lpN_mem];unfold lpK cK sdB;rw [List.take_length, List.mem_map];simp only [List.mem_filter, Bool.and_eq_true, decide_eq_true_eq, Bool.not_eq_true', decide_eq_false_iff_not];constructor
 ·rintro ⟨a, ⟨h1, h2, h3, h4⟩, rfl⟩; exact ⟨⟨a, h1, h2, rfl⟩, h3, h4⟩
 rintro ⟨⟨a, h1, h2, rfl⟩, h3, h4⟩; exact ⟨a, ⟨h1, h2, h3, h4⟩, rfl⟩
set_option maxHeartbeats 16000000 in
theorem longestFrom_step (c : SG) (set : List Int) (hl : c.arcs.length ≤ 1000000) (hs : set.length ≤ 1000) (n : Nat) (hn : n ≤ 1000) (ih : ∀ m, m < n → ∀ k (path : List Int), path.length + m ≤ 2000 → muM set (path ++ [k]) ≤ m → ASpec Tryz.prog 89 [sgA c, .d (vI set), aI k, .d (vI path)] [] (Pure1 (aI (lpF c.arcs set m k (path ++ [k]))))) (k : Int) (path : List Int) (hml : path.length + n ≤ 2000) (hmu : muM set (path ++ [k]) ≤ n) : ASpec Tryz.prog 89 [sgA c, .d (vI set), aI k, .d (vI path)] [] (Pure1 (aI (lpF c.arcs set n k (path ++ [k])))) := by
 obtain ⟨met, hmet⟩ := eqx (path ++ [k]);have hmel : met.length = path.length + 1 := by rw [hmet]; simp
 rw [← hmet] at hmu ⊢;obtain ⟨f, hf⟩ : ∃ f : Int → Nat, f = fun v => lpF c.arcs set (n - 1) v (v :: met) := ⟨_, rfl⟩
 have hfl : ∀ v, f v ≤ 1000 := fun v => by rw [hf]; have := lpF_le c.arcs set (n - 1) v (v :: met); dsimp only; omega
 have hR : lpF c.arcs set n k met = mxL f (lpK c.arcs set met k c.arcs.length) := by
  have e1 : mxL f (lpK c.arcs set met k c.arcs.length) = mxL f (lpN c.arcs set k met) := mxL_ext (fun v => lpK_mem) fun _ _ => rfl
  rw [e1, hf];cases n with
  | zero =>
   have e : lpN c.arcs set k met = [] := by
    refine List.filter_eq_nil_iff.2 fun v _ h => ?_
    rw [Bool.and_eq_true, Bool.not_eq_true'] at h;exact mu_zero (Nat.le_zero.1 hmu) h.1 h.2
   rw [e]; rfl
  | succ m => rfl
 have hHs := fun v => ContainsB_spec set (by omega) v
 have hHm := fun v => ContainsB_spec met (by omega) v
 have hRec : ∀ v, sdB set v = true → sdB met v = false → ASpec Tryz.prog 89 [sgA c, .d (vI set), aI v, .d (vI met)] [] (Pure1 (aI (f v))) := fun v h1 h2 => by
  have hmm := muM_put (set := set) (met := met) (met' := met ++ [v]) (v := v) (of_decide_eq_true h1) (of_decide_eq_false h2) (fun w => by simp);have := ih (n - 1) (by omega) v met (by omega) (by omega)
  have e : lpF c.arcs set (n - 1) v (met ++ [v]) = f v := by
   rw [hf];exact lpF_congr (fun _ _ => Iff.rfl) (fun _ => Iff.rfl) (n - 1) v _ _ fun w => by simp [or_comm]
  rwa [e] at this
 have hJ := fun j (hj : j < c.arcs.length) => lpK_succ (set := set) (met := met) (k := k) hj
 have hJ0 : lpK c.arcs set met k 0 = [] := rfl;have hML : ∀ j, mxL f (lpK c.arcs set met k j) ≤ 1001 := fun j => mxF_le f 1001 _ 0 (Nat.zero_le _) fun v _ => by have := hfl v; omega
 rw [hR];obtain ⟨J, hJe⟩ := eqx (lpK c.arcs set met k);rw [← hJe] at hJ hJ0 hML ⊢;have hJ : ∀ j (hj : j < c.arcs.length), J (j + 1) = J j ++ (if cK set met k c.arcs[j] = true then [c.arcs[j].to_] else []) := hJ;have hcK : ∀ a, cK set met k a = (decide (a.from_ = k) && (sdB set a.to_ && !sdB met a.to_)) := fun _ => rfl
 clear hJe hR hf ih hmu;refine ASpec.of Tryz.func89 rfl rfl fun C hC => ?_
 refine AC.seq (AC.region ?_);refine kD ?_;refine za ?_;refine AL.nil (th_n (AC.seq (AC.region ?_)));refine za ?_;refine AL.nil (th_n (AC.seq (AC.region ?_)));refine zm ?_;refine zm ?_;refine kH ?_;refine zm ?_;refine kH ?_;refine AL.p (by exact g_slice_tight (h := path.length) (r := ints path) rfl rfl rfl rfl .none (.some rfl rfl) (.some rfl rfl) (Nat.zero_le _) (by rw [ints_len]; exact Nat.le_refl _) (by rw [List.drop_zero]; exact List.take_of_length_le (Nat.le_of_eq (ints_len _)))) rfl ?_;refine zm ?_;refine AL.q (by exact h_litF rfl rfl rfl rfl rfl rfl rfl rfl) rfl ?_;refine AL.q (by exact h_appendI path [k] (.tight rfl) (.view rfl) (by rw [List.length_append]; simp only [List.length_cons, List.length_nil]; omega) (by simp)) rfl ?_;refine AL.p (by exact as2 rfl) rfl ?_;refine AL.nil (th_n (AC.seq (AC.seq ?_)));refine AC.weak (Weak.freeze (i := 3) rfl rfl (Nat.le_of_eq (ints_len _).symm) (List.take_of_length_le (Nat.le_of_eq (ints_len _)))) ?_;refine AC.weak (t := ⟨56, 300, [(1, .d (vI set)), (2, aI k), (3, .d (vI met)), (4, .d (.ref (sgD c))), (9, aI (mxL f (J 0) : Nat))], []⟩) (Weak.ren _ [] hC rfl (by rw [hmet, hJ0]; repeat (first | exact True.intro | refine And.intro ?_ ?_ | exact DLead.same)) (by repeat (exact True.intro)) rfl rfl rfl) ?_;refine AC.region ?_;refine zf ?_;refine zr ?_;refine kI c.arcs.length (arL_len _) ?_;refine zm ?_;refine AL.nil (th_n (AC.block ?_));refine AC.loop (ι := Nat) (fun j => ⟨56, 600, [(1, .d (vI set)), (2, aI k), (3, .d (vI met)), (4, .d (.ref (sgD c))), (9, aI (mxL f (J j) : Nat)), (22, .d (vArs c.arcs)), (23, aI c.arcs.length), (24, aI j)], []⟩) (fun j => j ≤ c.arcs.length) (fun j => c.arcs.length - j) (0) ?_ (Nat.zero_le _) ?_
 ·exact Weak.ren _ [] hC rfl (by repeat (first | exact True.intro | refine And.intro ?_ ?_ | exact DLead.same)) (by repeat (exact True.intro)) rfl rfl rfl
 intro j hj;refine AC.seq (AC.region ?_);refine zc ?_;refine AL.nil (th_n (AC.seq ?_));refine AC.condD rfl (fun h0 => ?_) (fun h0 => ?_)
 ·refine AC.skip (th_n (AC.seq (AC.block (AC.seq ?_))));have hj1 : j < c.arcs.length := by omega
  have hget := arL_get hj1;have hJj := hJ j hj1;have hMj := hML j;obtain ⟨a, ha⟩ := eqx (c.arcs[j]);rw [← ha] at hget hJj;clear ha;rw [hcK a] at hJj;have hS1 := hHs a.to_;have hM1 := hHm a.to_;have hRv := hRec a.to_;have hfv := hfl a.to_;have hsn := mxL_snoc f (J j) a.to_;obtain ⟨b1, m1⟩ := eqx (sdB set a.to_);obtain ⟨b2, m2⟩ := eqx (sdB met a.to_);rw [← m1] at hS1 hJj hRv;rw [← m2] at hM1 hJj hRv;obtain ⟨e1, he1⟩ := eqx (decide (a.from_ = k));rw [← he1] at hJj;obtain ⟨N, hN⟩ := eqx (mxL f (J j));rw [← hN] at hMj hsn ⊢;obtain ⟨w, hw⟩ := eqx (f a.to_);rw [← hw] at hRv hfv hsn;have hmx : max (N : Int) (1 + (w : Int)) = ((max N (1 + w) : Nat) : Int) := by omega
  clear m1 m2;refine AC.region ?_;refine AL.p (by exact g_ia_view rfl rfl rfl rfl rfl (by rfl) (by assumption)) rfl ?_;refine kG ?_;refine kE ?_;refine zs ?_;refine AL.nil (th_n (AC.seq (AC.region ?_)));refine zF ?_;refine zl ?_;refine zm ?_;refine AL.p (by exact g_cmp (r := e1) rfl rfl (congrArg some he1.symm)) rfl ?_;refine zm ?_;refine AL.caseGB rfl rfl (fun h1 => ?_) (fun h1 => ?_)
  ·refine zy ?_;refine zm ?_;refine zy ?_;refine zF ?_;refine zy ?_;refine zl ?_;refine zy ?_;refine kV en_Contains hS1 ?_;refine zQ ?_;refine zm ?_;refine AL.caseGB rfl rfl (fun h2 => ?_) (fun h2 => ?_)
   ·refine zy ?_;refine zm ?_;refine zy ?_;refine zF ?_;refine zy ?_;refine zl ?_;refine zy ?_;refine kV en_Contains hM1 ?_;refine zy ?_;refine kC ?_;refine zQ ?_;refine AL.nil (th_n ?_);refine AC.condB rfl (fun h3 => ?_) (fun h3 => ?_)
    ·have c0 : e1 = true := by assumption
     have c1 : b1 = true := by assumption
     have c2 : b2 = false := by have q := ‹(!b2) = true›; simpa using q
     have hRv1 := hRv c1 c2;rw [c0, c1, c2, if_pos (by rfl)] at hJj;refine AC.region ?_;refine zm ?_;refine kG ?_;refine zm ?_;refine zF ?_;refine zl ?_;refine zm ?_;refine kV en_longestFrom hRv1 ?_;refine zA ?_;refine AL.p (by exact g_max rfl rfl) rfl ?_;refine za ?_;refine AL.nil (ib_n (th_n (AC.region ?_)));refine zA ?_;refine zm ?_;refine AL.nil (th_n ?_)
     (have q := ‹(!b2) = true›; exact ⟨j + 1, by omega, by omega, Weak.ren _ [] hC rfl (by rw [hJj, hsn, ← hmx]; repeat (first | exact True.intro | refine And.intro ?_ ?_ | exact DLead.same)) (by repeat (exact True.intro)) rfl rfl rfl⟩)
    refine AC.skip (ib_n (th_n (AC.region ?_)));refine zA ?_;refine zm ?_;refine AL.nil (th_n ?_)
    (have hJs : J (j + 1) = J j := (by (rw [‹(!b2) = false›, Bool.and_false, Bool.and_false, if_neg (by decide), List.append_nil] at hJj; exact hJj)); exact ⟨j + 1, by omega, by omega, Weak.ren _ [] hC rfl (by rw [hJs, ← hN]; repeat (first | exact True.intro | refine And.intro ?_ ?_ | exact DLead.same)) (by repeat (exact True.intro)) rfl rfl rfl⟩)
   refine zn ?_;refine zn ?_;refine zn ?_;refine zn ?_;refine zn ?_;refine zP ?_;refine AL.nil (th_n ?_);refine AC.condF rfl ?_;refine AC.skip (ib_n (th_n (AC.region ?_)));refine zA ?_;refine zm ?_;refine AL.nil (th_n ?_)
   (have hJs : J (j + 1) = J j := (by (rw [‹b1 = false›, Bool.false_and, Bool.and_false, if_neg (by decide), List.append_nil] at hJj; exact hJj)); exact ⟨j + 1, by omega, by omega, Weak.ren _ [] hC rfl (by rw [hJs, ← hN]; repeat (first | exact True.intro | refine And.intro ?_ ?_ | exact DLead.same)) (by repeat (exact True.intro)) rfl rfl rfl⟩)
  refine zn ?_;refine zn ?_;refine zn ?_;refine zn ?_;refine zP ?_;refine zm ?_;refine zn ?_;refine zn ?_;refine zn ?_;refine zn ?_;refine zn ?_;refine zP ?_;refine AL.nil (th_n ?_);refine AC.condF rfl ?_;refine AC.skip (ib_n (th_n (AC.region ?_)));refine zA ?_;refine zm ?_;refine AL.nil (th_n ?_)
  (have hJs : J (j + 1) = J j := (by (rw [‹e1 = false›, Bool.false_and, if_neg (by decide), List.append_nil] at hJj; exact hJj)); exact ⟨j + 1, by omega, by omega, Weak.ren _ [] hC rfl (by rw [hJs, ← hN]; repeat (first | exact True.intro | refine And.intro ?_ ?_ | exact DLead.same)) (by repeat (exact True.intro)) rfl rfl rfl⟩)
 refine AC.exit (th_e (th_e (ib_y (th_n (AC.seq ?_)))));have hjj : j = c.arcs.length := by omega
 rw [hjj];refine AC.region ?_;refine zm ?_;refine za ?_;refine AL.nil (th_n (AC.ret (bq_r ?_)));exact ret1 rfl rfl
theorem longestFrom_spec (c : SG) (set : List Int) (hl : c.arcs.length ≤ 1000000) (hs : set.length ≤ 1000) (n : Nat) (hn : n ≤ 1000) : ∀ k (path : List Int), path.length + n ≤ 2000 → muM set (path ++ [k]) ≤ n → ASpec Tryz.prog 89 [sgA c, .d (vI set), aI k, .d (vI path)] [] (Pure1 (aI (lpF c.arcs set n k (path ++ [k])))) := by
 induction n using Nat.strongRecOn with
 | _ n ih => exact longestFrom_step c set hl hs n hn fun m hm => ih m hm (by omega)
def cplL (n : Nat) (s : List Int) : List Int := nI ((List.range n).filter fun (v : Nat) => !sdB s (v : Int))
theorem cpl_sd {n : Nat} {s : List Int} {v : Int} (h : 0 ≤ v ∧ v < n) : sdB (cplL n s) v = !sdB s v := by
 have key : v ∈ cplL n s ↔ sdB s v = false := by
  unfold cplL nI;rw [List.mem_map];constructor
  ·rintro ⟨k, hk, rfl⟩;rw [List.mem_filter, Bool.not_eq_true'] at hk;exact hk.2
  intro hs;refine ⟨v.toNat, List.mem_filter.2 ⟨List.mem_range.2 (by omega), ?_⟩, by omega⟩;rw [Int.toNat_of_nonneg h.1, hs]; rfl
 cases hs : sdB s v with
 | true => exact decide_eq_false fun q => by rw [key.1 q] at hs; cases hs
 | false => exact decide_eq_true (key.2 hs)
theorem cpl_srtd (n : Nat) (s : List Int) : srtd (cplL n s) := List.Pairwise.sublist (List.Sublist.map _ (List.filter_sublist (l := List.range n))) (range_srtd n)
theorem cpl_in {n : Nat} {s : List Int} {v : Int} (h : v ∈ cplL n s) : 0 ≤ v ∧ v < n := by
 obtain ⟨k, hk, rfl⟩ := List.mem_map.1 h;have := List.mem_range.1 (List.mem_filter.1 hk).1;omega
theorem cpl_br {c : SG} {s : List Int} (hin : ∀ a, a ∈ c.arcs → ArIn c.codes.length a) : brP c false (cplL c.codes.length s) c.arcs.length = brP c true s c.arcs.length := by
 unfold brP brK;congr 2;refine List.filter_congr fun a ha => ?_
 have hA := hin a (List.mem_of_mem_take ha);unfold ArIn at hA;unfold brB;rw [cpl_sd hA.1, cpl_sd hA.2];cases sdB s a.from_ <;> cases sdB s a.to_ <;> rfl
theorem cpl_rgn {c : SG} {s : List Int} (hin : ∀ a, a ∈ c.arcs → ArIn c.codes.length a) : rgnA c (cplL c.codes.length s) = rgnA c s := by
 have key : ∀ i j, i < c.arcs.length → j < c.arcs.length → rgnB (cplL c.codes.length s) (arAt c.arcs i) (arAt c.arcs j) = rgnB s (arAt c.arcs i) (arAt c.arcs j) := fun i j hi hj => by
  rw [arAt_nat hi, arAt_nat hj];have h1 := hin _ (List.getElem_mem hi);have h2 := hin _ (List.getElem_mem hj);unfold ArIn at h1 h2;unfold rgnB;congr 2;unfold crA;rw [cpl_sd h1.1, cpl_sd h1.2, cpl_sd h2.1, cpl_sd h2.2];generalize sdB s c.arcs[i].from_ = b1;generalize sdB s c.arcs[i].to_ = b2;generalize sdB s c.arcs[j].from_ = b3;generalize sdB s c.arcs[j].to_ = b4;cases b1 <;> cases b2 <;> cases b3 <;> cases b4 <;> decide
 rw [Bool.eq_iff_iff, rgnA_iff, rgnA_iff];constructor
 ·intro h i j hi hj; rw [← key i j hi (by omega)]; exact h i j hi hj
 intro h i j hi hj; rw [key i j hi (by omega)]; exact h i j hi hj
theorem lpF_mu (L : List Ar) (set : List Int) : ∀ (n : Nat) (k : Int) (met : List Int), lpF L set n k met ≤ muM set met
 | 0, _, _ => Nat.zero_le _
 | n + 1, k, met => mxF_le _ _ _ 0 (Nat.zero_le _) fun v hv => by
  have h1 := lpF_mu L set n v (v :: met);obtain ⟨_, h2, h3⟩ := lpN_mem.1 hv;have h4 := muM_put (set := set) (met := met) (met' := v :: met) (v := v) h2 h3 fun w => by rw [List.mem_cons, or_comm]
  omega
theorem lon_lt {c : SG} {s : List Int} (h : 0 < s.length) : mx0 (lonF c s) s < s.length := by
 have key : ∀ k, k ∈ s → lonF c s k ≤ s.length - 1 := fun k hk => by
  have h1 := lpF_mu c.arcs s s.length k [k];have h2 := muM_put (set := s) (met := []) (met' := [k]) (v := k) hk (by simp) fun w => by simp
  have h3 := muM_le s [];unfold lonF;omega
 have go : ∀ (l : List Int) (m : Nat), (∀ v, v ∈ l → v ∈ s) → m ≤ s.length - 1 → l.foldl (fun m v => max m (lonF c s v)) m ≤ s.length - 1 := fun l => by
  induction l with
  | nil => exact fun m _ hm => hm
  | cons x l ih => exact fun m hl hm => ih _ (fun v hv => hl v (List.mem_cons_of_mem _ hv)) (Nat.max_le.2 ⟨hm, key x (hl x List.mem_cons_self)⟩)
 have := go s 0 (fun _ h => h) (Nat.zero_le _);show List.foldl _ _ _ < _;omega
theorem rising_of {l : List Int} {lo hi : Int} (hs : srtd l) (hb : ∀ v, v ∈ l → lo ≤ v ∧ v ≤ hi) : rising l lo hi = true := by
 unfold rising;refine allN_true fun k hk => ?_
 have e := kL_at l hk;have h1 := hb _ (List.getElem_mem hk);unfold riseAt;rw [e, decide_eq_true h1.1, decide_eq_true h1.2, Bool.true_and, Bool.true_and, Bool.not_eq_true', Bool.and_eq_false_iff]
 by_cases h0 : k = 0
 ·exact .inl (decide_eq_false (by omega))
 refine .inr (decide_eq_false ?_);have e2 := kL_at l (k := k - 1) (by omega);rw [e2];have := (List.pairwise_iff_getElem.1 hs) (k - 1) k (by omega) hk (by omega);omega
theorem cpl_set {c : SG} {s : List Int} (hv : validC c = true) : setQ c (cplL c.codes.length s) = true := by
 unfold setQ;rw [hv, Bool.and_true];exact rising_of (cpl_srtd _ _) fun v hv => by have := cpl_in hv; omega
def SgNk : AV → List (Nat × Chunk) → Prop := fun r chs => ∃ (g : SG) (k : Int), SgS 1 g ∧ r = .tup [sgA g, aI k] ∧ chs = []
theorem sDrawDisA_spec (code : List UInt8) : ASpec Tryz.prog 31 [.d (vB code)] [] SgNk := by
 have hA := sDrawExS_spec code;refine ASpec.of Tryz.func31 rfl rfl fun C hC => ?_
 refine AC.seq (AC.region ?_);refine kE ?_;refine za ?_;refine AL.nil (th_n (AC.seq (AC.region ?_)));refine zm ?_;refine AL.r (by exact h_funR (cs := []) en_sDrawExS rfl rfl (by repeat (first | exact rfl | exact DLead.same | refine ⟨_, _, rfl, ?_, ?_⟩)) (by repeat (exact True.intro)) hA rfl rfl rfl) rfl ?_;rintro _ ⟨_, _, ⟨x, k, u, hx, rfl, rfl⟩, rfl⟩;refine AL.p (by exact mv5 rfl) rfl ?_;refine AL.p (by exact g_extract (r := .agg _) rfl rfl) rfl ?_;refine AL.p (by exact g_extract (r := .d _) rfl rfl) rfl ?_;refine AL.p (by exact g_extract (r := .d _) rfl rfl) rfl ?_;refine kE ?_;refine zs ?_;refine za ?_;refine za ?_;refine AL.nil (th_n (AC.seq (AC.region ?_)));refine AL.p (by exact g_load_ptrN rfl rfl rfl rfl rfl) rfl ?_;refine zm ?_;refine zs ?_;refine za ?_;refine AL.nil (th_n (AC.ret (bq_r ?_)));exact retX [] rfl ⟨x, k, hx, rfl, rfl⟩ (by repeat (first | exact DLead.same | exact rfl | refine ⟨_, rfl, ?_⟩ | refine ⟨_, _, rfl, ?_, ?_⟩)) (by repeat (exact True.intro)) rfl rfl
theorem en_sDrawDisA : Enters Tryz.prog 31 := enters_of Tryz.func31 rfl rfl
theorem qSameLb_eq (K : List Int) (hl : K.length ≤ 1000000) : ASpec Tryz.prog 34 [.d (vKL K), .d (vKL K)] [] (Pure1 (aT true)) := by
 refine ASpec.of Tryz.func34 rfl rfl fun C hC => ?_
 refine AC.seq (AC.region ?_);refine za ?_;refine AL.nil (th_n (AC.seq (AC.seq (AC.region ?_))));refine zm ?_;refine kI K.length (kL_len _) ?_;refine zm ?_;refine kI K.length (kL_len _) ?_;refine AL.p (by exact g_neIr rfl rfl rfl) rfl ?_;refine AL.nil (th_n ?_);refine AC.condF rfl ?_;refine AC.skip (th_n (AC.seq (AC.seq (AC.region ?_))));refine zm ?_;refine kI K.length (kL_len _) ?_;refine zm ?_;refine AL.nil (th_n (AC.block ?_));refine AC.loop (ι := Nat) (fun k => ⟨26, 300, [(0, .d (vKL K)), (1, .d (vKL K)), (12, aI K.length), (13, aI k)], []⟩) (fun k => k ≤ K.length) (fun k => K.length - k) (0) ?_ (Nat.zero_le _) ?_
 ·exact Weak.ren _ [] hC rfl (by repeat (first | exact True.intro | refine And.intro ?_ ?_ | exact DLead.same)) (by repeat (exact True.intro)) rfl rfl rfl
 intro k hk;refine AC.seq (AC.region ?_);refine zc ?_;refine AL.nil (th_n (AC.seq ?_));refine AC.condD rfl (fun h0 => ?_) (fun h0 => ?_)
 ·refine AC.skip (th_n (AC.seq (AC.block (AC.seq ?_))));have hk1 : k < K.length := by omega
  have hget := kL_get hk1;refine AC.region ?_;refine zm ?_;refine za ?_;refine AL.nil (th_n (AC.seq ?_));refine AC.drawn' mixed_ok [[], [], [0,1], [0,1,2], [], [], [4,5], [4,5,6], [0,1,2,3,4,5,6,7]] (by decide) ?_;refine zd 0 [] 9 (by exact mv1 rfl) ?_;refine zd 1 [] 9 (by exact mv1 rfl) ?_;refine zd 2 [0,1] 9 (by exact g_ia_view (i := k) rfl rfl rfl rfl rfl rfl hget) ?_;refine zd 3 [0,1,2] 9 (by exact g_load_refN rfl rfl rfl rfl) ?_;refine zd 4 [] 9 (by exact mv1 rfl) ?_;refine zd 5 [] 9 (by exact mv1 rfl) ?_;refine zd 6 [4,5] 9 (by exact g_ia_view (i := k) rfl rfl rfl rfl rfl rfl hget) ?_;refine zd 7 [4,5,6] 9 (by exact g_load_refN rfl rfl rfl rfl) ?_;refine zd 8 [0,1,2,3,4,5,6,7] 9 (by exact g_eqIB (r := false) (by decide +kernel) rfl rfl (by simp [eqOf])) ?_;refine zj 9 ?_;refine th_n ?_;refine AC.condF rfl ?_;refine AC.skip (ib_n (th_n (AC.region ?_)));refine zA ?_;refine zm ?_;refine AL.nil (th_n ?_);exact ⟨k + 1, by omega, by omega, Weak.ren _ [] hC rfl (by repeat (first | exact True.intro | refine And.intro ?_ ?_ | exact DLead.same)) (by repeat (exact True.intro)) rfl rfl rfl⟩
 refine AC.exit (th_e (th_e (ib_y (th_n (AC.seq (AC.region ?_))))));refine za ?_;refine AL.nil (th_n (AC.ret (bq_r ?_)));exact ret1 rfl rfl
theorem en_qSameLb : Enters Tryz.prog 34 := enters_of Tryz.func34 rfl rfl
def rowV {α : Type} (enc : α → List Value) (x : α) : List DV := (enc x).map DV.val
theorem rowV_at {α : Type} {enc : α → List Value} {x : α} {j : Nat} (h : j < (enc x).length) : (rowV enc x)[j]? = some (.val (enc x)[j]) := by
 unfold rowV; rw [List.getElem?_map, List.getElem?_eq_getElem h]; rfl
theorem ASpec.mono {P : Program} {f : FuncId} {args : List AV} {chs : List (Nat × Chunk)} {R R' : AV → List (Nat × Chunk) → Prop} (h : ASpec P f args chs R) (hR : ∀ r chs', R r chs' → R' r chs') : ASpec P f args chs R' :=
 fun w m Fin vs h1 h2 h3 h4 h5 h6 => (h w m Fin vs h1 h2 h3 h4 h5 h6).mono fun _ _ ⟨v, r, chs', m', F', he, hr, rest⟩ => ⟨v, r, chs', m', F', he, hR _ _ hr, rest⟩
theorem divmod {i j k : Nat} (h : j < k) : (i * k + j) / k = i ∧ (i * k + j) % k = j := by
 constructor
 ·rw [Nat.mul_comm, Nat.mul_add_div (by omega), Nat.div_eq_of_lt h, Nat.add_zero]
 rw [Nat.mul_comm, Nat.mul_add_mod, Nat.mod_eq_of_lt h]
theorem flat_at {α : Type} [Inhabited α] {enc : α → List Value} {k : Nat} (hk : ∀ x, (enc x).length = k) {l : List α} {i j : Nat} (hi : i < l.length) (hj : j < k) : (Sort.flatK enc k l.toArray)[i * k + j]! = (enc l[i])[j]'(by rw [hk]; exact hj) := by
 have hlt : i * k + j < l.toArray.size * k := by
  have : (i + 1) * k ≤ l.length * k := Nat.mul_le_mul_right k (by omega);rw [Nat.add_mul, Nat.one_mul] at this;show _ < l.length * k;omega
 obtain ⟨d1, d2⟩ := divmod (i := i) hj;rw [Sort.get_flatK _ _ _ _ hlt, d1, d2];rw [getElem!_pos l.toArray i (by simpa using hi)];rw [getElem!_pos]
 rfl
theorem ASpec.ofSortK {P : Program} {gs g : FuncId} {t k : Nat} {α : Type} [Inhabited α] (enc : α → List Value) (hk : ∀ x, (enc x).length = k) (hk0 : 0 < k) (zs : List α) (Q : List α → Prop)
  (h : ∀ (blk off cap : Nat) (w : World), Sort.HoldsK enc k w blk off zs.toArray → blk < w.heap.size → Calls P gs #[.slice (some ⟨blk, off, none⟩) zs.length cap, .func (.func g) #[] #[]] w fun e w' =>
   e = .returned (.tuple #[]) ∧ ∃ (ys : List α) (n : Nat) (os : Array Obj), ys.Perm zs ∧ Q ys ∧ w' = sortWorldK enc k w blk off n ys.toArray os)
  (h0 : ∀ (p : Option Addr) (cap : Nat) (w : World), Calls P gs #[.slice p 0 cap, .func (.func g) #[] #[]] w fun e w' => e = .returned (.tuple #[]) ∧ w' = w) (hQ0 : Q []) :
  ASpec P gs [.own 0 zs.length, .clo g []] [(0, .arr t k (zs.map (rowV enc)))] (fun r chs => ∃ ys : List α, ys.Perm zs ∧ Q ys ∧ r = .tup [] ∧ chs = [(0, .arr t k (ys.map (rowV enc)))]) := by
 intro w m Fin vs hfin hn ha hch hinj hm;have ha0 := ha 0 _ rfl;have ha1 := ha 1 _ rfl
 have hvs : vs = #[vs.getD 0 undef, vs.getD 1 undef] := by
  apply Array.ext
  ·rw [hn]; rfl
  intro i hi1 hi2
  match i with
  | 0 => simp [Array.getD_eq_getD_getElem?, Array.getElem?_eq_getElem hi1]
  | 1 => simp [Array.getD_eq_getD_getElem?, Array.getElem?_eq_getElem hi1]
  | i + 2 => simp at hi2; omega
 obtain ⟨-, p, hp, hr⟩ := hch 0 _ rfl
 have hone : ∀ (id : Nat) (c d : Chunk), getL id [((0 : Nat), d)] = some c → id = 0 ∧ c = d := by
  intro id c d hc;rw [getL_cons] at hc
  split at hc
  ·rename_i e; simp at hc; exact ⟨e, hc.symm⟩
  simp [getL] at hc
 generalize hv0 : vs.getD 0 undef = v0 at ha0;generalize hv1 : vs.getD 1 undef = v1 at ha1;rw [hv0, hv1] at hvs;subst hvs
 have e1 : v1 = .func (.func g) #[] #[] := by
  cases ha1 with
  | clo hs _ =>
   rename_i us h3;have hus : us = (#[] : Array Value) := Array.eq_empty_of_size_eq_zero hs;rw [hus]
 subst e1
 by_cases hz0 : zs = []
 ·subst hz0;cases ha0 with
  | own hq hq0 =>
   rename_i cap b;refine (h0 _ cap w).mono ?_;rintro e w' ⟨rfl, rfl⟩;refine ⟨_, _, _, m, fun k' => (Fin k' ∨ (∃ id c p, getL id [((0 : Nat), Chunk.arr t k (([] : List α).map (rowV enc)))] = some c ∧ m id = some p ∧ occ p c k') ∨ w'.heap.size ≤ k') ∧ k' < w'.heap.size ∧ ∀ id c p, getL id [((0 : Nat), Chunk.arr t k (([] : List α).map (rowV enc)))] = some c → m id = some p → ¬ occ p c k', rfl, ⟨[], .refl _, hQ0, rfl, rfl⟩, fun _ _ _ h => h, fun id hid => hm id (by simp only [List.length_singleton] at hid ⊢; omega), fun k' => Iff.rfl, ⟨rfl, rfl, rfl, Nat.le_refl _, fun _ _ _ => rfl⟩, .tup rfl (fun i c hc => by simp at hc), fun id c hc => ?_, fun id id' c c' p p' b hc hc' => ?_⟩
   ·obtain ⟨rfl, rfl⟩ := hone _ _ _ hc;refine ⟨p, hp, hr.turn (MLe.refl m) (fun k hk hlt => And.intro ⟨.inl hk, hlt, fun id c q hc hq5 => by obtain ⟨rfl, rfl⟩ := hone _ _ _ hc; exact (hfin k hk).2 0 _ q rfl hq5⟩ rfl) (fun _ _ => rfl), fun b hb => .inr ⟨0, _, p, rfl, hp, hb⟩⟩
   rw [(hone _ _ _ hc).1, (hone _ _ _ hc').1]; exact fun _ _ _ _ => rfl
 have hpos : 0 < zs.length := List.length_pos_iff.2 hz0;cases ha0 with
 | own hq hq0 =>
  rename_i cap b;cases b with
  | none => have := hq0 rfl; omega
  | some blk =>
   rw [hp] at hq;obtain rfl : p = (some blk, cap) := by simpa using hq
   cases hr with
   | arr hb hf hsz hl hmx h0' hrow hel =>
    rename_i arr fz;have hl' : zs.length ≤ cap := by simpa using hl
    have hlk : zs.length * k ≤ arr.size := by rw [hsz]; exact Nat.mul_le_mul_right k hl'
    have hcell : ∀ i (hi : i < zs.length) j (hj : j < k), arr.getD (i * k + j) undef = (enc zs[i])[j]'(by rw [hk]; exact hj) ∧ okV ((enc zs[i])[j]'(by rw [hk]; exact hj)) := by
     intro i hi j hj;have := hel i (rowV enc zs[i]) j (.val ((enc zs[i])[j]'(by rw [hk]; exact hj))) (by simp [List.getElem?_eq_getElem hi]) (rowV_at (by rw [hk]; exact hj));exact this.val_is
    have hH : Sort.HoldsK enc k w blk 0 zs.toArray := by
     intro q hq';have hq2 : q < zs.length * k := by simpa using hq'
     have hqk : q / k < zs.length := Nat.div_lt_of_lt_mul (by rwa [Nat.mul_comm] at hq2);have hqm : q % k < k := Nat.mod_lt _ hk0;have hqe : q / k * k + q % k = q := by rw [Nat.mul_comm]; exact Nat.div_add_mod q k
     have hja : q < arr.size := by omega
     have hcl := (hcell (q / k) hqk (q % k) hqm).1;have hfl := flat_at hk hqk hqm;rw [hqe] at hcl hfl;constructor
     ·unfold World.cell?;simp only [hb, Nat.zero_add, Option.isSome_none, Bool.false_eq_true, if_false];rw [Array.getD_eq_getD_getElem?, Array.getElem?_eq_getElem hja] at hcl;rw [Array.getElem?_eq_getElem hja];simp only [Option.getD_some] at hcl;rw [hcl, hfl]; rfl
     unfold World.frozen?;simp only [hb, Nat.zero_add];have := hf q hja;obtain ⟨lo, hi⟩ := fz;simp only [not_and, Nat.not_lt] at this ⊢;simpa using this
    refine (h blk 0 cap w hH (lt_of_block hb)).mono ?_;rintro e w' ⟨rfl, ys, n, os, hperm, hQ, rfl⟩;have hbw := lt_of_block hb;have hyl : ys.length = zs.length := hperm.length_eq
    have hheap : ∀ j, j < w.heap.size → (sortWorldK enc k w blk 0 n ys.toArray os).heap[j]? = if blk = j then some (.cells (Sort.putCells id 0 (Sort.flatK enc k ys.toArray) arr) t fz) else w.heap[j]? := by
     intro j hj;unfold sortWorldK Sort.grow Sort.putRowK Sort.putRow Sort.mapBlock Sort.ahead;simp only;rw [Array.getElem?_append_left (by simpa using hj), Array.getElem?_modify]
     by_cases e : blk = j
     ·subst e; rw [if_pos rfl, if_pos rfl, hb]; rfl
     rw [if_neg e, if_neg e]
    have hsize : w.heap.size ≤ (sortWorldK enc k w blk 0 n ys.toArray os).heap.size := by
     unfold sortWorldK Sort.putRowK;rw [Sort.size_grow, Sort.size_putRow]; exact Nat.le_add_right _ _
    have hold : ∀ j, Fin j → j < w.heap.size → (sortWorldK enc k w blk 0 n ys.toArray os).heap[j]? = w.heap[j]? := by
     intro j hj hlt;rw [hheap j hlt, if_neg];rintro rfl;exact (hfin blk hj).2 0 _ _ rfl hp (.inl rfl)
    refine ⟨_, _, _, m, fun k' => (Fin k' ∨ (∃ id c p, getL id [((0 : Nat), Chunk.arr t k (zs.map (rowV enc)))] = some c ∧ m id = some p ∧ occ p c k') ∨ w.heap.size ≤ k') ∧ k' < (sortWorldK enc k w blk 0 n ys.toArray os).heap.size ∧ ∀ id c p, getL id [((0 : Nat), Chunk.arr t k (ys.map (rowV enc)))] = some c → m id = some p → ¬ occ p c k', rfl, ⟨ys, hperm, hQ, rfl, rfl⟩, fun _ _ _ h => h, fun id hid => hm id (by simp only [List.length_singleton] at hid ⊢; omega), fun k' => Iff.rfl, ⟨rfl, rfl, rfl, hsize, fun k' hk' hne => ?_⟩, .tup rfl (fun i c hc => by simp at hc), fun id c hc => ?_, fun id id' c c' p p' b hc hc' => ?_⟩
    ·exact (hheap k' hk').trans (if_neg (fun e => hne 0 _ _ rfl hp (.inl (congrArg some e))))
    ·obtain ⟨rfl, rfl⟩ := hone _ _ _ hc;refine ⟨_, hp, .arr ((hheap blk hbw).trans (if_pos rfl)) (fun i hi => hf i (by simpa [Sort.putCells] using hi)) (by simpa [Sort.putCells] using hsz) (by rw [List.length_map, hyl]; exact hl') hmx h0' (fun i cs hi => ?_) (fun i cs j d hi hj => ?_), fun b hb' => .inr ⟨0, _, _, rfl, hp, hb'⟩⟩
     ·rw [List.getElem?_map, Option.map_eq_some_iff] at hi;obtain ⟨x, _, rfl⟩ := hi;unfold rowV; rw [List.length_map, hk]
     rw [List.getElem?_map, Option.map_eq_some_iff] at hi;obtain ⟨x, hx, rfl⟩ := hi;have hi' : i < ys.length := (List.getElem?_eq_some_iff.1 hx).1;have hxx : ys[i] = x := (List.getElem?_eq_some_iff.1 hx).2;have hjk : j < k := by have := (List.getElem?_eq_some_iff.1 hj).1; unfold rowV at this; rwa [List.length_map, hk] at this
     have hd : d = .val ((enc x)[j]'(by rw [hk]; exact hjk)) := by
      rw [rowV_at (by rw [hk]; exact hjk)] at hj;exact (Option.some.inj hj).symm
     subst hd;have hxm : x ∈ zs := hperm.mem_iff.1 (by rw [← hxx]; exact List.getElem_mem hi');obtain ⟨q, hq', hqx⟩ := List.getElem_of_mem hxm;have hok := (hcell q hq' j hjk).2;have hfl := flat_at hk hi' hjk
     have hlt : i * k + j < ys.length * k := by
      have : (i + 1) * k ≤ ys.length * k := Nat.mul_le_mul_right k (by omega);rw [Nat.add_mul, Nat.one_mul] at this; omega
     have hi2 : i * k + j < arr.size := by rw [hyl] at hlt; omega
     have hval : (Sort.putCells id 0 (Sort.flatK enc k ys.toArray) arr).getD (i * k + j) undef = (enc x)[j]'(by rw [hk]; exact hjk) := by
      rw [Array.getD_eq_getD_getElem?];unfold Sort.putCells;rw [Array.getElem?_mapIdx, Array.getElem?_eq_getElem hi2];simp only [Option.map_some, Option.getD_some, Nat.zero_le, true_and, Nat.zero_add, Nat.sub_zero];rw [if_pos (by simpa using hlt), hfl];simp only [id, hxx]
     rw [hval];refine .val ?_;simp only [hqx] at hok;exact hok
    rw [(hone _ _ _ hc).1, (hone _ _ _ hc').1]; exact fun _ _ _ _ => rfl
end Go.Proofs.YtbofmbjefbpnaaaGreat
namespace Go.Proofs
open Go.Shelf
def Tryz.sortLab_ren : Go.Shelf.Ren := ⟨fun | 6 => 131 | 15 => 139 | 14 => 174 | 28 => 184 | 29 => 185 | 20 => 212 | 21 => 213 | 22 => 214 | 23 => 215 | 24 => 216 | 25 => 217 | 26 => 218 | 27 => 219 | 46 => 245 | 47 => 221 | 48 => 222 | 49 => 246 | 50 => 247 | 57 => 264 | n => n, fun | 22 => 45 | 24 => 64 | 25 => 140 | 3 => 3 | 39 => 148 | 0 => 0 | 53 => 190 | 55 => 75 | 4 => 4 | 46 => 184 | 45 => 183 | 50 => 49 | 5 => 5 | 9 => 9 | 66 => 225 | 70 => 229 | 76 => 252 | 77 => 253 | n => n, fun | n => n⟩
theorem Tryz.sortLab : Go.Proofs.SlLaysF0.n6 Tryz.prog Tryz.sortLab_ren := {
 mixed := by kernel_rfl
 f6 := ⟨Tryz.f131.name, by decide, Tryz.func131.trans (congrArg some (by kernel_rfl))⟩
 f14 := ⟨Tryz.f174.name, by decide, Tryz.func174.trans (congrArg some (by kernel_rfl))⟩
 f15 := Tryz.func139.trans (congrArg some (by kernel_rfl))
 f20 := ⟨Tryz.f212.name, by decide, Tryz.func212.trans (congrArg some (by kernel_rfl))⟩
 f21 := ⟨Tryz.f213.name, by decide, Tryz.func213.trans (congrArg some (by kernel_rfl))⟩
 f22 := ⟨Tryz.f214.name, by decide, Tryz.func214.trans (congrArg some (by kernel_rfl))⟩
 f23 := ⟨Tryz.f215.name, by decide, Tryz.func215.trans (congrArg some (by kernel_rfl))⟩
 f24 := ⟨Tryz.f216.name, by decide, Tryz.func216.trans (congrArg some (by kernel_rfl))⟩
 f25 := ⟨Tryz.f217.name, by decide, Tryz.func217.trans (congrArg some (by kernel_rfl))⟩
 f26 := ⟨Tryz.f218.name, by decide, Tryz.func218.trans (congrArg some (by kernel_rfl))⟩
 f27 := ⟨Tryz.f219.name, by decide, Tryz.func219.trans (congrArg some (by kernel_rfl))⟩
 f28 := Tryz.func184.trans (congrArg some (by kernel_rfl))
 f29 := Tryz.func185.trans (congrArg some (by kernel_rfl))
 f46 := ⟨Tryz.f245.name, by decide, Tryz.func245.trans (congrArg some (by kernel_rfl))⟩
 f47 := Tryz.func221.trans (congrArg some (by kernel_rfl))
 f48 := Tryz.func222.trans (congrArg some (by kernel_rfl))
 f49 := ⟨Tryz.f246.name, by decide, Tryz.func246.trans (congrArg some (by kernel_rfl))⟩
 f50 := ⟨Tryz.f247.name, by decide, Tryz.func247.trans (congrArg some (by kernel_rfl))⟩
 f57 := ⟨Tryz.f264.name, by decide, Tryz.func264.trans (congrArg some (by kernel_rfl))⟩
 t0 := Tryz.underlying0
 a0 := Tryz.isAgg0
 z0 := Tryz.sizeOf0
 v0 := Tryz.zeroValue0
 t3 := Tryz.underlying3
 a3 := Tryz.isAgg3
 z3 := Tryz.sizeOf3
 v3 := Tryz.zeroValue3
 t4 := Tryz.underlying4
 a4 := Tryz.isAgg4
 z4 := Tryz.sizeOf4
 v4 := Tryz.zeroValue4
 t5 := Tryz.underlying5
 a5 := Tryz.isAgg5
 z5 := Tryz.sizeOf5
 v5 := Tryz.zeroValue5
 t9 := Tryz.underlying9
 a9 := Tryz.isAgg9
 z9 := Tryz.sizeOf9
 v9 := Tryz.zeroValue9
 t22 := Tryz.underlying45
 a22 := Tryz.isAgg45
 z22 := Tryz.sizeOf45
 v22 := Tryz.zeroValue45
 t25 := Tryz.underlying140
 a25 := Tryz.isAgg140
 z25 := Tryz.sizeOf140
 v25 := Tryz.zeroValue140
 t39 := Tryz.underlying148
 a39 := Tryz.isAgg148
 z39 := Tryz.sizeOf148
 v39 := Tryz.zeroValue148
 t45 := Tryz.underlying183
 a45 := Tryz.isAgg183
 z45 := Tryz.sizeOf183
 v45 := Tryz.zeroValue183
 t46 := Tryz.underlying184
 a46 := Tryz.isAgg184
 z46 := Tryz.sizeOf184
 v46 := Tryz.zeroValue184
 t50 := Tryz.underlying49
 a50 := Tryz.isAgg49
 z50 := Tryz.sizeOf49
 v50 := Tryz.zeroValue49
 t53 := Tryz.underlying190
 a53 := Tryz.isAgg190
 z53 := Tryz.sizeOf190
 v53 := Tryz.zeroValue190
 t55 := Tryz.underlying75
 a55 := Tryz.isAgg75
 z55 := Tryz.sizeOf75
 v55 := Tryz.zeroValue75
 t66 := Tryz.underlying225
 a66 := Tryz.isAgg225
 z66 := Tryz.sizeOf225
 v66 := Tryz.zeroValue225
 t70 := Tryz.underlying229
 a70 := Tryz.isAgg229
 z70 := Tryz.sizeOf229
 v70 := Tryz.zeroValue229
 t76 := Tryz.underlying252
 a76 := Tryz.isAgg252
 z76 := Tryz.sizeOf252
 v76 := Tryz.zeroValue252
 t77 := Tryz.underlying253
 a77 := Tryz.isAgg253
 z77 := Tryz.sizeOf253
 v77 := Tryz.zeroValue253 }
def Tryz.sortArc_ren : Go.Shelf.Ren := ⟨fun | 6 => 85 | 15 => 139 | 14 => 138 | 28 => 184 | 29 => 185 | 20 => 176 | 21 => 177 | 22 => 178 | 23 => 179 | 24 => 180 | 25 => 181 | 26 => 182 | 27 => 183 | 46 => 220 | 47 => 221 | 48 => 222 | 49 => 223 | 50 => 224 | 57 => 248 | n => n, fun | 22 => 25 | 24 => 73 | 25 => 102 | 3 => 3 | 39 => 148 | 0 => 0 | 53 => 190 | 55 => 75 | 4 => 4 | 46 => 184 | 45 => 183 | 50 => 49 | 5 => 5 | 9 => 9 | 66 => 225 | 70 => 229 | 76 => 252 | 77 => 253 | n => n, fun | n => n⟩
theorem Tryz.sortArc : Go.Proofs.SlLaysF0.n6 Tryz.prog Tryz.sortArc_ren := {
 mixed := by kernel_rfl
 f6 := ⟨Tryz.f85.name, by decide, Tryz.func85.trans (congrArg some (by kernel_rfl))⟩
 f14 := ⟨Tryz.f138.name, by decide, Tryz.func138.trans (congrArg some (by kernel_rfl))⟩
 f15 := Tryz.func139.trans (congrArg some (by kernel_rfl))
 f20 := ⟨Tryz.f176.name, by decide, Tryz.func176.trans (congrArg some (by kernel_rfl))⟩
 f21 := ⟨Tryz.f177.name, by decide, Tryz.func177.trans (congrArg some (by kernel_rfl))⟩
 f22 := ⟨Tryz.f178.name, by decide, Tryz.func178.trans (congrArg some (by kernel_rfl))⟩
 f23 := ⟨Tryz.f179.name, by decide, Tryz.func179.trans (congrArg some (by kernel_rfl))⟩
 f24 := ⟨Tryz.f180.name, by decide, Tryz.func180.trans (congrArg some (by kernel_rfl))⟩
 f25 := ⟨Tryz.f181.name, by decide, Tryz.func181.trans (congrArg some (by kernel_rfl))⟩
 f26 := ⟨Tryz.f182.name, by decide, Tryz.func182.trans (congrArg some (by kernel_rfl))⟩
 f27 := ⟨Tryz.f183.name, by decide, Tryz.func183.trans (congrArg some (by kernel_rfl))⟩
 f28 := Tryz.func184.trans (congrArg some (by kernel_rfl))
 f29 := Tryz.func185.trans (congrArg some (by kernel_rfl))
 f46 := ⟨Tryz.f220.name, by decide, Tryz.func220.trans (congrArg some (by kernel_rfl))⟩
 f47 := Tryz.func221.trans (congrArg some (by kernel_rfl))
 f48 := Tryz.func222.trans (congrArg some (by kernel_rfl))
 f49 := ⟨Tryz.f223.name, by decide, Tryz.func223.trans (congrArg some (by kernel_rfl))⟩
 f50 := ⟨Tryz.f224.name, by decide, Tryz.func224.trans (congrArg some (by kernel_rfl))⟩
 f57 := ⟨Tryz.f248.name, by decide, Tryz.func248.trans (congrArg some (by kernel_rfl))⟩
 t0 := Tryz.underlying0
 a0 := Tryz.isAgg0
 z0 := Tryz.sizeOf0
 v0 := Tryz.zeroValue0
 t3 := Tryz.underlying3
 a3 := Tryz.isAgg3
 z3 := Tryz.sizeOf3
 v3 := Tryz.zeroValue3
 t4 := Tryz.underlying4
 a4 := Tryz.isAgg4
 z4 := Tryz.sizeOf4
 v4 := Tryz.zeroValue4
 t5 := Tryz.underlying5
 a5 := Tryz.isAgg5
 z5 := Tryz.sizeOf5
 v5 := Tryz.zeroValue5
 t9 := Tryz.underlying9
 a9 := Tryz.isAgg9
 z9 := Tryz.sizeOf9
 v9 := Tryz.zeroValue9
 t22 := Tryz.underlying25
 a22 := Tryz.isAgg25
 z22 := Tryz.sizeOf25
 v22 := Tryz.zeroValue25
 t25 := Tryz.underlying102
 a25 := Tryz.isAgg102
 z25 := Tryz.sizeOf102
 v25 := Tryz.zeroValue102
 t39 := Tryz.underlying148
 a39 := Tryz.isAgg148
 z39 := Tryz.sizeOf148
 v39 := Tryz.zeroValue148
 t45 := Tryz.underlying183
 a45 := Tryz.isAgg183
 z45 := Tryz.sizeOf183
 v45 := Tryz.zeroValue183
 t46 := Tryz.underlying184
 a46 := Tryz.isAgg184
 z46 := Tryz.sizeOf184
 v46 := Tryz.zeroValue184
 t50 := Tryz.underlying49
 a50 := Tryz.isAgg49
 z50 := Tryz.sizeOf49
 v50 := Tryz.zeroValue49
 t53 := Tryz.underlying190
 a53 := Tryz.isAgg190
 z53 := Tryz.sizeOf190
 v53 := Tryz.zeroValue190
 t55 := Tryz.underlying75
 a55 := Tryz.isAgg75
 z55 := Tryz.sizeOf75
 v55 := Tryz.zeroValue75
 t66 := Tryz.underlying225
 a66 := Tryz.isAgg225
 z66 := Tryz.sizeOf225
 v66 := Tryz.zeroValue225
 t70 := Tryz.underlying229
 a70 := Tryz.isAgg229
 z70 := Tryz.sizeOf229
 v70 := Tryz.zeroValue229
 t76 := Tryz.underlying252
 a76 := Tryz.isAgg252
 z76 := Tryz.sizeOf252
 v76 := Tryz.zeroValue252
 t77 := Tryz.underlying253
 a77 := Tryz.isAgg253
 z77 := Tryz.sizeOf253
 v77 := Tryz.zeroValue253 }
end Go.Proofs
namespace Go.Proofs.YtbofmbjefbpnaaaGreat
open Go.RowKit
abbrev LbZ := {z : Int // -4000000 ≤ z ∧ z ≤ 4000000}
instance : Inhabited LbZ := ⟨⟨0, by omega⟩⟩
def encL (z : LbZ) : List Value := [.int .i64 (kLb z.1).sig, .bool (kLb z.1).up]
def cfL (x y : LbZ) : Int := if (kLb x.1).sig ≠ (kLb y.1).sig then (kLb x.1).sig - (kLb y.1).sig else if (kLb x.1).up = (kLb y.1).up then 0 else if (kLb y.1).up = true then -1 else 1
theorem cfL_lt (x y : LbZ) : ltOf cfL x y = decide (x.1 < y.1) := by
 unfold ltOf;refine decide_eq_decide.2 ?_;have hx := lbK_kLb x.1;have hy := lbK_kLb y.1;unfold cfL;generalize kLb x.1 = a at hx ⊢;generalize kLb y.1 = b at hy ⊢;rw [← hx, ← hy];unfold lbK;obtain ⟨s, u⟩ := a;obtain ⟨t, v⟩ := b;dsimp only
 by_cases h : s = t
 ·subst h;rw [if_neg (by simp)];cases u <;> cases v <;> simp <;> omega
 rw [if_pos h];cases u <;> cases v <;> simp <;> omega
def cfI (a b : Int) (u v : Bool) : Int := if a ≠ b then a - b else if u = v then 0 else if v = true then -1 else 1
set_option maxHeartbeats 4000000 in
theorem cmpLab_calls (a b : Int) (u v : Bool) (ha : -4000000 ≤ a ∧ a ≤ 4000000) (hb : -4000000 ≤ b ∧ b ≤ 4000000) (W : World) : Calls Tryz.prog 132 #[.agg #[.int .i64 a, .bool u], .agg #[.int .i64 b, .bool v]] W fun e w' => e = .returned (.int .i64 (cfI a b u v)) ∧ ∃ q os', w' = Sort.grow (W.drewN q) os' := by
 go_enter Tryz.func132, Tryz.ntmps132
 go_wp2
 all_goals go_ret
 all_goals refine ⟨?_, 0, _, by rw [Sort.alloc_eq_grow, Sort.alloc_eq_grow, Sort.grow_grow]; rfl⟩
 all_goals refine congrArg (fun z => Ending.returned (Value.int .i64 z)) ?_
 all_goals unfold cfI
 all_goals simp_all
theorem cfL_eq (x y : LbZ) : cfL x y = cfI (kLb x.1).sig (kLb y.1).sig (kLb x.1).up (kLb y.1).up := rfl
theorem kLb_in (z : LbZ) : -4000000 ≤ (kLb z.1).sig ∧ (kLb z.1).sig ≤ 4000000 := by
 have := z.2;unfold kLb;dsimp only;omega
theorem cmpLab_lays (blk off size : Nat) (w : World) : CmpLays Tryz.prog 132 #[] encL 2 cfL blk off size w := fun m os dk _ x y => by
 rw [cfL_eq];exact cmpLab_calls _ _ _ _ (kLb_in x) (kLb_in y) _
theorem swoL : Sort.SWO (ltOf cfL) where
 irrefl x := by rw [cfL_lt]; simp
 trans x y z h1 h2 := by rw [cfL_lt] at *; simp at *; omega
 ntrans x y z h1 h2 := by rw [cfL_lt] at *; simp at *; omega
theorem le_of_ms (l : List LbZ) : (l.mergeSort fun x y => !(ltOf cfL) y x).Pairwise (fun a b => a.1 ≤ b.1) := by
 have := List.pairwise_mergeSort (le := fun x y : LbZ => !(ltOf cfL) y x) (fun a b c h1 h2 => by rw [cfL_lt] at *; simp at *; omega) (fun a b => by rw [cfL_lt, cfL_lt]; simp; omega) l;exact this.imp fun h => by rw [cfL_lt] at h; simp at h; omega
theorem en_sortFLab : Enters Tryz.prog 131 := enters_of Tryz.func131 rfl rfl
theorem sortFLab_spec (l : List Int) (hb : ∀ z, z ∈ l → -4000000 ≤ z ∧ z ≤ 4000000) (hl : l.length ≤ 1000000) : ASpec Tryz.prog 131 [.own 0 l.length, .clo 132 []] [(0, .arr 64 2 (labsL (l.map kLb)))] (fun r chs => ∃ l' : List Int, l'.Perm l ∧ l'.Pairwise (fun a b => a ≤ b) ∧ r = .tup [] ∧ chs = [(0, .arr 64 2 (labsL (l'.map kLb)))]) := by
 obtain ⟨zs, hzs⟩ : ∃ zs : List LbZ, zs.map (·.1) = l := ⟨l.pmap Subtype.mk hb, by rw [List.map_pmap]; simp⟩
 have hrow : ∀ ys : List LbZ, ys.map (rowV encL) = labsL ((ys.map (·.1)).map kLb) := fun ys => by
  unfold labsL;rw [List.map_map, List.map_map]
  rfl
 have hlen : zs.length = l.length := by rw [← hzs, List.length_map]
 have h := ASpec.ofSortK (P := Tryz.prog) (gs := 131) (g := 132) (t := 64) (k := 2) encL (fun _ => rfl) (by decide) zs (fun ys => ys.Pairwise (fun a b => a.1 ≤ b.1))
  (fun blk off cap w hH hblk => (AnyQ.slices_SortFunc_total Tryz.sortLab 2 Tryz.isAgg64 Tryz.sizeOf64 encL (fun _ => rfl) (fun x v hv => by simp [encL] at hv; rcases hv with rfl | rfl <;> rfl) cfL swoL 132 #[] blk off cap zs.toArray w (enters_of Tryz.func132 rfl rfl) (cmpLab_lays blk off _ w) hH hblk (by simp; omega) (fun x y h1 h2 => by rw [cfL_lt] at h1 h2; simp at h1 h2; exact Subtype.ext (by omega))).mono fun _ _ ⟨he, n, os, hw⟩ => ⟨he, _, n, os, List.mergeSort_perm _ _, le_of_ms _, hw⟩)
  (fun p cap w => AnyF.slices_SortFunc_none { Tryz.sortLab with } p cap _ w) List.Pairwise.nil
 rw [hlen, hrow, hzs] at h;refine h.mono ?_;rintro r chs ⟨ys, h1, h2, rfl, rfl⟩;exact ⟨ys.map (·.1), by rw [← hzs]; exact h1.map _, List.pairwise_map.2 h2, rfl, by rw [hrow]⟩
abbrev kLs (l : List Int) : List (List DV) := labsL (l.map kLb)
theorem kLs_at {l : List Int} {k : Nat} (h : k < l.length) : (kLs l)[k]? = some (labD (kLb l[k])) := by rw [kL_get h, kL_at l h]
theorem kLs_set (l : List Int) (k : Nat) (z : Int) : kLs (l.set k z) = (kLs l).set k (labD (kLb z)) := by unfold kLs labsL; rw [List.map_set, List.map_set]
theorem kLb_inj {a b : Int} : ((kLb a).sig = (kLb b).sig ∧ (kLb a).up = (kLb b).up) ↔ a = b := by
 constructor
 ·intro h;have ha := lbK_kLb a;have hb := lbK_kLb b;unfold lbK at ha hb;rw [h.1, h.2] at ha;omega
 rintro rfl; exact ⟨rfl, rfl⟩
set_option maxHeartbeats 8000000 in
theorem compactLab_spec (l : List Int) (hl : l.length ≤ 1000000) : ASpec Tryz.prog 133 [.own 0 l.length] [(0, .arr 64 2 (kLs l))] (Fun1 (.own 0 (ddN l l.length).length) [(0, .arr 64 2 (kLs (ddN l l.length)))]) := by
 have hAll := ddN_all (l := l) l.length (Nat.le_refl _);rw [List.take_length] at hAll;refine ASpec.of Tryz.func133 rfl rfl fun C hC => ?_
 refine AC.seq (AC.region ?_);refine za ?_;refine AL.nil (th_n (AC.seq (AC.seq (AC.region ?_))));refine kB ?_;refine AL.p (by exact g_len_own (sz := 1) (els := []) (e' := 0) rfl rfl (by simp only [maxLen]; omega)) rfl ?_;refine zc ?_;refine AL.nil (th_n ?_);refine AC.condD rfl (fun h0 => ?_) (fun h0 => ?_)
 ·refine AC.seq (AC.region ?_);refine kB ?_;refine AL.p (by exact as2 rfl) rfl ?_;refine AL.nil (th_n (AC.ret (th_r (bq_r ?_))));have e := hAll (fun j h1 h2 => by omega);exact retN [] rfl (by rw [e]; repeat (first | exact rfl | refine ⟨_, rfl, ?_⟩)) (by rw [e]; repeat (first | exact True.intro | refine And.intro ?_ ?_ | exact rfl | refine ⟨_, _, rfl, rfl, ?_⟩)) rfl rfl
 refine AC.skip (th_n (AC.seq (AC.seq (AC.region ?_))));refine za ?_;refine AL.nil (th_n (AC.block ?_));refine AC.loop (ι := Nat) (fun k => ⟨61, 100, [(0, .own 0 l.length), (3, aI k)], [(0, some (.arr 64 2 (kLs l)))]⟩) (fun k => (1 ≤ k ∧ k ≤ l.length) ∧ ∀ j, 1 ≤ j → j < k → ¬ l.getD j 0 = l.getD (j - 1) 0) (fun k => l.length - k) (1) ?_ (⟨⟨Nat.le_refl _, by omega⟩, fun j h1 h2 => by omega⟩) ?_
 ·exact zw [] hC
 rintro k ⟨⟨hk1, hk⟩, hall⟩;refine AC.seq (AC.seq (AC.region ?_));refine zm ?_;refine kB ?_;refine AL.p (by exact g_len_own (sz := 1) (els := []) (e' := 0) rfl rfl (by simp only [maxLen]; omega)) rfl ?_;refine zc ?_;refine AL.nil (th_n ?_);refine AC.condD rfl (fun h1 => ?_) (fun h1 => ?_)
 ·refine AC.skip (th_n (AC.seq (AC.block (AC.seq ?_))));have hkl : k < l.length := by omega
  have hg1 := kLs_at hkl;have hg2 := kLs_at (l := l) (k := k - 1) (by omega);have hd1 := getI_at hkl;have hd2 := getI_at (l := l) (p := k - 1) (by omega);have hkI : ((k : Int) - 1) = ((k - 1 : Nat) : Int) := by omega
  have hinj := kLb_inj (a := l[k]) (b := l[k - 1]);obtain ⟨a, ha⟩ := eqx (kLb l[k]);obtain ⟨b, hb⟩ := eqx (kLb l[k - 1]);rw [← ha] at hg1 hinj;rw [← hb] at hg2 hinj;clear ha hb;refine AC.drawn' mixed_ok [[], [], [0,1], [0,1,2], [], [], [5], [4,5,6], [4,5,6,7], [0,1,2,3,4,5,6,7,8]] (by decide) ?_;refine zd 0 [] 10 (by exact mv2 rfl) ?_;refine zd 1 [] 10 (by exact mv1 rfl) ?_;refine zd 2 [0,1] 10 (by exact g_ia_own (i := k) (l := l.length) rfl rfl rfl rfl rfl rfl hkl rfl) ?_;refine zd 3 [0,1,2] 10 (by exact g_load_arrN rfl rfl rfl rfl rfl rfl hg1) ?_;refine zd 4 [] 10 (by exact mv2 rfl) ?_;refine zd 5 [] 10 (by exact mv1 rfl) ?_;refine zd 6 [5] 10 (by exact g_arith rfl rfl rfl (by exact wrap_i64 (by omega))) ?_;refine zd 7 [4,5,6] 10 (by exact g_ia_own (i := k - 1) (l := l.length) rfl rfl rfl rfl rfl hkI (by omega) rfl) ?_;refine zd 8 [4,5,6,7] 10 (by exact g_load_arrN rfl rfl rfl rfl rfl rfl hg2) ?_;refine zd 9 (List.range 9) 10 (by exact g_eqIB (r := decide (a.sig = b.sig ∧ a.up = b.up)) (by decide +kernel) rfl rfl rfl) ?_;refine zj 10 ?_;refine th_n ?_;refine AC.condD rfl (fun h2 => ?_) (fun h2 => ?_)
  ·refine AC.seq ?_;have heq : l.getD k 0 = l.getD (k - 1) 0 := by rw [hd1, hd2, ← hinj]; assumption
   have hI0 : DdI l k (k + 1) l := ⟨rfl, Nat.lt_succ_self _, hkl, by rw [ddN, if_neg (by rintro (q | q); omega; exact q heq), List.append_nil]; exact (ddN_all k hk hall).symm, fun i hi _ => getI_at hi⟩;have hlk : 1 ≤ l.length - k := by omega
   refine AC.region ?_;refine kB ?_;refine zm ?_;refine AL.p (by exact g_slice_part (els := kLs l) (e' := 64) (sz := 2) (l := k) (h := l.length) rfl rfl rfl rfl rfl (.some rfl rfl) .none (by omega) (by rw [kL_len]; exact Nat.le_refl _) rfl rfl) rfl ?_;refine AL.p (by exact as10 rfl) rfl ?_;refine AL.nil (th_n (AC.seq (AC.seq (AC.region ?_))));refine za ?_;refine AL.nil (th_n (AC.block ?_));refine AC.loop (ι := Nat × Nat × List Int) (fun x => ⟨61, 300, [(0, .own 0 l.length), (3, aI x.1), (4, .part 0 (k * 2) (l.length - k)), (5, aI x.2.1)], [(0, some (.arr 64 2 (kLs x.2.2)))]⟩) (fun x => DdI l x.1 (k + x.2.1) x.2.2 ∧ 1 ≤ x.2.1) (fun x => l.length - x.2.1) ((k, 1, l)) ?_ (⟨hI0, Nat.le_refl _⟩) ?_
   ·exact zw [] hC
   rintro ⟨q, i, e⟩ ⟨hI, hi1⟩;dsimp only at hI hi1 ⊢;have hlt := hI.lt;have hle := hI.le;have hel := hI.len;refine AC.seq (AC.seq (AC.region ?_));refine zm ?_;refine AL.p (by exact mv10 rfl) rfl ?_;refine AL.p (by exact g_len_part rfl rfl (by simp only [maxLen]; omega)) rfl ?_;refine zc ?_;refine AL.nil (th_n ?_);refine AC.condD rfl (fun h3 => ?_) (fun h3 => ?_)
   ·refine AC.skip (th_n (AC.seq (AC.block (AC.seq ?_))));have hil : k + i < l.length := by omega
    have hr1 := hI.rest (k + i) hil (by omega);have hr2 := hI.rest (k + i - 1) (by omega) (by omega);have hd1 := getI_at hil;have hd2 := getI_at (l := l) (p := k + i - 1) (by omega);have hg1 : (kLs e)[k + i]? = some (labD (kLb l[k + i])) := by rw [kLs_at (by omega), ← hr1, getI_at (by omega)]
    have hg2 : (kLs e)[k + (i - 1)]? = some (labD (kLb l[k + i - 1])) := by rw [show k + (i - 1) = k + i - 1 by omega, kLs_at (by omega), ← hr2, getI_at (by omega)]
    have hiI : ((i : Int) - 1) = ((i - 1 : Nat) : Int) := by omega
    have hsk := hI.skip hil;have hmv := hI.move hil;rw [hd1, hd2] at hsk hmv;have hinj := kLb_inj (a := l[k + i]) (b := l[k + i - 1]);obtain ⟨y1, hza⟩ := eqx (l[k + i]);obtain ⟨zb, hzb⟩ := eqx (l[k + i - 1]);rw [← hza] at hg1 hsk hmv hinj;rw [← hzb] at hg2 hsk hmv hinj;have hset := kLs_set e q y1;obtain ⟨a, ha⟩ := eqx (kLb y1);obtain ⟨b, hb⟩ := eqx (kLb zb);rw [← ha] at hg1 hinj hset;rw [← hb] at hg2 hinj;clear ha hb hza hzb hr1 hr2 hd1 hd2;refine AC.drawn' mixed_ok [[], [], [0,1], [0,1,2], [], [], [5], [4,5,6], [4,5,6,7], [0,1,2,3,4,5,6,7,8]] (by decide) ?_;refine zd 0 [] 10 (by exact mv10 rfl) ?_;refine zd 1 [] 10 (by exact mv1 rfl) ?_;refine zd 2 [0,1] 10 (by exact g_ia_part (sz := 2) (i := i) (l := l.length - k) rfl rfl rfl rfl rfl rfl (by omega) rfl) ?_;refine zd 3 [0,1,2] 10 (by exact g_load_arrN (sz := 2) (i := k + i) rfl rfl rfl rfl rfl (by omega) hg1) ?_;refine zd 4 [] 10 (by exact mv10 rfl) ?_;refine zd 5 [] 10 (by exact mv1 rfl) ?_;refine zd 6 [5] 10 (by exact g_arith rfl rfl rfl (by exact wrap_i64 (by omega))) ?_;refine zd 7 [4,5,6] 10 (by exact g_ia_part (sz := 2) (i := i - 1) (l := l.length - k) rfl rfl rfl rfl rfl hiI (by omega) rfl) ?_;refine zd 8 [4,5,6,7] 10 (by exact g_load_arrN (sz := 2) (i := k + (i - 1)) rfl rfl rfl rfl rfl (by omega) hg2) ?_;refine zd 9 (List.range 9) 10 (by exact g_eqIB (r := !decide (a.sig = b.sig ∧ a.up = b.up)) (by decide +kernel) rfl rfl rfl) ?_;refine zj 10 ?_;refine th_n ?_;refine AC.condND rfl (fun h4 => ?_) (fun h4 => ?_)
    ·refine AC.seq (AC.region ?_);refine kB ?_;refine zm ?_;refine AL.p (by exact mv10 rfl) rfl ?_;refine zm ?_;refine AL.p (by exact g_ia_part (sz := 2) (i := i) (l := l.length - k) rfl rfl rfl rfl rfl rfl (by omega) rfl) rfl ?_;refine AL.p (by exact g_load_arrN (sz := 2) (i := k + i) rfl rfl rfl rfl rfl (by omega) hg1) rfl ?_;refine AL.p (by exact g_ia_own (i := q) (l := l.length) rfl rfl rfl rfl rfl rfl (by omega) rfl) rfl ?_;refine AL.q (by exact h_store_row (i := q) (ds := labD a) rfl rfl rfl rfl rfl rfl rfl (by rw [kL_len]; omega)) rfl ?_;refine AL.nil (th_n (AC.region ?_));refine zm ?_;refine zA ?_;refine za ?_;refine AL.nil (ib_n (th_n (AC.region ?_)));refine zm ?_;refine zA ?_;refine za ?_;refine AL.nil (th_n ?_)
     (have e2 := hmv (by rw [← hinj]; assumption); exact ⟨(q + 1, i + 1, e.set q y1), ⟨e2, by dsimp only; omega⟩, by dsimp only; omega, zw [] hC (b := by rw [hset]; repeat (first | exact True.intro | refine And.intro ?_ ?_ | exact rfl | refine ⟨_, _, rfl, rfl, ?_⟩))⟩)
    refine AC.skip (ib_n (th_n (AC.region ?_)));refine zm ?_;refine zA ?_;refine za ?_;refine AL.nil (th_n ?_)
    (have e2 := hsk (by rw [← hinj]; assumption); exact ⟨(q, i + 1, e), ⟨e2, by dsimp only; omega⟩, by dsimp only; omega, zw [] hC⟩)
   refine AC.exit (th_e (th_e (ib_y (th_n (AC.seq ?_)))));have hii : k + i = l.length := by omega
   rw [hii] at hI;have hkl := hI.kl;have hst : (kLs e).take q = kLs (ddN l l.length) := by rw [← hI.kept]; unfold kLs labsL; rw [List.map_take, List.map_take]
   refine AC.region ?_;refine kB ?_;refine zm ?_;refine AL.p (by exact g_slice_part (els := kLs e) (e' := 64) (sz := 2) (l := q) (h := l.length) rfl rfl rfl rfl rfl (.some rfl rfl) .none (by omega) (by rw [kL_len]; omega) rfl rfl) rfl ?_;refine AL.q (by exact h_clear (i := q) (q := l.length - q) (els := kLs e) (e' := 64) (sz := 2) rfl rfl rfl rfl rfl rfl (by omega) (by rw [kL_len]; omega)) rfl ?_;refine AL.nil (th_n (AC.seq (AC.region ?_)));refine kB ?_;refine zm ?_;refine AL.p (by exact g_slice_own (els := (kLs e).take q) (e' := 64) (sz := 2) rfl rfl rfl rfl (.some rfl rfl) (by rw [List.length_take, kL_len]; omega)) rfl ?_;refine AL.p (by exact as2 rfl) rfl ?_;refine AL.nil (th_n (AC.ret (ib_r (th_r (th_r (ib_r (th_r (bq_r ?_))))))));exact retN [] rfl (by rw [hkl]; repeat (first | exact rfl | refine ⟨_, rfl, ?_⟩)) (by rw [← hst]; repeat (first | exact True.intro | refine And.intro ?_ ?_ | exact rfl | refine ⟨_, _, rfl, rfl, ?_⟩)) rfl rfl
  refine AC.skip (ib_n (th_n (AC.region ?_)));refine zm ?_;refine zA ?_;refine za ?_;refine AL.nil (th_n ?_);have hne : ¬ l.getD k 0 = l.getD (k - 1) 0 := by rw [hd1, hd2, ← hinj]; assumption
  exact ⟨k + 1, ⟨⟨by omega, by omega⟩, fun j h1 h2 => by rcases Nat.lt_succ_iff_lt_or_eq.1 h2 with q | rfl; exact hall j h1 q; exact hne⟩, by omega, zw [] hC⟩
 refine AC.exit (th_e (th_e (ib_y (th_n (AC.seq (AC.region ?_))))));refine kB ?_;refine AL.p (by exact as2 rfl) rfl ?_;refine AL.nil (th_n (AC.ret (bq_r ?_)));have e := hAll (fun j h1 h2 => hall j h1 (by omega));exact retN [] rfl (by rw [e]; repeat (first | exact rfl | refine ⟨_, rfl, ?_⟩)) (by rw [e]; repeat (first | exact True.intro | refine And.intro ?_ ?_ | exact rfl | refine ⟨_, _, rfl, rfl, ?_⟩)) rfl rfl
theorem en_compactLab : Enters Tryz.prog 133 := enters_of Tryz.func133 rfl rfl
def bdK (c : SG) (p : Ar → Bool) (j : Nat) : List Int := ((c.arcs.take j).filter p).map fun a => lbK ⟨a.sig, a.up⟩
theorem bdK_succ {c : SG} {p : Ar → Bool} {j : Nat} (hj : j < c.arcs.length) : bdK c p (j + 1) = bdK c p j ++ (if p c.arcs[j] = true then [lbK ⟨c.arcs[j].sig, c.arcs[j].up⟩] else []) := by
 unfold bdK;rw [filter_snoc _ hj, List.map_append];congr 1
 split <;> rfl
theorem bdK_len (c : SG) (p : Ar → Bool) (j : Nat) : (bdK c p j).length ≤ j := by
 unfold bdK;rw [List.length_map];have := List.length_filter_le p (c.arcs.take j);rw [List.length_take] at this;omega
theorem bdK_in {c : SG} {p : Ar → Bool} {j : Nat} (hs : ∀ a, a ∈ c.arcs → -1000000 ≤ a.sig ∧ a.sig ≤ 1000000) {z : Int} (h : z ∈ bdK c p j) : -4000000 ≤ z ∧ z ≤ 4000000 := by
 unfold bdK at h;obtain ⟨a, ha, rfl⟩ := List.mem_map.1 h;have := hs a (List.mem_of_mem_take (List.mem_filter.1 ha).1);unfold lbK;dsimp only;cases a.up <;> simp only [cond_true, cond_false] <;> omega
theorem bdK_br (c : SG) (o : Bool) (s : List Int) (p : Ar → Bool) (hp : ∀ a, p a = brB o s a) : setP (bdK c p c.arcs.length) = brP c o s c.arcs.length := by
 unfold brP brK bdK;rw [show p = brB o s from funext hp]
theorem dd_setP {l l' : List Int} (hp : l'.Perm l) (hs : l'.Pairwise (fun a b => a ≤ b)) : ddN l' l'.length = setP l := by
 obtain ⟨h1, h2, _⟩ := dd_sorted hs l'.length (Nat.le_refl _);refine srtd_ext h1 (setP_srtd l).1 fun x => ?_
 rw [h2, List.take_length, (setP_srtd l).2];exact hp.mem_iff
set_option maxHeartbeats 8000000 in
theorem borderL_spec (c : SG) (s : List Int) (g : FuncId) (hen : Enters Tryz.prog g) (p : Ar → Bool) (hG : ∀ a, ASpec Tryz.prog g [arA a, .d (.ref [vI s])] [] (Pure1 (aT (p a)))) (hl : c.arcs.length ≤ 1000000) (hs : ∀ a, a ∈ c.arcs → -1000000 ≤ a.sig ∧ a.sig ≤ 1000000) : ASpec Tryz.prog 72 [sgA c, .clo g [.d (.ref [vI s])]] [] (Pure1 (.d (vKL (setP (bdK c p c.arcs.length))))) := by
 have hT := fun j (hj : j < c.arcs.length) => bdK_succ (p := p) hj
 have hTl := bdK_len c p;have ht0 : bdK c p 0 = [] := rfl;have hSo := sortFLab_spec (bdK c p c.arcs.length) (fun z h => bdK_in hs h) (by have := hTl c.arcs.length; omega);obtain ⟨K, hK⟩ := eqx (bdK c p);rw [← hK] at hTl ht0 hSo ⊢;have hT : ∀ j (hj : j < c.arcs.length), K (j + 1) = K j ++ (if p c.arcs[j] = true then [lbK ⟨c.arcs[j].sig, c.arcs[j].up⟩] else []) := by rw [hK]; exact hT
 clear hK hs;refine ASpec.of Tryz.func72 rfl rfl fun C hC => ?_
 refine AC.seq (AC.region ?_);refine kD ?_;refine za ?_;refine AL.nil (th_n (AC.seq (AC.region ?_)));refine AL.q (by exact h_lit rfl rfl rfl rfl rfl rfl rfl rfl) rfl ?_;refine AL.p (by exact as2 rfl) rfl ?_;refine AL.nil (th_n (AC.seq (AC.seq (AC.region ?_))));refine zf ?_;refine zr ?_;refine kI c.arcs.length (arL_len _) ?_;refine zm ?_;refine AL.nil (th_n (AC.block ?_));refine AC.loop (ι := Nat) (fun j => ⟨29, 300, [(1, .clo g [.d (.ref [vI s])]), (5, .own 100 (K j).length), (10, .d (vArs c.arcs)), (11, aI c.arcs.length), (12, aI j)], [(100, some (.arr 64 2 (kLs (K j))))]⟩) (fun j => j ≤ c.arcs.length) (fun j => c.arcs.length - j) (0) ?_ (Nat.zero_le _) ?_
 ·exact zw [(100, _)] hC (by rw [ht0]; repeat (first | exact True.intro | refine And.intro ?_ ?_ | exact DLead.same | exact rfl | refine ⟨_, rfl, ?_⟩ | refine ⟨_, _, rfl, ?_, ?_⟩)) (by rw [ht0]; repeat (first | exact True.intro | refine And.intro ?_ ?_ | exact rfl | refine ⟨_, _, rfl, rfl, ?_⟩))
 intro j hj;refine AC.seq (AC.region ?_);refine zc ?_;refine AL.nil (th_n (AC.seq ?_));refine AC.condD rfl (fun h0 => ?_) (fun h0 => ?_)
 ·refine AC.skip (th_n (AC.seq (AC.block (AC.seq ?_))));have hj1 : j < c.arcs.length := by omega
  have hget := arL_get hj1;have hTj := hT j hj1;have hTlj := hTl j;obtain ⟨a, ha⟩ := eqx (c.arcs[j]);rw [← ha] at hget hTj;clear ha;have hLo := labelOfArc_spec a;have hGa := hG a;obtain ⟨b, hb⟩ := eqx (p a);rw [← hb] at hTj hGa;obtain ⟨T, hTT⟩ := eqx (K j);rw [← hTT] at hTj hTlj ⊢;have hkk : T.map kLb ++ [⟨a.sig, a.up⟩] = (T ++ [lbK ⟨a.sig, a.up⟩]).map kLb := by rw [List.map_append, List.map_singleton, kLb_lbK]
  have hll : (T.map kLb ++ [(⟨a.sig, a.up⟩ : Lab)]).length = (T ++ [lbK ⟨a.sig, a.up⟩]).length := by simp
  clear hTT hb;refine AC.region ?_;refine AL.p (by exact g_ia_view rfl rfl rfl rfl rfl (by rfl) (by assumption)) rfl ?_;refine kG ?_;refine kE ?_;refine zs ?_;refine AL.nil (th_n (AC.seq (AC.region ?_)));refine AL.p (by exact mv6 rfl) rfl ?_;refine AL.p (by exact g_load_ptrN rfl rfl rfl rfl rfl) rfl ?_;refine kV hen hGa ?_;refine AL.nil (th_n ?_);refine AC.condB rfl (fun h1 => ?_) (fun h1 => ?_)
  ·refine AC.region ?_;refine kB ?_;refine AL.p (by exact g_load_ptrN rfl rfl rfl rfl rfl) rfl ?_;refine kV en_labelOfArc hLo ?_;refine AL.q (by exact h_litF rfl rfl rfl rfl rfl rfl rfl rfl) rfl ?_;refine AL.q (by exact h_appendLx (T.map kLb) [⟨a.sig, a.up⟩] (.own rfl rfl (by rw [kL_len])) (.view rfl) (by rw [List.length_append, List.length_map]; simp only [List.length_cons, List.length_nil]; omega) (by simp)) rfl ?_;refine AL.p (by exact as2 rfl) rfl ?_;refine AL.nil (ib_n (th_n (AC.region ?_)));refine zA ?_;refine zm ?_;refine AL.nil (th_n ?_)
   (have q := ‹b = true›; rw [if_pos q] at hTj; exact ⟨j + 1, by omega, by omega, Weak.ren _ [(100, _)] hC rfl (by rw [hTj, ← hll]; repeat (first | exact True.intro | refine And.intro ?_ ?_ | exact DLead.same | exact rfl | refine ⟨_, rfl, ?_⟩ | refine ⟨_, _, rfl, ?_, ?_⟩)) (by rw [hTj]; unfold kLs; rw [← hkk]; repeat (first | exact True.intro | refine And.intro ?_ ?_ | exact rfl | refine ⟨_, _, rfl, rfl, ?_⟩)) rfl rfl rfl⟩)
  refine AC.skip (ib_n (th_n (AC.region ?_)));refine zA ?_;refine zm ?_;refine AL.nil (th_n ?_)
  (have q := ‹b = false›; rw [if_neg (by rw [q]; decide), List.append_nil] at hTj; exact ⟨j + 1, by omega, by omega, zw [(100, 100)] hC (by rw [hTj]; repeat (first | exact True.intro | refine And.intro ?_ ?_ | exact DLead.same | exact rfl | refine ⟨_, rfl, ?_⟩ | refine ⟨_, _, rfl, ?_, ?_⟩)) (by rw [hTj]; repeat (first | exact True.intro | refine And.intro ?_ ?_ | exact rfl | refine ⟨_, _, rfl, rfl, ?_⟩))⟩)
 refine AC.exit (th_e (th_e (ib_y (th_n (AC.seq ?_)))));have hjj : j = c.arcs.length := by omega
 rw [hjj];obtain ⟨L, hL⟩ := eqx (K c.arcs.length);have hTll := hTl c.arcs.length;rw [← hL] at hSo hTll ⊢;refine AC.region ?_;refine kB ?_;refine AL.r (by exact h_funR (cs := [100]) en_sortFLab rfl rfl (by repeat (first | exact rfl | refine ⟨_, _, rfl, ?_, ?_⟩ | refine ⟨_, rfl, ?_⟩)) (by repeat (first | exact True.intro | refine And.intro ?_ ?_ | exact rfl | refine ⟨_, _, rfl, rfl, ?_⟩)) hSo rfl rfl rfl) rfl ?_;rintro _ ⟨_, _, ⟨l', hpm, hsr, rfl, rfl⟩, rfl⟩;refine AL.nil (th_n (AC.seq ?_));have hlen : L.length = l'.length := hpm.length_eq.symm;have hCo := compactLab_spec l' (by omega);have hdd := dd_setP hpm hsr;rw [hdd] at hCo;rw [hlen];refine AC.region ?_;refine kB ?_;refine kU [100] en_compactLab hCo ?_;refine AL.p (by exact as2 rfl) rfl ?_;refine AL.nil (th_n ?_);refine AC.weak (Weak.freeze (i := 4) rfl rfl (Nat.le_of_eq (kL_len _).symm) (List.take_of_length_le (Nat.le_of_eq (kL_len _)))) ?_;refine AC.ret (bq_r ?_);exact ret1 rfl rfl
theorem en_borderL : Enters Tryz.prog 72 := enters_of Tryz.func72 rfl rfl
theorem setQ_v {c : SG} {s : List Int} (h : setQ c s = true) : validC c = true := by unfold setQ at h; rw [Bool.and_eq_true] at h; exact h.2
theorem entB_br (s : List Int) (a : Ar) : entB s a = brB false s a := by unfold entB brB; cases sdB s a.from_ <;> cases sdB s a.to_ <;> rfl
theorem exiB_br (s : List Int) (a : Ar) : exiB s a = brB true s a := by unfold exiB brB; cases sdB s a.from_ <;> cases sdB s a.to_ <;> rfl
theorem iEntL_spec (c : SG) (s : List Int) (hs : s.length ≤ 1000000) (hc : SgL c) : ASpec Tryz.prog 22 [sgA c, .d (vI s)] [] (Pure1 (.tup [.d (vKL (brR c false s).1), aT (brR c false s).2])) := by
 have hH := isStateSet_spec c s (by omega) hc;have hE := fun h => borderL_spec c s 73 en_entL1 (entB s) (fun a => entL1_spec a s (by omega)) hc.a h
 rw [bdK_br c false s (entB s) (entB_br s)] at hE;have hV : setQ c s = true → ∀ a, a ∈ c.arcs → -1000000 ≤ a.sig ∧ a.sig ≤ 1000000 := fun h a ha => by have := arc_sig (setQ_v h) ha; omega
 have hR : brR c false s = if setQ c s = true then (brP c false s c.arcs.length, true) else ([], false) := rfl
 obtain ⟨b, e⟩ := eqx (setQ c s);rw [← e] at hH hR hV;obtain ⟨R, hRR⟩ := eqx (brR c false s);rw [← hRR] at hR ⊢;obtain ⟨L, hL⟩ := eqx (brP c false s c.arcs.length);rw [← hL] at hE hR;clear e hRR hL;refine ASpec.of Tryz.func22 rfl rfl fun C hC => ?_
 refine AC.seq (AC.region ?_);refine kD ?_;refine kD ?_;refine za ?_;refine za ?_;refine AL.nil (th_n (AC.seq (AC.seq (AC.region ?_))));refine kG ?_;refine zr ?_;refine kV en_isStateSet hH ?_;refine kC ?_;refine AL.nil (th_n ?_);refine AC.condB rfl (fun h0 => ?_) (fun h0 => ?_)
 ·refine AC.seq (AC.region ?_);refine za ?_;refine za ?_;refine AL.nil (th_n (AC.ret (th_r (bq_r ?_))));have e : R = ([], false) := hR.trans (if_neg (by simpa using ‹(!b) = true›));exact ret0 rfl (by rw [e]; show AV.leads _ (.tup [.d (vKL []), aT false]) _; repeat (first | exact DLead.same | exact DLead.nil | exact rfl | refine ⟨_, rfl, ?_⟩ | refine ⟨_, _, rfl, ?_, ?_⟩))
 refine AC.skip (th_n (AC.seq ?_));have hb1 : b = true := by simpa using ‹(!b) = false›
 have hE1 := hE (hV hb1);refine AC.region ?_;refine kG ?_;refine AL.p (by exact g_fn rfl) rfl ?_;refine kV en_borderL hE1 ?_;refine za ?_;refine za ?_;refine AL.nil (th_n (AC.ret (bq_r ?_)));have e : R = (L, true) := hR.trans (if_pos (by simpa using ‹(!b) = false›));exact ret0 rfl (by rw [e]; show AV.leads _ (.tup [.d (vKL L), aT true]) _; repeat (first | exact DLead.same | exact rfl | refine ⟨_, rfl, ?_⟩ | refine ⟨_, _, rfl, ?_, ?_⟩))
theorem en_iEntL : Enters Tryz.prog 22 := enters_of Tryz.func22 rfl rfl
theorem iExiL_spec (c : SG) (s : List Int) (hs : s.length ≤ 1000000) (hc : SgL c) : ASpec Tryz.prog 24 [sgA c, .d (vI s)] [] (Pure1 (.tup [.d (vKL (brR c true s).1), aT (brR c true s).2])) := by
 have hH := isStateSet_spec c s (by omega) hc;have hE := fun h => borderL_spec c s 77 en_exiL1 (exiB s) (fun a => exiL1_spec a s (by omega)) hc.a h
 rw [bdK_br c true s (exiB s) (exiB_br s)] at hE;have hV : setQ c s = true → ∀ a, a ∈ c.arcs → -1000000 ≤ a.sig ∧ a.sig ≤ 1000000 := fun h a ha => by have := arc_sig (setQ_v h) ha; omega
 have hR : brR c true s = if setQ c s = true then (brP c true s c.arcs.length, true) else ([], false) := rfl
 obtain ⟨b, e⟩ := eqx (setQ c s);rw [← e] at hH hR hV;obtain ⟨R, hRR⟩ := eqx (brR c true s);rw [← hRR] at hR ⊢;obtain ⟨L, hL⟩ := eqx (brP c true s c.arcs.length);rw [← hL] at hE hR;clear e hRR hL;refine ASpec.of Tryz.func24 rfl rfl fun C hC => ?_
 refine AC.seq (AC.region ?_);refine kD ?_;refine kD ?_;refine za ?_;refine za ?_;refine AL.nil (th_n (AC.seq (AC.seq (AC.region ?_))));refine kG ?_;refine zr ?_;refine kV en_isStateSet hH ?_;refine kC ?_;refine AL.nil (th_n ?_);refine AC.condB rfl (fun h0 => ?_) (fun h0 => ?_)
 ·refine AC.seq (AC.region ?_);refine za ?_;refine za ?_;refine AL.nil (th_n (AC.ret (th_r (bq_r ?_))));have e : R = ([], false) := hR.trans (if_neg (by simpa using ‹(!b) = true›));exact ret0 rfl (by rw [e]; show AV.leads _ (.tup [.d (vKL []), aT false]) _; repeat (first | exact DLead.same | exact DLead.nil | exact rfl | refine ⟨_, rfl, ?_⟩ | refine ⟨_, _, rfl, ?_, ?_⟩))
 refine AC.skip (th_n (AC.seq ?_));have hb1 : b = true := by simpa using ‹(!b) = false›
 have hE1 := hE (hV hb1);refine AC.region ?_;refine kG ?_;refine AL.p (by exact g_fn rfl) rfl ?_;refine kV en_borderL hE1 ?_;refine za ?_;refine za ?_;refine AL.nil (th_n (AC.ret (bq_r ?_)));have e : R = (L, true) := hR.trans (if_pos (by simpa using ‹(!b) = false›));exact ret0 rfl (by rw [e]; show AV.leads _ (.tup [.d (vKL L), aT true]) _; repeat (first | exact DLead.same | exact rfl | refine ⟨_, rfl, ?_⟩ | refine ⟨_, _, rfl, ?_, ?_⟩))
theorem en_iExiL : Enters Tryz.prog 24 := enters_of Tryz.func24 rfl rfl
section
variable {κ : Type} [DecidableEq κ]
def posK (k : κ) : List (κ × Value) → Option (Nat × Value)
 | [] => none
 | (a, v) :: es => if k = a then some (0, v) else (posK k es).map fun p => (p.1 + 1, p.2)
def setK (k : κ) (v : Value) : List (κ × Value) → List (κ × Value)
 | [] => [(k, v)]
 | (a, u) :: es => if k = a then (a, v) :: es else (a, u) :: setK k v es
def mkK (enc : κ → Value) (p : (κ × Value) × Nat) : MapEntry := ⟨enc p.1.1, p.1.2, p.2⟩
def mapK (enc : κ → Value) (es : List (κ × Value)) : Obj := .map (es.zipIdx.map (mkK enc)).toArray es.length
structure KeyOk (P : Program) (kt : TypeId) (enc : κ → Value) : Prop where
 kind : ∃ d, P.underlying kt = some d ∧ ∀ a b, Instr.sameNow d (enc a) (enc b) = none
 eq : ∀ a b w, (Op.equal kt (enc a) (enc b)).run P w = .ok (decide (a = b)) w
 chk : ∀ e a w, (Instr.checkKey e 10000 kt (enc a)).run P w = .ok () w
 same : ∀ a, Instr.sameBits 10000 (enc a) (enc a) = true
theorem posK_lt {k : κ} : ∀ {es : List (κ × Value)} {i : Nat} {v : Value}, posK k es = some (i, v) → ∃ h : i < es.length, es[i] = (k, v)
 | [], i, v, h => by cases h
 | (a, u) :: es, i, v, h => by
  rw [posK] at h
  split at h
  ·rename_i e;cases h;exact ⟨by simp, by rw [e]; rfl⟩
  cases hp : posK k es with
  | none => rw [hp] at h; cases h
  | some p =>
   obtain ⟨j, u2⟩ := p;rw [hp] at h;cases h;obtain ⟨h1, h2⟩ := posK_lt hp;exact ⟨by simpa using h1, by simpa using h2⟩
theorem setK_some {k : κ} {v : Value} : ∀ {es : List (κ × Value)} {i : Nat} {u : Value}, posK k es = some (i, u) → setK k v es = es.set i (k, v)
 | [], i, u, h => by cases h
 | (a, x) :: es, i, u, h => by
  rw [posK] at h;rw [setK]
  split at h
  ·rename_i e;cases h;rw [if_pos e, e]; rfl
  rename_i e;rw [if_neg e];cases hp : posK k es with
  | none => rw [hp] at h; cases h
  | some p =>
   obtain ⟨j, u2⟩ := p;rw [hp] at h;cases h;rw [setK_some hp]; rfl
theorem setK_none {k : κ} {v : Value} : ∀ {es : List (κ × Value)}, posK k es = none → setK k v es = es ++ [(k, v)]
 | [], h => rfl
 | (a, x) :: es, h => by
  rw [posK] at h;rw [setK]
  split at h
  ·cases h
  rename_i e;rw [if_neg e];cases hp : posK k es with
  | none => rw [setK_none hp]; rfl
  | some p => rw [hp] at h; cases h
theorem posK_set_self (k : κ) (v : Value) : ∀ es : List (κ × Value), (posK k (setK k v es)).map (·.2) = some v
 | [] => by simp [setK, posK]
 | (a, u) :: es => by
  rw [setK]
  by_cases h : k = a
  ·rw [if_pos h, posK, if_pos h]; rfl
  rw [if_neg h, posK, if_neg h, Option.map_map];exact posK_set_self k v es
theorem posK_set_ne {k j : κ} (v : Value) (hn : j ≠ k) : ∀ es : List (κ × Value), (posK j (setK k v es)).map (·.2) = (posK j es).map (·.2)
 | [] => by simp [setK, posK, hn]
 | (a, u) :: es => by
  rw [setK]
  by_cases h : k = a
  ·rw [if_pos h, posK, posK, ← h, if_neg hn, if_neg hn]
  rw [if_neg h, posK, posK]
  split
  ·rfl
  rw [Option.map_map, Option.map_map];exact posK_set_ne v hn es
variable {P : Program} {enc : κ → Value} {kt : TypeId}
theorem run_findAsking (hK : KeyOk P kt enc) (w : World) (k : κ) : ∀ (es : List (κ × Value)) (n i : Nat), (Instr.findAsking kt (enc k) ((es.zipIdx n).map (mkK enc)) i).run P w = .ok ((posK k es).map fun p => (i + p.1, p.2)) w
 | [], n, i => rfl
 | (a, v) :: es, n, i => by
  rw [List.zipIdx_cons, List.map_cons, Instr.findAsking, posK, Sem.run_bind];show ((Op.equal kt (enc k) (enc a)).run P w).andThen _ = _;rw [hK.eq k a w, Result.andThen_ok]
  by_cases h : k = a
  ·rw [if_pos h, decide_eq_true h, if_pos rfl]; simp [mkK]
  rw [if_neg h, decide_eq_false h, if_neg (by decide), run_findAsking hK w k es (n + 1) (i + 1)];cases posK k es <;> simp;omega
theorem run_findKey_K (hK : KeyOk P kt enc) (w : World) (k : κ) (es : List (κ × Value)) : (Instr.findKey kt (enc k) (es.zipIdx.map (mkK enc))).run P w = .ok (posK k es) w := by
 obtain ⟨d, hd, hs⟩ := hK.kind;have hf := run_findAsking hK w k es 0 0;unfold Instr.findKey;rw [Sem.run_bind, run_underlying hd, Result.andThen_ok];cases es with
 | nil => rfl
 | cons e es =>
  rw [List.zipIdx_cons, List.map_cons] at hf ⊢;rw [Instr.findNow, show Instr.sameNow d (enc k) (mkK enc (e, 0)).key = none from hs _ _];show (Instr.findAsking kt (enc k) _ 0).run P w = _;rw [hf];cases posK k (e :: es) <;> simp
theorem run_lookup_K (hK : KeyOk P kt enc) {w : World} {t et : TypeId} {es : List (κ × Value)} {b : Nat} {k : κ} {z : Value} (hu : P.underlying t = some (.map kt et)) (hz : (zeroValue et).run P w = .ok z w) (hb : w.heap[b]? = some (mapK enc es)) :
  (Instr.lookup t (.map (some b)) (enc k) true).run P w = .ok (match posK k es with | some p => .tuple #[p.2, .bool true] | none => .tuple #[z, .bool false]) w := by
 have hc := fun e => hK.chk e k w
 have hf := run_findKey_K hK w k es;have hb' : w.heap[b]? = some (.map (es.zipIdx.map (mkK enc)).toArray es.length) := hb;cases hp : posK k es with
 | none =>
  rw [hp] at hf;simp [Instr.lookup, run_underlying hu, MapKept.run_getObj_map hb', hc, hf, hz, Result.andThen]
 | some p =>
  rw [hp] at hf;simp [Instr.lookup, run_underlying hu, MapKept.run_getObj_map hb', hc, hf, Result.andThen]
theorem run_mapUpdate_K (hK : KeyOk P kt enc) {w : World} {t et : TypeId} {es : List (κ × Value)} {b : Nat} {k : κ} {v : Value} (hu : P.underlying t = some (.map kt et)) (hb : w.heap[b]? = some (mapK enc es)) :
  (Instr.mapUpdate t (.map (some b)) (enc k) v).run P w = .ok () { w with heap := w.heap.setIfInBounds b (mapK enc (setK k v es)) } := by
 have hc := hK.chk false k w;have hf := run_findKey_K hK w k es;have hb' : w.heap[b]? = some (.map (es.zipIdx.map (mkK enc)).toArray es.length) := hb;cases hp : posK k es with
 | none =>
  rw [hp] at hf
  have e : mapK enc (setK k v es) = .map ((es.zipIdx.map (mkK enc)).toArray.push ⟨enc k, v, es.length⟩) (es.length + 1) := by
   unfold mapK;rw [setK_none hp, List.zipIdx_append, List.map_append, List.length_append];simp [mkK]
  simp [Instr.mapUpdate, run_underlying hu, MapKept.run_getObj_map hb', hc, hf, MapKept.run_setObj_map _ hb', Result.andThen, e]
 | some p =>
  obtain ⟨i, u⟩ := p;rw [hp] at hf;obtain ⟨hi, he⟩ := posK_lt hp;have hks : (Instr.keyThatStays (enc k) (enc k)).run P w = .ok (enc k) w := by unfold Instr.keyThatStays; rw [if_pos (hK.same k)]; rfl
  have e : mapK enc (setK k v es) = .map ((es.zipIdx.map (mkK enc)).toArray.modify i fun e => { e with key := enc k, val := v }) es.length := by
   unfold mapK;rw [setK_some hp, List.length_set];congr 1
   apply Array.ext_getElem?
   intro j;rw [Array.getElem?_modify, List.getElem?_toArray, List.getElem?_toArray, List.getElem?_map, List.getElem?_map, List.getElem?_zipIdx, List.getElem?_zipIdx, List.getElem?_set]
   by_cases hj : i = j
   ·subst hj;rw [if_pos rfl, if_pos hi, List.getElem?_eq_getElem hi, if_pos rfl];simp [mkK]
   rw [if_neg hj, if_neg hj]
  have hei : es[i]? = some (k, u) := by rw [List.getElem?_eq_getElem hi, he]
  simp [Instr.mapUpdate, run_underlying hu, MapKept.run_getObj_map hb', hc, hf, hei, mkK, hks, MapKept.run_setObj_map _ hb', Result.andThen, e]
end
section
variable {κ : Type} [DecidableEq κ] {P : Program} [PT P] {s : ASt} {dst : Option Nat} {ty : Nat} {pos : String} {af : Array Edge} {gd : Option (Nat × Bool)} {x y z : Operand} {f t : Nat} {enc : κ → Value}
theorem h_makeMapK : NOp P [] s ⟨dst, .makeMap t none, ty, pos, af, gd⟩ f ⟨.mp f, [(f, some (.obj (mapK enc [])))]⟩ := by
 refine NOp.value fun s' ha C U U' a w m hR hU hU' hd => ?_
 refine ⟨.map (some w.heap.size), w.alloc (.map #[] 0), _, ?_, hR.new (cap := 0) hd _ (by simpa using hU 0 (by omega)) (fun j hj => by have := hU' j hj; exact ⟨this.1, by omega⟩) (fun F' hF => ⟨.mp (newM_self _ _ _), .obj (heap_alloc_new w _)⟩)⟩;simp only [execOp, Option.map_none];rw [Sem.run_bind, run_makeMap_plain]
 rfl
theorem g_lookupK {id kt et : Nat} {es : List (κ × Value)} {k : κ} {ky : AV} {z : Value} {v : Value} {b : Bool} (hK : KeyOk P kt enc) (hu : P.underlying t = some (.map kt et)) (hz : (P.info? et).bind (·.zero) = some z) (hx : s.ev x = .mp id) (hc : s.chunk id = some (.obj (mapK enc es))) (hy : s.ev y = ky) (hky : ∀ m F w u, ARep m F w ky u → u = enc k)
  (hv : (match posK k es with | some p => (p.2, true) | none => (z, false)) = (v, b)) (hok : okV v) : GOp P [id] s ⟨dst, .lookup t x y true, ty, pos, af, gd⟩ (.tup [.d (.val v), aT b]) := by
 refine ⟨fun s' ha C U a w m hR => ?_⟩;have hxr := hR.ev x;rw [ha.2.1 x (by simp [Op.operands]), hx] at hxr;have hyr := hR.ev y;rw [ha.2.1 y (by simp [Op.operands]), hy] at hyr;have hyr := hky _ _ _ _ hyr;have hc' : s'.chunk id = some (.obj (mapK enc es)) := by rw [ha.2.2 id (by simp)]; exact hc
 generalize hxv : a.eval x = xv at hxr;cases hxr with
 | mp hp =>
  rename_i bk cap;have hC := hR.chunkAt hc' hp;cases hC with
  | obj hbl =>
   have hrun := run_lookup_K (k := k) hK hu (run_zero hz) hbl;refine ⟨.tuple #[v, .bool b], ?_, .tup rfl fun i c hi => ?_⟩
   ·simp only [execOp, hxv, hyr, Sem.run_bind, hrun];cases hp2 : posK k es with
    | none => rw [hp2] at hv; cases hv; rfl
    | some p => rw [hp2] at hv; cases hv; rfl
   match i with
   | 0 => cases hi; exact .d (.val hok)
   | 1 => cases hi; exact .d (.val trivial)
   | i + 2 => simp at hi
theorem h_mapUpdateK {id kt et : Nat} {es : List (κ × Value)} {k : κ} {ky : AV} {v : Value} (hK : KeyOk P kt enc) (hu : P.underlying t = some (.map kt et)) (hx : s.ev x = .mp id) (hc : s.chunk id = some (.obj (mapK enc es))) (hy : s.ev y = ky) (hky : ∀ m F w u, ARep m F w ky u → u = enc k) (hz : s.ev z = .d (.val v)) :
  NOp P [id] s ⟨dst, .mapUpdate t x y z, ty, pos, af, gd⟩ f ⟨.dead, [(id, some (.obj (mapK enc (setK k v es))))]⟩ := by
 refine ⟨fun s' ha C U U' a w m hR hU hU' hd K Q hK' => ?_⟩;have hxr := hR.ev x;rw [ha.2.1 x (by simp [Op.operands]), hx] at hxr;have hyr := hR.ev y;rw [ha.2.1 y (by simp [Op.operands]), hy] at hyr;have hyr := hky _ _ _ _ hyr;have hzr := hR.ev z;rw [ha.2.1 z (by simp [Op.operands]), hz] at hzr;have hc' : s'.chunk id = some (.obj (mapK enc es)) := by rw [ha.2.2 id (by simp)]; exact hc
 generalize hxv : a.eval x = xv at hxr;cases hxr with
 | mp hp =>
  rename_i b cap;have hC := hR.chunkAt hc' hp;cases hC with
  | obj hbl =>
   have hrun := run_mapUpdate_K (k := k) (v := v) hK hu hbl;have hR' := hR.turned (i := dst) (r := .dead) (v := undef) (w' := { w with heap := w.heap.setIfInBounds b (mapK enc (setK k v es)) }) (c' := .obj (mapK enc (setK k v es))) hd hc' hp (fr_iter w b _) (fun F' hF => ⟨.dead, .obj (by show (w.heap.setIfInBounds b _)[b]? = _; rw [Array.getElem?_setIfInBounds_self_of_lt (Array.getElem?_eq_some_iff.1 hbl).1])⟩);unfold Oper.wp;simp only [execOp, Sem.run_bind, hxv, hyr, hzr.val_eq.1, hrun, Result.andThen_ok, Sem.run_pure, Oper.upon];exact hK' _ _ m (hR'.weaken rfl (fun _ => .inr rfl) (fun _ _ h => h) (fun j hj => (hU' j hj).1))
end
def encIB (x : Int × Bool) : Value := .agg #[.int .i64 x.1, .bool x.2]
def keyIB (P : Program) (t : Nat) : Bool :=
 match P.underlying t with
 | some (.struct fs) =>
   match fs.toList with
   | [f, g] => f.name != "_" && g.name != "_" && P.plainKey f.type && P.plainKey g.type && f.offset == 0 && g.offset == 1 &&
    (match P.underlying f.type with | some (.int _) => true | _ => false) && (match P.underlying g.type with | some .bool => true | _ => false)
   | _ => false
 | _ => false
theorem ib_is {m : Nat → Option (Option Nat × Nat)} {F : Nat → Prop} {w : World} {a : Int} {b : Bool} {v : Value} (h : ARep m F w (.agg [aI a, aT b]) v) : v = encIB (a, b) := ib_agg h
theorem keyOk_IB {P : Program} [PT P] {t : Nat} (h : intBool P t = true) (h2 : keyIB P t = true) : KeyOk P t encIB := by
 refine ⟨?_, ?_, ?_, ?_⟩
 ·unfold keyIB at h2
  split at h2
  ·rename_i fs hu;exact ⟨_, hu, fun _ _ => rfl⟩
  exact absurd h2 (by decide)
 ·rintro ⟨a, b⟩ ⟨c, d⟩ w;have := (equalIB (a := a) (b := b) (c := c) (d := d) h w).1;show (Op.equalIn 10000 t _ _).run P w = _;rw [show encIB (a, b) = .agg #[.int .i64 a, .bool b] from rfl, show encIB (c, d) = .agg #[.int .i64 c, .bool d] from rfl, this];congr 1;exact decide_eq_decide.2 (by rw [Prod.mk.injEq])
 ·rintro e ⟨a, b⟩ w;unfold keyIB at h2
  split at h2
  ·rename_i fs hu
   split at h2
   ·rename_i f g he;simp only [Bool.and_eq_true, bne_iff_ne, ne_eq, beq_iff_eq] at h2;obtain ⟨⟨⟨⟨⟨⟨⟨n1, n2⟩, p1⟩, p2⟩, o1⟩, o2⟩, u1⟩, u2⟩ := h2
    split at u1
    ·rename_i k1 hu1
     split at u2
     ·rename_i hu2
      have c1 : ∀ v, (Instr.checkKey e 9999 f.type v).run P w = .ok () w := fun v => by
       rw [Instr.checkKey, Sem.run_bind, run_underlying hu1, Result.andThen_ok]; rfl
      have c2 : ∀ v, (Instr.checkKey e 9999 g.type v).run P w = .ok () w := fun v => by
       rw [Instr.checkKey, Sem.run_bind, run_underlying hu2, Result.andThen_ok]; rfl
      have hfs : fs = #[f, g] := by rw [← he]
      rw [Instr.checkKey, Sem.run_bind, run_underlying hu, Result.andThen_ok, hfs];simp only [encIB];rw [← Array.forIn_toList];simp only [List.forIn_cons, List.forIn_nil, ne_eq, n1, n2, not_false_eq_true, if_true, o1, o2, Sem.run_bind];rw [run_part_plain (w := w) p1 (v := .int .i64 a) rfl];simp only [Result.andThen_ok, c1, Sem.run_bind, Sem.run_pure];rw [run_part_plain (w := w) p2 (v := .bool b) rfl];simp only [Result.andThen_ok, c2, Sem.run_bind, Sem.run_pure]
     exact absurd u2 (by decide)
    exact absurd u1 (by decide)
   exact absurd h2 (by decide)
  exact absurd h2 (by decide)
 rintro ⟨a, b⟩;simp [encIB, Instr.sameBits]
def lbP (a : Ar) : Int × Bool := (a.sig, a.up)
def esM (s : List Int) (L : List Ar) : List ((Int × Bool) × Value) := L.foldl (fun es a => setK (lbP a) (.int .i64 (crA s a)) es) []
theorem esM_snoc (s : List Int) (L : List Ar) (a : Ar) : esM s (L ++ [a]) = setK (lbP a) (.int .i64 (crA s a)) (esM s L) := by unfold esM; rw [List.foldl_append]; rfl
theorem esM_at (s : List Int) (c : List Ar) (k : Int × Bool) : ∀ i, i ≤ c.length → ((posK k (esM s (c.take i))).map (·.2) = none ∧ ∀ j, j < i → lbP (arAt c j) ≠ k) ∨ ∃ j, j < i ∧ lbP (arAt c j) = k ∧ (posK k (esM s (c.take i))).map (·.2) = some (.int .i64 (crA s (arAt c j)))
 | 0, _ => .inl ⟨rfl, fun j h => absurd h (Nat.not_lt_zero _)⟩
 | i + 1, h => by
  have ih := esM_at s c k i (by omega);have e : c.take (i + 1) = c.take i ++ [arAt c i] := by rw [List.take_add_one, List.getElem?_eq_getElem (show i < c.length by omega), arAt_nat (show i < c.length by omega)]; rfl
  rw [e, esM_snoc]
  by_cases hk : lbP (arAt c i) = k
  ·refine .inr ⟨i, Nat.lt_succ_self _, hk, ?_⟩;rw [hk]; exact posK_set_self k _ _
  rw [posK_set_ne _ (Ne.symm hk)];rcases ih with ⟨h1, h2⟩ | ⟨j, hj, h1, h2⟩
  ·exact .inl ⟨h1, fun j hj => by rcases Nat.lt_succ_iff_lt_or_eq.1 hj with q | rfl; exact h2 j q; exact hk⟩
  exact .inr ⟨j, by omega, h1, h2⟩
theorem isLb_lbP {a b : Ar} : isLb ⟨a.sig, a.up⟩ b = true ↔ lbP b = lbP a := by
 unfold isLb lbP;rw [Bool.and_eq_true, decide_eq_true_eq, decide_eq_true_eq, Prod.mk.injEq]
theorem rgnB_f {s : List Int} {a b : Ar} : rgnB s a b = false ↔ (0 ≤ a.sig → lbP b = lbP a → crA s a = crA s b) := by
 rw [← isLb_lbP];unfold rgnB;cases isLb ⟨a.sig, a.up⟩ b with
 | false => simp
 | true =>
  by_cases h0 : 0 ≤ a.sig
  ·simp [h0]
  simp [h0]
theorem key_IB {m : Nat → Option (Option Nat × Nat)} {F : Nat → Prop} {w : World} {u : Value} {a : Ar} (h : ARep m F w (.agg [aI a.sig, aT a.up]) u) : u = encIB (lbP a) := ib_is h
def LkP (s : List Int) (c : List Ar) (k : Int × Bool) (i : Nat) (y : Int) (b : Bool) : Prop := (b = false ∧ y = 0 ∧ ∀ j, j < i → lbP (arAt c j) ≠ k) ∨ (b = true ∧ ∃ j, j < i ∧ lbP (arAt c j) = k ∧ y = crA s (arAt c j))
theorem lookM (s : List Int) (c : List Ar) (k : Int × Bool) (i : Nat) (hi : i ≤ c.length) : ∃ (y : Int) (b : Bool), (match posK k (esM s (c.take i)) with | some p => (p.2, true) | none => (Value.int .i64 0, false)) = (.int .i64 y, b) ∧ okV (.int .i64 y) ∧ LkP s c k i y b := by
 rcases esM_at s c k i hi with ⟨h1, h2⟩ | ⟨j, hj, h1, h2⟩
 ·refine ⟨0, false, ?_, wrap_i64 (by omega), .inl ⟨rfl, rfl, h2⟩⟩;cases hp : posK k (esM s (c.take i)) with
  | none => rfl
  | some p => rw [hp] at h1; cases h1
 have hb : 0 ≤ crA s (arAt c j) ∧ crA s (arAt c j) ≤ 2 := by
  show 0 ≤ crV _ _ ∧ crV _ _ ≤ 2;unfold crV; cases sdB s (arAt c j).from_ <;> cases sdB s (arAt c j).to_ <;> decide
 refine ⟨crA s (arAt c j), true, ?_, wrap_i64 (by omega), .inr ⟨rfl, j, hj, h1, rfl⟩⟩;cases hp : posK k (esM s (c.take i)) with
 | none => rw [hp] at h2; cases h2
 | some p => rw [hp] at h2; have h3 : p.2 = _ := Option.some.inj h2; exact Prod.ext h3 rfl
theorem rgn_no {c : SG} {s : List Int} {i : Nat} {a : Ar} {y kd : Int} {b : Bool} (hi : i < c.arcs.length) (hAi : arAt c.arcs i = a) (hkd : kd = crA s a) (hyr : LkP s c.arcs (lbP a) i y b) (q1 : b = true) (q2 : ¬ y = kd) (q3 : a.sig ≥ 0) : rgnA c s = false := by
 cases h : rgnA c s with
 | false => rfl
 | true =>
  obtain ⟨_, j, hj, h1, h2⟩ := hyr.resolve_left (fun q => by rw [q1] at q; exact absurd q.1 (by decide));have := rgnB_f.1 (rgnA_iff.1 h i j hi hj);rw [hAi] at this;exact absurd (h2.trans (hkd.trans (this q3 h1)).symm) q2
theorem rgn_yes {c : SG} {s : List Int} {i : Nat} {a : Ar} {y kd : Int} {b : Bool} (hall : ∀ p q, p < i → q < p → rgnB s (arAt c.arcs p) (arAt c.arcs q) = false) (hkd : kd = crA s a) (hyr : LkP s c.arcs (lbP a) i y b) (hc : b = false ∨ ¬ a.sig ≥ 0 ∨ y = kd) : ∀ q, q < i → rgnB s a (arAt c.arcs q) = false := by
 intro q hq;refine rgnB_f.2 fun h0 hl => ?_
 rcases hyr with ⟨hb, _, h2⟩ | ⟨hb, j, hj, h1, h2⟩
 ·exact absurd hl (h2 q hq)
 have hyk2 : y = kd := by
  rcases hc with h | h | h
  ·rw [hb] at h; cases h
  ·exact absurd h0 h
  exact h
 have e : crA s (arAt c.arcs q) = crA s (arAt c.arcs j) := by
  have hsg : (arAt c.arcs q).sig = a.sig := congrArg Prod.fst hl;have hsj : (arAt c.arcs j).sig = a.sig := congrArg Prod.fst h1;rcases Nat.lt_trichotomy q j with w | w | w
  ·exact (rgnB_f.1 (hall j q hj w) (by omega) (hl.trans h1.symm)).symm
  ·rw [w]
  exact rgnB_f.1 (hall q j hq w) (by omega) (h1.trans hl.symm)
 rw [e, ← h2, hyk2, hkd]
set_option maxHeartbeats 8000000 in
theorem iIsR_spec (c : SG) (s : List Int) (hs : s.length ≤ 1000000) (hc : SgL c) : ASpec Tryz.prog 27 [sgA c, .d (vI s)] [] (Pure1 (.tup [aT (rgnR c s).1, aT (rgnR c s).2])) := by
 have hH := isStateSet_spec c s (by omega) hc;have hl := hc.a;have hE := fun a => enters_spec a s (by omega)
 have hL := fun a => leaves_spec a s (by omega)
 have hI := @rgnA_iff c s;have hR : rgnR c s = if setQ c s = true then (rgnA c s, true) else (false, false) := rfl
 obtain ⟨b0, e⟩ := eqx (setQ c s);rw [← e] at hH hR;obtain ⟨R, hRR⟩ := eqx (rgnR c s);rw [← hRR] at hR ⊢;clear e hRR;have hAt := fun k i (hi : i ≤ c.arcs.length) => lookM s c.arcs k i hi
 have hSn := esM_snoc s;have hM0 : esM s (c.arcs.take 0) = [] := rfl;obtain ⟨M, hM⟩ := eqx (esM s);rw [← hM] at hAt hSn hM0;have hK := keyOk_IB (P := Tryz.prog) (t := 64) (by decide +kernel) (by decide +kernel);clear hM;refine ASpec.of Tryz.func27 rfl rfl fun C hC => ?_
 refine AC.seq (AC.region ?_);refine kD ?_;refine za ?_;refine za ?_;refine AL.nil (th_n (AC.seq (AC.seq (AC.region ?_))));refine kG ?_;refine zm ?_;refine kV en_isStateSet hH ?_;refine kC ?_;refine AL.nil (th_n ?_);refine AC.condB rfl (fun h0 => ?_) (fun h0 => ?_)
 ·refine AC.seq (AC.region ?_);refine za ?_;refine za ?_;refine AL.nil (th_n (AC.ret (th_r (bq_r ?_))));have e : R = (false, false) := hR.trans (if_neg (by simpa using ‹(!b0) = true›));exact ret0 rfl (by rw [e]; show AV.leads _ (.tup [aT false, aT false]) _; repeat (first | exact DLead.same | exact rfl | refine ⟨_, rfl, ?_⟩ | refine ⟨_, _, rfl, ?_, ?_⟩))
 refine AC.skip (th_n (AC.seq ?_));have hb1 : b0 = true := by simpa using ‹(!b0) = false›
 rw [if_pos hb1] at hR;refine AC.region ?_;refine AL.q (by exact h_makeMapK (enc := encIB)) rfl ?_;refine AL.p (by exact as11 rfl) rfl ?_;refine AL.nil (th_n (AC.seq (AC.seq (AC.region ?_))));refine zf ?_;refine zr ?_;refine kI c.arcs.length (arL_len _) ?_;refine zm ?_;refine AL.nil (th_n (AC.block ?_));refine AC.loop (ι := Nat) (fun i => ⟨56, 300, [(1, .d (vI s)), (2, .d (.ref (sgD c))), (6, .mp 200), (19, .d (vArs c.arcs)), (20, aI c.arcs.length), (21, aI i)], [(200, some (.obj (mapK encIB (M (c.arcs.take i)))))]⟩) (fun i => i ≤ c.arcs.length ∧ ∀ p q, p < i → q < p → rgnB s (arAt c.arcs p) (arAt c.arcs q) = false) (fun i => c.arcs.length - i) (0) ?_ (⟨Nat.zero_le _, fun p q h => absurd h (Nat.not_lt_zero _)⟩) ?_
 ·exact zw [(200, _)] hC (b := by rw [hM0]; repeat (first | exact True.intro | refine And.intro ?_ ?_ | exact rfl | refine ⟨_, _, rfl, rfl, ?_⟩))
 rintro i ⟨hi, hall⟩;refine AC.seq (AC.region ?_);refine zc ?_;refine AL.nil (th_n (AC.seq ?_));refine AC.condD rfl (fun h1 => ?_) (fun h1 => ?_)
 ·refine AC.skip (th_n (AC.seq (AC.block (AC.seq ?_))));have hi1 : i < c.arcs.length := by omega
  have hget := arL_get hi1;have hAi := arAt_nat hi1;have htk : c.arcs.take (i + 1) = c.arcs.take i ++ [arAt c.arcs i] := by rw [List.take_add_one, List.getElem?_eq_getElem hi1, hAi]; rfl
  have hSi := hSn (c.arcs.take i) (arAt c.arcs i);rw [← htk] at hSi;have hPos := hAt (lbP (arAt c.arcs i)) i hi;rw [hAi] at hSi hPos;obtain ⟨a, ha⟩ := eqx (c.arcs[i]);rw [← ha] at hget hAi hSi hPos;clear ha htk;have hEa := hE a;have hLa := hL a;have hCr : crA s a = crV (sdB s a.from_) (sdB s a.to_) := rfl;have hcrb : 0 ≤ crA s a ∧ crA s a ≤ 2 := by rw [hCr]; unfold crV; cases sdB s a.from_ <;> cases sdB s a.to_ <;> decide
  rw [show entB s a = (!sdB s a.from_ && sdB s a.to_) from rfl] at hEa;rw [show exiB s a = (sdB s a.from_ && !sdB s a.to_) from rfl] at hLa;obtain ⟨b1, m1⟩ := eqx (sdB s a.from_);obtain ⟨b2, m2⟩ := eqx (sdB s a.to_);rw [← m1, ← m2] at hCr hEa hLa;obtain ⟨kd, hkd⟩ := eqx (crA s a);rw [← hkd] at hSi hCr hcrb;obtain ⟨E1, hE1⟩ := eqx ((!b1 && b2));obtain ⟨E2, hE2⟩ := eqx ((b1 && !b2));rw [← hE1] at hEa;rw [← hE2] at hLa;clear m1 m2;refine AC.region ?_;refine AL.p (by exact g_ia_view rfl rfl rfl rfl rfl (by rfl) (by assumption)) rfl ?_;refine kG ?_;refine kE ?_;refine zs ?_;refine AL.nil (th_n (AC.seq (AC.region ?_)));refine za ?_;refine AL.nil (th_n ?_);refine AC.cut (fun (_ : Unit) => ⟨56, 600, [(1, .d (vI s)), (2, .d (.ref (sgD c))), (6, .mp 200), (8, .ptr 201 0), (9, aI kd), (19, .d (vArs c.arcs)), (20, aI c.arcs.length), (21, aI i)], [(200, some (.obj (mapK encIB (M (c.arcs.take i))))), (201, some (.cells 73 [aI a.from_, aI a.sig, aT a.up, aI a.to_]))]⟩) (fun _ => True) ?_ ?_
  ·refine AC.block (AC.seq (AC.region ?_));refine AL.p (by exact g_load_ptrN rfl rfl rfl rfl rfl) rfl ?_;refine zm ?_;refine kV en_enters hEa ?_;refine za ?_;refine AL.nil (th_n ?_);refine AC.condB rfl (fun h2 => ?_) (fun h2 => ?_)
   ·refine AC.region ?_;refine za ?_;refine AL.nil (ib_n (th_n ?_));refine ⟨(), trivial, ?_⟩
    (have q := ‹E1 = true›; have e : kd = 1 := (by rw [hCr]; revert q; rw [hE1]; cases b1 <;> cases b2 <;> decide); exact Weak.ren _ [(200, 200), (201, _)] hC rfl (by rw [e]; repeat (first | exact True.intro | refine And.intro ?_ ?_ | exact DLead.same | exact rfl | refine ⟨_, rfl, ?_⟩)) (by repeat (first | exact True.intro | refine And.intro ?_ ?_ | exact DLead.same | exact rfl | refine ⟨_, _, rfl, rfl, ?_⟩ | refine ⟨_, rfl, ?_⟩ | refine ⟨_, _, rfl, ?_, ?_⟩)) rfl rfl rfl)
   refine AC.seq (AC.region ?_);refine AL.p (by exact g_load_ptrN rfl rfl rfl rfl rfl) rfl ?_;refine zm ?_;refine kV en_leaves hLa ?_;refine za ?_;refine AL.nil (th_n ?_);refine AC.condB rfl (fun h3 => ?_) (fun h3 => ?_)
   ·refine AC.region ?_;refine za ?_;refine AL.nil (ib_n (th_n ?_));refine ⟨(), trivial, ?_⟩
    (have q := ‹E2 = true›; have e : kd = 2 := (by rw [hCr]; revert q; rw [hE2]; cases b1 <;> cases b2 <;> decide); exact Weak.ren _ [(200, 200), (201, _)] hC rfl (by rw [e]; repeat (first | exact True.intro | refine And.intro ?_ ?_ | exact DLead.same | exact rfl | refine ⟨_, rfl, ?_⟩)) (by repeat (first | exact True.intro | refine And.intro ?_ ?_ | exact DLead.same | exact rfl | refine ⟨_, _, rfl, rfl, ?_⟩ | refine ⟨_, rfl, ?_⟩ | refine ⟨_, _, rfl, ?_, ?_⟩)) rfl rfl rfl)
   refine AC.skip (ib_n (th_n ?_));refine ⟨(), trivial, ?_⟩
   (have q := ‹E2 = false›; have q1 := ‹E1 = false›; have e : kd = 0 := (by rw [hCr]; revert q q1; rw [hE2, hE1]; cases b1 <;> cases b2 <;> decide); exact Weak.ren _ [(200, 200), (201, _)] hC rfl (by rw [e]; repeat (first | exact True.intro | refine And.intro ?_ ?_ | exact DLead.same | exact rfl | refine ⟨_, rfl, ?_⟩)) (by repeat (first | exact True.intro | refine And.intro ?_ ?_ | exact DLead.same | exact rfl | refine ⟨_, _, rfl, rfl, ?_⟩ | refine ⟨_, rfl, ?_⟩ | refine ⟨_, _, rfl, ?_, ?_⟩)) rfl rfl rfl)
  intro _ _;have hLo := labelOfArc_spec a;refine AC.seq (AC.region ?_);refine AL.p (by exact g_load_ptrN rfl rfl rfl rfl rfl) rfl ?_;refine kV en_labelOfArc hLo ?_;refine kE ?_;refine zs ?_;refine AL.nil (th_n (AC.seq (AC.seq ?_)));refine AC.weak (t := ⟨56, 900, [(1, .d (vI s)), (2, .d (.ref (sgD c))), (6, .mp 200), (8, .ptr 201 0), (9, aI kd), (10, .ptr 202 0), (19, .d (vArs c.arcs)), (20, aI c.arcs.length), (21, aI i)], [(200, some (.obj (mapK encIB (M (c.arcs.take i))))), (201, some (.cells 73 [aI a.from_, aI a.sig, aT a.up, aI a.to_])), (202, some (.cells 64 [aI a.sig, aT a.up]))]⟩) (zw [(200, 200), (201, 201), (202, _)] hC) ?_;obtain ⟨y, b, hyb, hyk, hyr⟩ := hPos;refine AC.region ?_;refine AL.p (by exact mv11 rfl) rfl ?_;refine AL.p (by exact g_load_ptrN rfl rfl rfl rfl rfl) rfl ?_;refine AL.p (by exact g_lookupK (enc := encIB) (k := lbP a) (z := .int .i64 0) hK rfl rfl rfl rfl rfl (fun _ _ _ _ h => key_IB h) hyb hyk) rfl ?_;refine AL.p (by exact mv5 rfl) rfl ?_;refine AL.p (by exact g_extract (r := .d _) rfl rfl) rfl ?_;refine AL.p (by exact g_extract (r := .d _) rfl rfl) rfl ?_;refine za ?_;refine za ?_;refine AL.nil (th_n (AC.seq (AC.region ?_)));refine zm ?_;refine zm ?_;refine AL.caseGB rfl rfl (fun h2 => ?_) (fun h2 => ?_)
  ·refine zy ?_;refine zm ?_;refine zy ?_;refine zm ?_;refine zy ?_;refine zc ?_;refine zQ ?_;refine zm ?_;refine AL.caseGN rfl rfl (fun h3 => ?_) (fun h3 => ?_)
   ·refine zy ?_;refine zF ?_;refine zy ?_;refine zl ?_;refine zy ?_;refine zc ?_;refine zQ ?_;refine AL.nil (th_n ?_);refine AC.condD rfl (fun h4 => ?_) (fun h4 => ?_)
    ·refine AC.seq (AC.region ?_);refine za ?_;refine za ?_;refine AL.nil (th_n (AC.ret (th_r (ib_r (th_r (th_r (ib_r (th_r (bq_r ?_)))))))));have hf : rgnA c s = false := rgn_no hi1 hAi hkd hyr ‹b = true› ‹¬ y = kd› ‹a.sig ≥ 0›;exact ret0 rfl (by rw [hR, hf]; show AV.leads _ (.tup [aT false, aT true]) _; repeat (first | exact DLead.same | exact rfl | refine ⟨_, rfl, ?_⟩ | refine ⟨_, _, rfl, ?_, ?_⟩))
    refine AC.skip (th_n (AC.region ?_));refine AL.p (by exact mv11 rfl) rfl ?_;refine AL.p (by exact g_load_ptrN rfl rfl rfl rfl rfl) rfl ?_;refine zm ?_;refine AL.q (by exact h_mapUpdateK (enc := encIB) (k := lbP a) (v := .int .i64 kd) hK rfl rfl rfl rfl (fun _ _ _ _ h => key_IB h) rfl) rfl ?_;refine AL.nil (ib_n (th_n (AC.region ?_)));refine zA ?_;refine zm ?_;refine AL.nil (th_n ?_);have hnew : ∀ q, q < i → rgnB s a (arAt c.arcs q) = false := rgn_yes hall hkd hyr (by exact .inr (.inl ‹¬ a.sig ≥ 0›));exact ⟨i + 1, ⟨by omega, fun p q hp hq => by rcases Nat.lt_succ_iff_lt_or_eq.1 hp with w | w; (exact hall p q w hq); (rw [w, hAi]; exact hnew q (by omega))⟩, by omega, zw [(200, 200)] hC (b := by rw [hSi]; repeat (first | exact True.intro | refine And.intro ?_ ?_ | exact rfl | refine ⟨_, _, rfl, rfl, ?_⟩))⟩
   refine zn ?_;refine zn ?_;refine zn ?_;refine zP ?_;refine AL.nil (th_n ?_);refine AC.condF rfl ?_;refine AC.skip (th_n (AC.region ?_));refine AL.p (by exact mv11 rfl) rfl ?_;refine AL.p (by exact g_load_ptrN rfl rfl rfl rfl rfl) rfl ?_;refine zm ?_;refine AL.q (by exact h_mapUpdateK (enc := encIB) (k := lbP a) (v := .int .i64 kd) hK rfl rfl rfl rfl (fun _ _ _ _ h => key_IB h) rfl) rfl ?_;refine AL.nil (ib_n (th_n (AC.region ?_)));refine zA ?_;refine zm ?_;refine AL.nil (th_n ?_);have hnew : ∀ q, q < i → rgnB s a (arAt c.arcs q) = false := rgn_yes hall hkd hyr (by exact .inr (.inr ‹y = kd›));exact ⟨i + 1, ⟨by omega, fun p q hp hq => by rcases Nat.lt_succ_iff_lt_or_eq.1 hp with w | w; (exact hall p q w hq); (rw [w, hAi]; exact hnew q (by omega))⟩, by omega, zw [(200, 200)] hC (b := by rw [hSi]; repeat (first | exact True.intro | refine And.intro ?_ ?_ | exact rfl | refine ⟨_, _, rfl, rfl, ?_⟩))⟩
  refine zn ?_;refine zn ?_;refine zn ?_;refine zP ?_;refine zm ?_;refine zn ?_;refine zn ?_;refine zn ?_;refine zP ?_;refine AL.nil (th_n ?_);refine AC.condF rfl ?_;refine AC.skip (th_n (AC.region ?_));refine AL.p (by exact mv11 rfl) rfl ?_;refine AL.p (by exact g_load_ptrN rfl rfl rfl rfl rfl) rfl ?_;refine zm ?_;refine AL.q (by exact h_mapUpdateK (enc := encIB) (k := lbP a) (v := .int .i64 kd) hK rfl rfl rfl rfl (fun _ _ _ _ h => key_IB h) rfl) rfl ?_;refine AL.nil (ib_n (th_n (AC.region ?_)));refine zA ?_;refine zm ?_;refine AL.nil (th_n ?_);have hnew : ∀ q, q < i → rgnB s a (arAt c.arcs q) = false := rgn_yes hall hkd hyr (by exact .inl ‹b = false›);exact ⟨i + 1, ⟨by omega, fun p q hp hq => by rcases Nat.lt_succ_iff_lt_or_eq.1 hp with w | w; (exact hall p q w hq); (rw [w, hAi]; exact hnew q (by omega))⟩, by omega, zw [(200, 200)] hC (b := by rw [hSi]; repeat (first | exact True.intro | refine And.intro ?_ ?_ | exact rfl | refine ⟨_, _, rfl, rfl, ?_⟩))⟩
 refine AC.exit (th_e (th_e (ib_y (th_n (AC.seq (AC.region ?_))))));refine za ?_;refine za ?_;refine AL.nil (th_n (AC.ret (bq_r ?_)));have hii : i = c.arcs.length := by omega
 have hf : rgnA c s = true := hI.2 fun p q hp hq => hall p q (by omega) hq
 exact ret0 rfl (by rw [hR, hf]; show AV.leads _ (.tup [aT true, aT true]) _; repeat (first | exact DLead.same | exact rfl | refine ⟨_, rfl, ?_⟩ | refine ⟨_, _, rfl, ?_, ?_⟩))
theorem en_iIsR : Enters Tryz.prog 27 := enters_of Tryz.func27 rfl rfl
end Go.Proofs.YtbofmbjefbpnaaaGreat
