/- Contracts of the functions of the program and of the reference, each proved by a walk through its code. -/
import Derived.Test.YtiaieidhhlmfmaaGreatGPr5
set_option linter.all false
set_option maxRecDepth 20000
namespace Go.Proofs.YtiaieidhhlmfmaaGreat
open Go.RowKit
theorem osl (l : List Tx) : l.length ≤ (strsL l).length := Nat.le_of_eq (strsL_len _).symm
theorem ost (l : List Tx) : (strsL l).take l.length = strsL l := List.take_of_length_le (Nat.le_of_eq (strsL_len _))
def covN (n : Int) : Nat → Cur → List (List UInt8) → List (List UInt8) × Cur
 | 0, c, l => (l, c)
 | j + 1, c, l => covN n j (c.lits [48, 49, 45] n).2 (l ++ [(c.lits [48, 49, 45] n).1])
def badC (x : List UInt8) (i : Int) : List UInt8 := ([[], [120], x ++ [49]] : List (List UInt8)).getD i.toNat []
def endC (l : List (List UInt8)) (c : Cur) : List (List UInt8) × Cur := if (l.length : Int) > 0 then (if (c.pick 15).1 = 0 then (l.set 0 (badC (fst0 l) ((c.pick 15).2.pick 3).1), ((c.pick 15).2.pick 3).2) else (l, (c.pick 15).2)) else (l, c)
def Cur.cover (c : Cur) (n : Int) : List (List UInt8) × Cur := endC (covN n (c.pick 5).1.toNat (c.pick 5).2 []).1 (covN n (c.pick 5).1.toNat (c.pick 5).2 []).2
theorem endC_a {l : List (List UInt8)} {c : Cur} (h1 : (l.length : Int) > 0) (h2 : (c.pick 15).1 = 0) : endC l c = (l.set 0 (badC (fst0 l) ((c.pick 15).2.pick 3).1), ((c.pick 15).2.pick 3).2) := by rw [endC, if_pos h1, if_pos h2]
theorem endC_b {l : List (List UInt8)} {c : Cur} (h1 : (l.length : Int) > 0) (h2 : ¬ (c.pick 15).1 = 0) : endC l c = (l, (c.pick 15).2) := by rw [endC, if_pos h1, if_neg h2]
theorem endC_c {l : List (List UInt8)} {c : Cur} (h1 : ¬ (l.length : Int) > 0) : endC l c = (l, c) := if_neg h1
theorem badC_len (x : List UInt8) {i : Int} (h : 0 ≤ i ∧ i < 3) : (badC x i).length ≤ x.length + 1 := by
 have : i = 0 ∨ i = 1 ∨ i = 2 := by omega
 rcases this with rfl | rfl | rfl
 ·exact Nat.zero_le _
 ·show 1 ≤ _; omega
 show (x ++ [49]).length ≤ _; rw [List.length_append]; exact Nat.le_refl _
theorem bad_get (x : List UInt8) {i : Int} (h : 0 ≤ i ∧ i < 3) : ([[dS (bstr [])], [dS (bstr [120])], [dS (bstr (x ++ [49]))]] : List (List DV))[i.toNat]? = some [dS (bstr (badC x i))] := by
 have : i = 0 ∨ i = 1 ∨ i = 2 := by omega
 rcases this with rfl | rfl | rfl <;> rfl
theorem covN_in (n : Int) (hn : n ≤ 10) : ∀ (j : Nat) (c : Cur) (l : List (List UInt8)), (∀ x, x ∈ l → x.length = n.toNat) → (covN n j c l).1.length = l.length + j ∧ (∀ x, x ∈ (covN n j c l).1 → x.length = n.toNat) ∧ (covN n j c l).2.pos ≤ c.pos + 20 * j
 | 0, c, l, h => ⟨rfl, h, Nat.le_refl _⟩
 | j + 1, c, l, h => by
  have h1 := c.lits_in [48, 49, 45] n
  have h2 := covN_in n hn j (c.lits [48, 49, 45] n).2 (l ++ [(c.lits [48, 49, 45] n).1]) (fun x hx => by
   rcases List.mem_append.1 hx with q | q
   ·exact h x q
   rw [List.mem_singleton.1 q]; exact h1.1)
  simp only [List.length_append, List.length_cons, List.length_nil] at h2;exact ⟨by show (covN n j _ _).1.length = _; omega, h2.2.1, by show (covN n j _ _).2.pos ≤ _; omega⟩
theorem cover_in (c : Cur) (n : Int) (hn : n ≤ 10) : (c.cover n).1.length ≤ 4 ∧ (∀ x, x ∈ (c.cover n).1 → x.length ≤ n.toNat + 1) ∧ (c.cover n).2.pos ≤ c.pos + 90 := by
 have h1 := c.pick_in 5 (by decide);have h2 := c.pick_pos 5;have h3 := covN_in n hn (c.pick 5).1.toNat (c.pick 5).2 [] (fun x hx => absurd hx List.not_mem_nil);obtain ⟨R, hR⟩ := eqx (covN n (c.pick 5).1.toNat (c.pick 5).2 []);rw [← hR] at h3;have e : c.cover n = endC R.1 R.2 := by rw [hR]; rfl
 rw [e];simp only [List.length_nil] at h3;have h4 := R.2.pick_pos 15;have h5 := (R.2.pick 15).2.pick_pos 3;have h6 := (R.2.pick 15).2.pick_in 3 (by decide);unfold endC
 split
 ·rename_i q
  split
  ·refine ⟨by rw [List.length_set]; omega, fun x hx => ?_, by dsimp only; omega⟩;have hf := h3.2.1 _ (fst0_mem (l := R.1) (by omega));rcases List.mem_or_eq_of_mem_set hx with q | q
   ·have := h3.2.1 x q; omega
   have := badC_len (fst0 R.1) h6; rw [q]; omega
  exact ⟨by dsimp only; omega, fun x hx => by have := h3.2.1 x hx; omega, by dsimp only; omega⟩
 exact ⟨by dsimp only; omega, fun x hx => by have := h3.2.1 x hx; omega, by dsimp only; omega⟩
set_option maxHeartbeats 4000000 in
theorem curCover_spec (c : Cur) (n : Int) (hn : n ≤ 10) (hp : c.pos ≤ 10000000) : ASpec Tryz.prog 52 [.ptr 0 0, aI n] [(0, curC c)] (Fun1 (.own 1 (c.cover n).1.length) [(0, curC (c.cover n).2), (1, .arr 9 1 (strsL (c.cover n).1))]) := by
 have h1 := c.pick_in 5 (by decide);have h2 := c.pick_pos 5;have hK := pick_spec c 5 (by decide) (by omega);have hR : c.cover n = endC (covN n (c.pick 5).1.toNat (c.pick 5).2 []).1 (covN n (c.pick 5).1.toNat (c.pick 5).2 []).2 := rfl;obtain ⟨p, hpp⟩ := eqx (c.pick 5);rw [← hpp] at h1 h2 hK hR;obtain ⟨G, hG⟩ := eqx (c.cover n);rw [← hG] at hR ⊢;clear hG hpp;obtain ⟨j0, hj0⟩ : ∃ j0 : Nat, p.1 = j0 := ⟨p.1.toNat, by omega⟩;rw [hj0] at hK hR h1;rw [Int.toNat_natCast] at hR;refine ASpec.of Tryz.func52 rfl rfl fun C hC => ?_
 refine AC.seq (AC.region ?_);refine za ?_;refine AL.nil (th_n (AC.seq (AC.region ?_)));refine za ?_;refine AL.nil (th_n (AC.seq (AC.seq (AC.region ?_))));refine AL.p (by exact mv3 rfl) rfl ?_;refine kU [0] en_pick hK ?_;refine za ?_;refine AL.nil (th_n (AC.block ?_));refine AC.loop (ι := Nat × Cur × List (List UInt8)) (fun x => ⟨36, 300, [(0, .ptr 0 0), (1, aI n), (5, .own 100 x.2.2.length), (6, aI x.1)], [(0, some (curC x.2.1)), (100, some (.arr 9 1 (strsL x.2.2)))]⟩) (fun x => covN n x.1 x.2.1 x.2.2 = covN n j0 p.2 [] ∧ x.2.2.length + x.1 = j0 ∧ x.2.1.pos + 20 * x.1 ≤ p.2.pos + 20 * j0 ∧ ∀ y, y ∈ x.2.2 → y.length = n.toNat) (fun x => x.1) ((j0, p.2, [])) ?_ (⟨rfl, Nat.zero_add _, Nat.le_refl _, fun y hy => absurd hy List.not_mem_nil⟩) ?_
 ·exact (Weak.nilOwn (i := 5) (e := 9) (sz := 1) rfl (by decide)).trans (zw [(100, _)] hC)
 rintro ⟨j, cc, l⟩ ⟨hsub, hln, hpos, hall⟩;dsimp only at hsub hln hpos hall ⊢;refine AC.seq (AC.seq (AC.region ?_));refine zm ?_;refine zc ?_;refine AL.nil (th_n ?_);refine AC.condD rfl (fun h0 => ?_) (fun h0 => ?_)
 ·refine AC.skip (th_n (AC.seq (AC.block ?_)));obtain ⟨j, rfl⟩ : ∃ i, j = i + 1 := ⟨j - 1, by omega⟩;have hcu := cube_spec cc n (by omega) (by omega);have hli := cc.lits_in [48, 49, 45] n;have hsub2 : covN n j (cc.lits [48, 49, 45] n).2 (l ++ [(cc.lits [48, 49, 45] n).1]) = covN n j0 p.2 [] := hsub;obtain ⟨Q, hQ⟩ := eqx (cc.lits [48, 49, 45] n);rw [← hQ] at hcu hli hsub2;have hall2 : ∀ y, y ∈ l ++ [Q.1] → y.length = n.toNat := fun y hy => (List.mem_append.1 hy).elim (hall y) (fun q => by rw [List.mem_singleton.1 q]; exact hli.1)
  refine AC.region ?_;refine kB ?_;refine AL.p (by exact mv3 rfl) rfl ?_;refine zm ?_;refine kU [0] en_cube hcu ?_;refine AL.q (by exact h_litF rfl rfl rfl rfl rfl rfl rfl rfl) rfl ?_;refine AL.q (by exact h_appendSt l [Q.1] (.own rfl rfl (strsL_len _).symm) (.view rfl) (by rw [List.length_append]; simp only [List.length_cons, List.length_nil]; omega) (by simp)) rfl ?_;refine AL.p (by exact as2 rfl) rfl ?_;refine AL.nil (ib_n (th_n (AC.region ?_)));refine zm ?_;refine zA ?_;refine za ?_;refine AL.nil (th_n ?_);exact ⟨(j, Q.2, l ++ [Q.1]), ⟨hsub2, by rw [List.length_append]; simp only [List.length_cons, List.length_nil]; omega, by dsimp only; omega, hall2⟩, by dsimp only; omega, zw [(100, _)] hC⟩
 refine AC.exit (th_e (th_e (ib_y (th_n (AC.seq (AC.seq ?_))))));have hj : j = 0 := by omega
 subst hj;have e : G = endC l cc := by rw [hR, ← hsub]; rfl
 have hO := one_spec cc 15 (by decide) (by omega);have ho1 := cc.pick_pos 15;have hea := endC_a (l := l) (c := cc);have heb := endC_b (l := l) (c := cc);have hec := endC_c (l := l) (c := cc);obtain ⟨o, ho⟩ := eqx (cc.pick 15);rw [← ho] at hO ho1 hea heb;have hin3 := o.2.pick_in 3 (by decide);have hfl : (l.length : Int) > 0 → (fst0 l).length = n.toNat := fun h => hall _ (fst0_mem (by omega))
 have hf0 : (l.length : Int) > 0 → (strsL l)[0]? = some [dS (bstr (fst0 l))] := fun h => fst0_at (by omega)
 have hP := of_spec o.2 [[dS (bstr [])], [dS (bstr [120])], [dS (bstr (fst0 l ++ [49]))]] (bstr (badC (fst0 l) (o.2.pick 3).1)) (by show 0 < 3; omega) (by show 3 ≤ 65536; omega) (by omega) (bad_get (fst0 l) hin3);obtain ⟨B, hB⟩ := eqx (badC (fst0 l) (o.2.pick 3).1);obtain ⟨z, hz⟩ := eqx (o.2.pick ([[dS (bstr [])], [dS (bstr [120])], [dS (bstr (fst0 l ++ [49]))]] : List (List DV)).length);rw [← hz] at hP;rw [show o.2.pick 3 = z from hz.symm] at hea hP hB;rw [← hB] at hea hP;refine AC.region ?_;refine kB ?_;refine AL.p (by exact g_len_own (sz := 1) (els := []) (e' := 0) rfl rfl (by simp only [maxLen]; omega)) rfl ?_;refine zc ?_;refine zm ?_;refine AL.caseG rfl rfl (fun h1 => ?_) (fun h1 => ?_)
 ·refine zy ?_;refine AL.p (by exact mv3 rfl) rfl ?_;refine zy ?_;refine kU [0] en_one hO ?_;refine zQ ?_;refine AL.nil (th_n ?_);refine AC.condD rfl (fun h2 => ?_) (fun h2 => ?_)
  ·have hl0 := hf0 h1;have hln1 := hfl h1;have hset : strsL (l.set 0 B) = (strsL l).set 0 [dS (bstr B)] := by unfold strsL; rw [List.map_set]
   refine AC.region ?_;refine kB ?_;refine AL.p (by exact mv3 rfl) rfl ?_;refine kB ?_;refine AL.p (by exact g_ia_own (i := 0) (l := l.length) rfl rfl rfl rfl rfl rfl (by omega) rfl) rfl ?_;refine AL.p (by exact g_load_arr1 rfl rfl rfl rfl hl0) rfl ?_;refine AL.p (by exact g_saddB (a := fst0 l) (b := [49]) rfl rfl (by simp only [List.length_cons, List.length_nil]; omega)) rfl ?_;refine AL.q (by exact h_litF rfl rfl rfl rfl rfl rfl rfl rfl) rfl ?_;refine kU [0] en_of hP ?_;refine AL.p (by exact g_ia_own (i := 0) (l := l.length) rfl rfl rfl rfl rfl rfl (by omega) rfl) rfl ?_;refine AL.q (by exact h_store_arr (i := 0) (j := 0) (d := dS (bstr B)) rfl rfl rfl rfl .same rfl hl0 (by decide)) rfl ?_;refine AL.nil (th_n (AC.seq (AC.region ?_)));refine kB ?_;refine AL.p (by exact as2 rfl) rfl ?_;refine AL.nil (th_n (AC.ret (bq_r ?_)))
   (have e2 := e.trans (hea h1 h2); exact retN [(1, 100)] rfl (by rw [e2, List.length_set]; repeat (first | exact rfl | refine ⟨_, rfl, ?_⟩)) (by rw [e2, hset]; repeat (first | exact True.intro | refine And.intro ?_ ?_ | exact DLead.same | exact rfl | refine ⟨_, _, rfl, rfl, ?_⟩ | refine ⟨_, rfl, ?_⟩ | refine ⟨_, _, rfl, ?_, ?_⟩)) rfl rfl)
  refine AC.skip (th_n (AC.seq (AC.region ?_)));refine kB ?_;refine AL.p (by exact as2 rfl) rfl ?_;refine AL.nil (th_n (AC.ret (bq_r ?_)))
  (have e2 := e.trans (heb h1 h2); exact retN [(1, 100)] rfl (by rw [e2]; repeat (first | exact rfl | refine ⟨_, rfl, ?_⟩)) (by rw [e2]; repeat (first | exact True.intro | refine And.intro ?_ ?_ | exact DLead.same | exact rfl | refine ⟨_, _, rfl, rfl, ?_⟩ | refine ⟨_, rfl, ?_⟩ | refine ⟨_, _, rfl, ?_, ?_⟩)) rfl rfl)
 refine zn ?_;refine zn ?_;refine zP ?_;refine AL.nil (th_n ?_);refine AC.condF rfl ?_;refine AC.skip (th_n (AC.seq (AC.region ?_)));refine kB ?_;refine AL.p (by exact as2 rfl) rfl ?_;refine AL.nil (th_n (AC.ret (bq_r ?_)))
 (have e2 := e.trans (hec h1); exact retN [(1, 100)] rfl (by rw [e2]; repeat (first | exact rfl | refine ⟨_, rfl, ?_⟩)) (by rw [e2]; repeat (first | exact True.intro | refine And.intro ?_ ?_ | exact DLead.same | exact rfl | refine ⟨_, _, rfl, rfl, ?_⟩ | refine ⟨_, rfl, ?_⟩ | refine ⟨_, _, rfl, ?_, ?_⟩)) rfl rfl)
theorem en_curCover : Enters Tryz.prog 52 := enters_of Tryz.func52 rfl rfl
theorem sameTextsV_spec (a : List (List UInt8)) (ha : a.length ≤ 1000000) : ASpec Tryz.prog 11 [.d (vSs a), .d (vSs a)] [] (Pure1 (aT true)) := by
 refine ASpec.of Tryz.func11 rfl rfl fun C hC => ?_
 refine AC.seq (AC.region ?_);refine za ?_;refine AL.nil (th_n (AC.seq (AC.seq (AC.region ?_))));refine zm ?_;refine kI a.length (strsL_len _) ?_;refine zm ?_;refine kI a.length (strsL_len _) ?_;refine AL.p (by exact g_neIr rfl rfl rfl) rfl ?_;refine AL.nil (th_n ?_);refine AC.condF rfl ?_;refine AC.skip (th_n (AC.seq (AC.seq (AC.region ?_))));refine zm ?_;refine kI a.length (strsL_len _) ?_;refine zm ?_;refine AL.nil (th_n (AC.block ?_));refine AC.loop (ι := Nat) (fun k => ⟨26, 0, [(0, .d (vSs a)), (1, .d (vSs a)), (12, aI a.length), (13, aI k)], []⟩) (fun k => k ≤ a.length) (fun k => a.length - k) (0) ?_ (Nat.zero_le _) ?_
 ·refine Weak.ren _ [] hC rfl ?_ ?_ rfl rfl rfl <;> repeat (first | exact True.intro | refine And.intro ?_ ?_ | exact DLead.same)
 intro k hk;refine AC.seq (AC.region ?_);refine zc ?_;refine AL.nil (th_n (AC.seq ?_));refine AC.condD rfl (fun h0 => ?_) (fun h0 => ?_)
 ·refine AC.skip (th_n (AC.seq (AC.block (AC.seq ?_))));have hk1 : k < a.length := by omega
  have hget := strs_at hk1;refine AC.region ?_;refine zm ?_;refine za ?_;refine AL.nil (th_n (AC.seq ?_));refine AC.drawn' mixed_ok [[], [], [0,1], [0,1,2], [], [], [4,5], [4,5,6], [0,1,2,3,4,5,6,7]] (by decide) ?_;refine zd 0 [] 9 (by exact mv1 rfl) ?_;refine zd 1 [] 9 (by exact mv1 rfl) ?_;refine zd 2 [0,1] 9 (by exact g_ia_view rfl rfl rfl rfl rfl (by rfl) (by assumption)) ?_;refine zd 3 [0,1,2] 9 (by exact g_load_ref rfl rfl rfl) ?_;refine zd 4 [] 9 (by exact mv1 rfl) ?_;refine zd 5 [] 9 (by exact mv1 rfl) ?_;refine zd 6 [4,5] 9 (by exact g_ia_view rfl rfl rfl rfl rfl (by rfl) (by assumption)) ?_;refine zd 7 [4,5,6] 9 (by exact g_load_ref rfl rfl rfl) ?_;refine zd 8 [0,1,2,3,4,5,6,7] 9 (by exact g_neSr rfl rfl rfl) ?_;refine zj 9 ?_;refine th_n ?_;refine AC.condF rfl ?_;refine AC.skip (ib_n (th_n (AC.region ?_)));refine zA ?_;refine zm ?_;refine AL.nil (th_n ?_);exact ⟨k + 1, by omega, by omega, Weak.ren _ [] hC rfl (by repeat (first | exact True.intro | refine And.intro ?_ ?_ | exact DLead.same)) (by repeat (exact True.intro)) rfl rfl rfl⟩
 refine AC.exit (th_e (th_e (ib_y (th_n (AC.seq (AC.region ?_))))));refine za ?_;refine AL.nil (th_n (AC.ret (bq_r ?_)));exact ret1 rfl rfl
theorem en_sameTexts : Enters Tryz.prog 11 := enters_of Tryz.func11 rfl rfl
def setS (s : (List Tx × List Tx) × Cur) (x : Tx) : (List Tx × List Tx) × Cur := if (s.2.pick 3).1 = 0 then ((s.1.1 ++ [x], s.1.2), (s.2.pick 3).2) else if (s.2.pick 3).1 = 1 then ((s.1.1, s.1.2 ++ [x]), (s.2.pick 3).2) else (s.1, (s.2.pick 3).2)
def setK (L : List Tx) (c : Cur) (j : Nat) : (List Tx × List Tx) × Cur := (L.take j).foldl setS (([], []), c)
theorem setK_succ {L : List Tx} {c : Cur} {j : Nat} (h : j < L.length) : setK L c (j + 1) = setS (setK L c j) L[j] := fold_snoc setS _ h
structure SetB (L : List Tx) (c : Cur) (j : Nat) (s : (List Tx × List Tx) × Cur) : Prop where
 a : s.1.1.length ≤ j
 b : s.1.2.length ≤ j
 p : s.2.pos ≤ c.pos + 2 * j
 ma : ∀ x, x ∈ s.1.1 → x ∈ L
 mb : ∀ x, x ∈ s.1.2 → x ∈ L
theorem one_len (l : List Tx) (x : Tx) : (l ++ [x]).length = l.length + 1 := by rw [List.length_append]; rfl
theorem setS_in {L : List Tx} {c : Cur} {j : Nat} {s : (List Tx × List Tx) × Cur} (h : SetB L c j s) {x : Tx} (hx : x ∈ L) : SetB L c (j + 1) (setS s x) := by
 have ha := h.a;have hb := h.b;have hp := h.p;have hk := s.2.pick_pos 3;have hm : ∀ l : List Tx, (∀ y, y ∈ l → y ∈ L) → ∀ y, y ∈ l ++ [x] → y ∈ L := fun l q y hy => (List.mem_append.1 hy).elim (q y) (fun e => by rw [List.mem_singleton.1 e]; exact hx)
 unfold setS
 split
 ·exact ⟨by dsimp only; rw [one_len]; omega, by dsimp only; omega, by dsimp only; omega, hm _ h.ma, h.mb⟩
 split
 ·exact ⟨by dsimp only; omega, by dsimp only; rw [one_len]; omega, by dsimp only; omega, h.ma, hm _ h.mb⟩
 exact ⟨by dsimp only; omega, by dsimp only; omega, by dsimp only; omega, h.ma, h.mb⟩
theorem setK_in (L : List Tx) (c : Cur) : ∀ j, j ≤ L.length → SetB L c j (setK L c j)
 | 0, _ => ⟨Nat.le_refl _, Nat.le_refl _, Nat.le_refl _, fun _ h => absurd h List.not_mem_nil, fun _ h => absurd h List.not_mem_nil⟩
 | j + 1, h => by
  rw [setK_succ h];exact setS_in (setK_in L c j (Nat.le_of_succ_le h)) (List.getElem_mem h)
theorem setS_a {s : (List Tx × List Tx) × Cur} {x : Tx} (h : (s.2.pick 3).1 = 0) : setS s x = ((s.1.1 ++ [x], s.1.2), (s.2.pick 3).2) := if_pos h
theorem setS_b {s : (List Tx × List Tx) × Cur} {x : Tx} (h : ¬ (s.2.pick 3).1 = 0) (h2 : (s.2.pick 3).1 = 1) : setS s x = ((s.1.1, s.1.2 ++ [x]), (s.2.pick 3).2) := by rw [setS, if_neg h, if_pos h2]
theorem setS_c {s : (List Tx × List Tx) × Cur} {x : Tx} (h : ¬ (s.2.pick 3).1 = 0) (h2 : ¬ (s.2.pick 3).1 = 1) : setS s x = (s.1, (s.2.pick 3).2) := by rw [setS, if_neg h, if_neg h2]
set_option maxHeartbeats 16000000 in
theorem curSets_ex (c : Cur) (hp : c.pos ≤ 10000) : ∃ (n : Int) (on off : List Tx) (c' : Cur), (1 ≤ n ∧ n ≤ 4) ∧ on.length ≤ 16 ∧ off.length ≤ 17 ∧ (∀ x, x ∈ on → x.length ≤ 4) ∧ (∀ x, x ∈ off → x.length ≤ 4) ∧ c'.pos ≤ c.pos + 40 ∧ ASpec Tryz.prog 62 [.ptr 0 0] [(0, curC c)] (Fun1 (.tup [aI n, .d (vSs on), .d (vSs off)]) [(0, curC c')]) := by
 have h1 := c.pick_in 4 (by decide);have h2 := c.pick_pos 4;have hK1 := pick_spec c 4 (by decide) (by omega);obtain ⟨p, hp1⟩ := eqx (c.pick 4);rw [← hp1] at h1 h2 hK1;obtain ⟨n, hn⟩ : ∃ n : Nat, 1 + p.1 = n := ⟨(1 + p.1).toNat, by omega⟩;have hn4 : 1 ≤ n ∧ n ≤ 4 := by omega
 have hC1 := l13Codes_spec n (by omega);have hL16 : (codesN n).length ≤ 16 := by rw [codesN_len]; exact Nat.le_trans (Nat.pow_le_pow_right (by decide) hn4.2) (by decide)
 have hLm : ∀ x, x ∈ codesN n → x.length ≤ 4 := fun x hx => by rw [(codesN_mem n x hx).1]; exact hn4.2
 obtain ⟨L, hL⟩ := eqx (codesN n);rw [← hL] at hC1 hL16 hLm;have hS0 : setK L p.2 0 = (([], []), p.2) := rfl;have hSs := fun j (hj : j < L.length) => setK_succ (c := p.2) hj
 have hSi := setK_in L p.2;obtain ⟨K, hK⟩ := eqx (setK L p.2);rw [← hK] at hS0 hSs hSi;have hEB := hSi L.length (Nat.le_refl _);obtain ⟨e, he⟩ := eqx (K L.length);rw [← he] at hEB;have hea := hEB.a;have heb := hEB.b;have hep := hEB.p;have hO := one_spec e.2 15 (by decide) (by omega);have ho1 := e.2.pick_pos 15;obtain ⟨o, ho⟩ := eqx (e.2.pick 15);rw [← ho] at hO ho1;refine ⟨n, e.1.1, if (e.1.1.length : Int) > 0 ∧ o.1 = 0 then e.1.2 ++ [fst0 e.1.1] else e.1.2, if (e.1.1.length : Int) > 0 then o.2 else e.2, by omega, by omega, ?_, fun x hx => hLm x (hEB.ma x hx), ?_, ?_, ?_⟩
 ·split
  ·rw [one_len]; omega
  omega
 ·split
  ·rename_i q;intro x hx;rcases List.mem_append.1 hx with w | w
   ·exact hLm x (hEB.mb x w)
   rw [List.mem_singleton.1 w]; exact hLm _ (hEB.ma _ (fst0_mem (by omega)))
  exact fun x hx => hLm x (hEB.mb x hx)
 ·split <;> omega
 refine ASpec.of Tryz.func62 rfl rfl fun C hC => ?_
 refine AC.seq (AC.region ?_);refine za ?_;refine za ?_;refine za ?_;refine AL.nil (th_n (AC.seq (AC.region ?_)));refine AL.p (by exact mv3 rfl) rfl ?_;refine kU [0] en_pick hK1 ?_;refine zA ?_;refine za ?_;refine AL.nil (th_n (AC.seq ?_));rw [hn];refine AC.region ?_;refine za ?_;refine za ?_;refine AL.nil (th_n (AC.seq (AC.seq (AC.region ?_))));refine zm ?_;refine kU [] en_l13Codes hC1 ?_;refine AL.weak (Weak.freeze (i := 14) rfl rfl (osl _) (ost _)) ?_;refine kI L.length (strsL_len _) ?_;refine zm ?_;refine AL.nil (th_n (AC.block ?_));refine AC.loop (ι := Nat) (fun j => ⟨51, 300, [(0, .ptr 0 0), (5, aI n), (6, .own 100 (K j).1.1.length), (7, .own 101 (K j).1.2.length), (14, .d (vSs L)), (15, aI L.length), (16, aI j)], [(0, some (curC (K j).2)), (100, some (.arr 9 1 (strsL (K j).1.1))), (101, some (.arr 9 1 (strsL (K j).1.2)))]⟩) (fun j => j ≤ L.length) (fun j => L.length - j) (0) ?_ (Nat.zero_le _) ?_
 ·exact (Weak.nilOwn (i := 6) (e := 9) (sz := 1) rfl (by decide)).trans ((Weak.nilOwn (i := 7) (e := 9) (sz := 1) rfl (by decide)).trans (zw [(100, _), (101, _)] hC (by rw [hS0]; repeat (first | exact True.intro | refine And.intro ?_ ?_ | exact DLead.same | exact rfl | refine ⟨_, rfl, ?_⟩)) (by rw [hS0]; repeat (first | exact True.intro | refine And.intro ?_ ?_ | exact DLead.same | exact rfl | refine ⟨_, _, rfl, rfl, ?_⟩ | refine ⟨_, rfl, ?_⟩ | refine ⟨_, _, rfl, ?_, ?_⟩))))
 intro j hj;refine AC.seq (AC.region ?_);refine zc ?_;refine AL.nil (th_n (AC.seq ?_));refine AC.condD rfl (fun h0 => ?_) (fun h0 => ?_)
 ·refine AC.skip (th_n (AC.seq (AC.block (AC.seq ?_))));have hj1 : j < L.length := by omega
  have hget := strs_at hj1;have hsn := hSs j hj1;have hSb := hSi j hj;have hja := hSb.a;have hjb := hSb.b;have hjp := hSb.p;obtain ⟨x, hx⟩ := eqx (L[j]);rw [← hx] at hget hsn;obtain ⟨y, hy⟩ := eqx (K j);rw [← hy] at hsn hja hjb hjp ⊢;have hP := pick_spec y.2 3 (by decide) (by omega);have hqa := @setS_a y x;have hqb := @setS_b y x;have hqc := @setS_c y x;obtain ⟨z, hz⟩ := eqx (y.2.pick 3);rw [← hz] at hP hqa hqb hqc;rw [← hsn] at hqa hqb hqc;refine AC.region ?_;refine AL.p (by exact g_ia_view (i := j) rfl rfl rfl rfl rfl rfl hget) rfl ?_;refine zr ?_;refine za ?_;refine AL.nil (th_n (AC.seq (AC.region ?_)));refine AL.p (by exact mv3 rfl) rfl ?_;refine kU [0] en_pick hP ?_;refine AL.nil (th_n (AC.block (AC.seq (AC.region ?_))));refine zc ?_;refine za ?_;refine AL.nil (th_n ?_);refine AC.condD rfl (fun h1 => ?_) (fun h1 => ?_)
  ·refine AC.region ?_;refine kB ?_;refine zm ?_;refine AL.q (by exact h_litF rfl rfl rfl rfl rfl rfl rfl rfl) rfl ?_;refine AL.q (by exact h_appendSt y.1.1 [x] (.own rfl rfl (strsL_len _).symm) (.view rfl) (by rw [one_len]; omega) (by simp)) rfl ?_;refine AL.p (by exact as2 rfl) rfl ?_;refine AL.nil (ib_n (ib_n (th_n (AC.region ?_))));refine zA ?_;refine zm ?_;refine AL.nil (th_n ?_)
   (have e2 := hqa ‹z.1 = 0›; exact ⟨j + 1, by omega, by omega, zw [(100, _), (101, _)] hC (by rw [e2]; repeat (first | exact True.intro | refine And.intro ?_ ?_ | exact DLead.same | exact rfl | refine ⟨_, rfl, ?_⟩)) (by rw [e2]; repeat (first | exact True.intro | refine And.intro ?_ ?_ | exact DLead.same | exact rfl | refine ⟨_, _, rfl, rfl, ?_⟩ | refine ⟨_, rfl, ?_⟩ | refine ⟨_, _, rfl, ?_, ?_⟩))⟩)
  refine AC.seq (AC.region ?_);refine zc ?_;refine za ?_;refine AL.nil (th_n ?_);refine AC.condD rfl (fun h2 => ?_) (fun h2 => ?_)
  ·refine AC.region ?_;refine kB ?_;refine zm ?_;refine AL.q (by exact h_litF rfl rfl rfl rfl rfl rfl rfl rfl) rfl ?_;refine AL.q (by exact h_appendSt y.1.2 [x] (.own rfl rfl (strsL_len _).symm) (.view rfl) (by rw [one_len]; omega) (by simp)) rfl ?_;refine AL.p (by exact as2 rfl) rfl ?_;refine AL.nil (ib_n (ib_n (th_n (AC.region ?_))));refine zA ?_;refine zm ?_;refine AL.nil (th_n ?_)
   (have e2 := hqb ‹¬ z.1 = 0› ‹z.1 = 1›; exact ⟨j + 1, by omega, by omega, zw [(100, _), (101, _)] hC (by rw [e2]; repeat (first | exact True.intro | refine And.intro ?_ ?_ | exact DLead.same | exact rfl | refine ⟨_, rfl, ?_⟩)) (by rw [e2]; repeat (first | exact True.intro | refine And.intro ?_ ?_ | exact DLead.same | exact rfl | refine ⟨_, _, rfl, rfl, ?_⟩ | refine ⟨_, rfl, ?_⟩ | refine ⟨_, _, rfl, ?_, ?_⟩))⟩)
  refine AC.skip (ib_n (ib_n (th_n (AC.region ?_))));refine zA ?_;refine zm ?_;refine AL.nil (th_n ?_)
  (have e2 := hqc ‹¬ z.1 = 0› ‹¬ z.1 = 1›; exact ⟨j + 1, by omega, by omega, zw [(100, _), (101, _)] hC (by rw [e2]; repeat (first | exact True.intro | refine And.intro ?_ ?_ | exact DLead.same | exact rfl | refine ⟨_, rfl, ?_⟩)) (by rw [e2]; repeat (first | exact True.intro | refine And.intro ?_ ?_ | exact DLead.same | exact rfl | refine ⟨_, _, rfl, rfl, ?_⟩ | refine ⟨_, rfl, ?_⟩ | refine ⟨_, _, rfl, ?_, ?_⟩))⟩)
 refine AC.exit (th_e (th_e (ib_y (th_n (AC.seq (AC.seq ?_))))));have hjj : j = L.length := by omega
 rw [hjj, ← he];have hf0 : (e.1.1.length : Int) > 0 → (strsL e.1.1)[0]? = some [dS (bstr (fst0 e.1.1))] := fun h => fst0_at (by omega)
 refine AC.region ?_;refine kB ?_;refine AL.p (by exact g_len_own (sz := 1) (els := []) (e' := 0) rfl rfl (by simp only [maxLen]; omega)) rfl ?_;refine zc ?_;refine zm ?_;refine AL.caseG rfl rfl (fun h1 => ?_) (fun h1 => ?_)
 ·refine zy ?_;refine AL.p (by exact mv3 rfl) rfl ?_;refine zy ?_;refine kU [0] en_one hO ?_;refine zQ ?_;refine AL.nil (th_n ?_);refine AC.condD rfl (fun h2 => ?_) (fun h2 => ?_)
  ·have q1 : (e.1.1.length : Int) > 0 := by assumption
   have q2 : o.1 = 0 := by assumption
   have hl0 := hf0 q1;rw [if_pos ⟨q1, q2⟩];refine AC.region ?_;refine kB ?_;refine kB ?_;refine AL.p (by exact g_ia_own (i := 0) (l := e.1.1.length) rfl rfl rfl rfl rfl rfl (by omega) rfl) rfl ?_;refine AL.p (by exact g_load_arr1 rfl rfl rfl rfl hl0) rfl ?_;refine AL.q (by exact h_litF rfl rfl rfl rfl rfl rfl rfl rfl) rfl ?_;refine AL.q (by exact h_appendSt e.1.2 [fst0 e.1.1] (.own rfl rfl (strsL_len _).symm) (.view rfl) (by rw [one_len]; omega) (by simp)) rfl ?_;refine AL.p (by exact as2 rfl) rfl ?_;refine AL.nil (th_n (AC.seq (AC.region ?_)));refine zm ?_;refine kB ?_;refine kB ?_;refine za ?_;refine AL.p (by exact as2 rfl) rfl ?_;refine AL.p (by exact as2 rfl) rfl ?_;refine AL.nil (th_n ?_)
   (refine AC.weak (Weak.freeze (els := strsL (e.1.2 ++ [fst0 e.1.1])) (i := 4) rfl rfl (osl _) (ost _)) ?_)
   refine AC.weak (Weak.freeze (els := strsL e.1.1) (i := 3) rfl rfl (osl _) (ost _)) ?_;refine AC.ret (bq_r ?_)
   (have q : (e.1.1.length : Int) > 0 := (by assumption); rw [if_pos q]; exact retF rfl (by repeat (first | exact rfl | exact DLead.same | refine ⟨_, _, rfl, ?_, ?_⟩ | refine ⟨_, rfl, ?_⟩)) (by repeat (first | exact True.intro | refine And.intro ?_ ?_ | exact DLead.same | exact rfl | refine ⟨_, _, rfl, rfl, ?_⟩ | refine ⟨_, rfl, ?_⟩ | refine ⟨_, _, rfl, ?_, ?_⟩)) rfl)
  refine AC.skip (th_n (AC.seq (AC.region ?_)));refine zm ?_;refine kB ?_;refine kB ?_;refine za ?_;refine AL.p (by exact as2 rfl) rfl ?_;refine AL.p (by exact as2 rfl) rfl ?_;refine AL.nil (th_n ?_)
  (rw [if_neg (by rintro ⟨w1, w2⟩; exact absurd w2 (by assumption))]; refine AC.weak (Weak.freeze (els := strsL e.1.2) (i := 4) rfl rfl (osl _) (ost _)) ?_)
  refine AC.weak (Weak.freeze (els := strsL e.1.1) (i := 3) rfl rfl (osl _) (ost _)) ?_;refine AC.ret (bq_r ?_)
  (have q : (e.1.1.length : Int) > 0 := (by assumption); rw [if_pos q]; exact retF rfl (by repeat (first | exact rfl | exact DLead.same | refine ⟨_, _, rfl, ?_, ?_⟩ | refine ⟨_, rfl, ?_⟩)) (by repeat (first | exact True.intro | refine And.intro ?_ ?_ | exact DLead.same | exact rfl | refine ⟨_, _, rfl, rfl, ?_⟩ | refine ⟨_, rfl, ?_⟩ | refine ⟨_, _, rfl, ?_, ?_⟩)) rfl)
 refine zn ?_;refine zn ?_;refine zP ?_;refine AL.nil (th_n ?_);refine AC.condF rfl ?_;refine AC.skip (th_n (AC.seq (AC.region ?_)));refine zm ?_;refine kB ?_;refine kB ?_;refine za ?_;refine AL.p (by exact as2 rfl) rfl ?_;refine AL.p (by exact as2 rfl) rfl ?_;refine AL.nil (th_n ?_)
 (rw [if_neg (by rintro ⟨w1, w2⟩; exact absurd w1 (by assumption))]; refine AC.weak (Weak.freeze (els := strsL e.1.2) (i := 4) rfl rfl (osl _) (ost _)) ?_)
 refine AC.weak (Weak.freeze (els := strsL e.1.1) (i := 3) rfl rfl (osl _) (ost _)) ?_;refine AC.ret (bq_r ?_)
 (have q : ¬ (e.1.1.length : Int) > 0 := (by assumption); rw [if_neg q]; exact retF rfl (by repeat (first | exact rfl | exact DLead.same | refine ⟨_, _, rfl, ?_, ?_⟩ | refine ⟨_, rfl, ?_⟩)) (by repeat (first | exact True.intro | refine And.intro ?_ ?_ | exact DLead.same | exact rfl | refine ⟨_, _, rfl, rfl, ?_⟩ | refine ⟨_, rfl, ?_⟩ | refine ⟨_, _, rfl, ?_, ?_⟩)) rfl)
theorem en_curSets : Enters Tryz.prog 62 := enters_of Tryz.func62 rfl rfl
theorem sDrawOnOff_ex (code : List UInt8) : ∃ (n : Int) (on off : List Tx), (1 ≤ n ∧ n ≤ 4) ∧ on.length ≤ 16 ∧ off.length ≤ 17 ∧ (∀ x, x ∈ on → x.length ≤ 4) ∧ (∀ x, x ∈ off → x.length ≤ 4) ∧ ASpec Tryz.prog 29 [.d (vB code)] [] (Pure1 (.tup [aI n, .d (vSs on), .d (vSs off)])) := by
 obtain ⟨n, on, off, c', h1, h2, h3, h4, h5, _, hS⟩ := curSets_ex (cur0 code) (Nat.zero_le _);refine ⟨n, on, off, h1, h2, h3, h4, h5, ?_⟩;refine ASpec.of Tryz.func29 rfl rfl fun C hC => ?_
 refine AC.seq (AC.region ?_);refine za ?_;refine za ?_;refine za ?_;refine AL.nil (th_n (AC.seq (AC.region ?_)));refine zm ?_;refine AL.p (by exact g_build rfl rfl rfl) rfl ?_;refine AL.q (by exact h_box rfl) rfl ?_;refine AL.p (by exact as3 rfl) rfl ?_;refine AL.nil (th_n (AC.seq (AC.region ?_)));refine AL.p (by exact mv3 rfl) rfl ?_;refine kU [0] en_curSets hS ?_;refine AL.p (by exact g_extract (r := .d _) rfl rfl) rfl ?_;refine AL.p (by exact g_extract (r := .d _) rfl rfl) rfl ?_;refine AL.p (by exact g_extract (r := .d _) rfl rfl) rfl ?_;refine za ?_;refine za ?_;refine za ?_;refine AL.nil (th_n (AC.ret (bq_r ?_)));exact ret0 rfl (by repeat (first | exact DLead.same | exact rfl | refine ⟨_, rfl, ?_⟩ | refine ⟨_, _, rfl, ?_, ?_⟩))
theorem en_sDrawOnOff : Enters Tryz.prog 29 := enters_of Tryz.func29 rfl rfl
theorem sDrawPri_ex (code : List UInt8) : ∃ (n : Int) (on off : List Tx), (1 ≤ n ∧ n ≤ 4) ∧ on.length ≤ 16 ∧ off.length ≤ 17 ∧ (∀ x, x ∈ on → x.length ≤ 4) ∧ (∀ x, x ∈ off → x.length ≤ 4) ∧ ASpec Tryz.prog 6 [.d (vB code)] [] (Pure1 (.tup [aI n, .d (vSs on), .d (vSs off)])) := by
 obtain ⟨n, on, off, h1, h2, h3, h4, h5, hS⟩ := sDrawOnOff_ex code;refine ⟨n, on, off, h1, h2, h3, h4, h5, ?_⟩;refine ASpec.of Tryz.func6 rfl rfl fun C hC => ?_
 refine AC.seq (AC.region ?_);refine za ?_;refine za ?_;refine za ?_;refine AL.nil (th_n (AC.seq (AC.region ?_)));refine zm ?_;refine kV en_sDrawOnOff hS ?_;refine AL.p (by exact g_extract (r := .d _) rfl rfl) rfl ?_;refine AL.p (by exact g_extract (r := .d _) rfl rfl) rfl ?_;refine AL.p (by exact g_extract (r := .d _) rfl rfl) rfl ?_;refine za ?_;refine za ?_;refine za ?_;refine AL.nil (th_n (AC.ret (bq_r ?_)));exact ret0 rfl (by repeat (first | exact DLead.same | exact rfl | refine ⟨_, rfl, ?_⟩ | refine ⟨_, _, rfl, ?_, ?_⟩))
theorem en_sDrawPri : Enters Tryz.prog 6 := enters_of Tryz.func6 rfl rfl
theorem sDrawLitC_ex (code : List UInt8) : ∃ (l : List Tx), l.length ≤ 4 ∧ (∀ x, x ∈ l → x.length ≤ 10) ∧ ASpec Tryz.prog 17 [.d (vB code)] [] (Pure1 (.d (vSs l))) := by
 have hp0 : (cur0 code).pos = 0 := rfl;have h1 := (cur0 code).pick_in 4 (by decide);have h2 := (cur0 code).pick_pos 4;have hK1 := pick_spec (cur0 code) 4 (by decide) (by omega);obtain ⟨p, hp⟩ := eqx ((cur0 code).pick 4);rw [← hp] at h1 h2 hK1;have hA := cover_in p.2 (1 + p.1) (by omega);have hK2 := curCover_spec p.2 (1 + p.1) (by omega) (by omega);obtain ⟨A, hAA⟩ := eqx (p.2.cover (1 + p.1));rw [← hAA] at hA hK2;refine ⟨A.1, hA.1, fun x hx => by have := hA.2.1 x hx; omega, ?_⟩;refine ASpec.of Tryz.func17 rfl rfl fun C hC => ?_
 refine AC.seq (AC.region ?_);refine za ?_;refine AL.nil (th_n (AC.seq (AC.region ?_)));refine zm ?_;refine AL.p (by exact g_build rfl rfl rfl) rfl ?_;refine AL.q (by exact h_box rfl) rfl ?_;refine AL.p (by exact as3 rfl) rfl ?_;refine AL.nil (th_n (AC.seq (AC.region ?_)));refine AL.p (by exact mv3 rfl) rfl ?_;refine AL.p (by exact mv3 rfl) rfl ?_;refine kU [0] en_pick hK1 ?_;refine zA ?_;refine kU [0] en_curCover hK2 ?_;refine AL.p (by exact as2 rfl) rfl ?_;refine AL.nil (th_n ?_);refine AC.weak (Weak.freeze (i := 2) rfl rfl (osl _) (ost _)) ?_;refine AC.ret (bq_r ?_);exact ret0 rfl (by repeat (exact DLead.same))
theorem en_sDrawLitC : Enters Tryz.prog 17 := enters_of Tryz.func17 rfl rfl
theorem lit3_at {s : Tx} {i : Nat} (h : s.all lit3 = true) (hi : i < s.length) : lit3 (s.getD i 0) = true := by
 rw [List.getD_eq_getElem?_getD, List.getElem?_eq_getElem hi];exact List.all_eq_true.1 h _ (List.getElem_mem hi)
theorem lit3_128 {b : UInt8} (h : lit3 b = true) : b.toNat < 128 := by
 simp only [lit3, Bool.or_eq_true, decide_eq_true_eq] at h;omega
theorem cubeB_new {s : Tx} {m : Nat} (h1 : s.all lit3 = true) (h2 : s.length = m) (h3 : 1 ≤ m) (h4 : m ≤ 8) : cubeB s m = true := by
 unfold cubeB;rw [h1, decide_eq_true (by omega), decide_eq_true (by omega), decide_eq_true (by omega)]
 rfl
theorem cvB_new {l : List Tx} {m : Nat} (h3 : 1 ≤ m) (h4 : m ≤ 8) (hl : l.length ≤ 60) (h : ∀ c, c ∈ l → c.all lit3 = true ∧ c.length = m) : cvB m l = true := by
 unfold cvB;rw [decide_eq_true (by omega), decide_eq_true (by omega), decide_eq_true (by omega), List.all_eq_true.2 fun c hc => cubeB_new (h c hc).1 (h c hc).2 h3 h4]
 rfl
theorem covAll_in {l on : List Tx} (h : ∀ x, x ∈ on → covB l x = true) : covAll l on = true := List.all_eq_true.2 h
theorem sub_cov {n : Int} {on off q : List Tx} (h : (prR n on off).2 = true) (hl : q.length ≤ 60) (hs : ∀ p, p ∈ q → p ∈ (prR n on off).1) (hc : ∀ x, x ∈ on → covB q x = true) : icvR n on off q = (true, true) := by
 obtain ⟨h1, h2, h3⟩ := prR_in h;rw [h2] at hs;have ho := h1;obtain ⟨m, rfl, g1, g2, _, _, g4, g5, _⟩ := onoff_in h1;have hm : ∀ p, p ∈ q → p.length = m ∧ anyH p off = false ∧ p.all lit3 = true := fun p hp => primesL_mem (hs p hp)
 have hv : cvB (m : Int) q = true := cvB_new g1 g2 hl fun c hc => ⟨(hm c hc).2.2, (hm c hc).1⟩
 have hno : (off.any fun x => covB q x) = false := List.any_eq_false.2 fun x hx e => by
  obtain ⟨p, hp, e2⟩ := List.any_eq_true.1 e;have := List.any_eq_false.1 (hm p hp).2.1 x hx;exact this e2
 unfold icvR chkB;rw [if_pos (by rw [ho, hv]; rfl), covAll_in hc, hno]
 rfl
theorem pri_cov {n : Int} {on off : List Tx} (h : (prR n on off).2 = true) : icvR n on off (prR n on off).1 = (true, true) := by
 refine sub_cov h prR_len (fun _ hp => hp) fun x hx => ?_
 obtain ⟨p, hp, e⟩ := (prR_ok h).cov x hx;exact List.any_eq_true.2 ⟨p, hp, e⟩
theorem onoff_none {n : Int} {on off : List Tx} (h : onoffB n on off = true) : onoffB n [] off = true := by
 unfold onoffB at h ⊢;simp only [Bool.and_eq_true, decide_eq_true_eq, Bool.not_eq_true'] at h ⊢;exact ⟨h.1, ⟨rfl, by decide⟩, h.2.2.1, rfl⟩
theorem allN_get {n : Nat} {f : Nat → Bool} (h : allN n f = true) {i : Nat} (hi : i < n) : f i = true := List.all_eq_true.1 h i (List.mem_range.2 hi)
theorem pri_up {n : Int} {on off : List Tx} (h : (prR n on off).2 = true) {p : Tx} (hp : p ∈ (prR n on off).1) {i : Nat} (hi : i < p.length) (hb : ¬ at1 p i = 45) : icvR n [] off [p.set i 45] = (false, true) := by
 obtain ⟨h1, h2, h3⟩ := prR_in h;rw [h2] at hp;have ho := onoff_none h1;obtain ⟨m, rfl, g1, g2, _, _, g4, g5, _⟩ := onoff_in h1;obtain ⟨e1, e2, e3⟩ := primesL_mem hp
 have hpr : primeB p off = true := by
  have := (List.mem_filter.1 hp).2;unfold primP at this;simp only [Bool.and_eq_true] at this;exact this.2
 have hA : prmA p off i = true := allN_get hpr hi;unfold prmA at hA;rw [decide_eq_false hb, Bool.false_or] at hA
 have hv : cvB (m : Int) [p.set i 45] = true := cvB_new g1 g2 (by simp) fun c hc => by
  rw [List.mem_singleton.1 hc];refine ⟨List.all_eq_true.2 fun b hbm => ?_, by rw [List.length_set, e1]; rfl⟩;rcases List.mem_or_eq_of_mem_set hbm with q | q
  ·exact List.all_eq_true.1 e3 b q
  rw [q]; decide
 obtain ⟨x, hx, hxc⟩ := List.any_eq_true.1 hA;have hyes : (off.any fun x => covB [p.set i 45] x) = true := List.any_eq_true.2 ⟨x, hx, List.any_eq_true.2 ⟨_, List.mem_singleton_self _, hxc⟩⟩;unfold icvR chkB;rw [if_pos (by rw [ho, hv]; rfl), hyes];simp
theorem pri_mem {n : Int} {on off : List Tx} (h : (prR n on off).2 = true) {p : Tx} (hp : p ∈ (prR n on off).1) : p.length ≤ 8 ∧ p.all lit3 = true := by
 obtain ⟨h1, h2, h3⟩ := prR_in h;rw [h2] at hp;obtain ⟨m, rfl, g1, g2, _⟩ := onoff_in h1;obtain ⟨e1, _, e3⟩ := primesL_mem hp;exact ⟨by rw [e1]; exact g2, e3⟩
theorem ess_same {n : Int} {on off : List Tx} : (essR n on off).2 = (prR n on off).2 := by
 unfold essR
 split
 ·rename_i h; exact h.symm
 rename_i h; exact (Bool.eq_false_iff.2 h).symm
theorem es60 {n : Int} {on off : List Tx} : (essR n on off).1.length ≤ 60 := by
 unfold essR
 split
 ·exact Nat.le_trans (ess_sub _ _).length_le prR_len
 exact Nat.zero_le _
theorem min_is {n : Int} {on off : List Tx} (h : (prR n on off).2 = true) (h2 : (minR n on off).2 = true) : MinOf (prR n on off).1 on (minR n on off).1 := by
 unfold minR at h2 ⊢;rw [if_pos h] at h2 ⊢;unfold minO at h2 ⊢;dsimp only at h2 ⊢;cases e : minT (prR n on off).1 on with
 | none => rw [e] at h2; cases h2
 | some b => exact minT_of e
theorem min_pr {n : Int} {on off : List Tx} (h2 : (minR n on off).2 = true) : (prR n on off).2 = true := by
 unfold minR at h2
 split at h2
 ·assumption
 cases h2
theorem min_len {n : Int} {on off : List Tx} : (minR n on off).1.length ≤ 60 := by
 cases e : (minR n on off).2 with
 | true => exact Nat.le_of_lt (Nat.lt_of_lt_of_le (min_is (min_pr e) e).len (by decide))
 | false =>
  unfold minR at e ⊢
  split at e
  ·rename_i q;rw [if_pos q];unfold minO at e ⊢;dsimp only at e ⊢;cases e2 : minT (prR n on off).1 on with
   | none => exact Nat.zero_le _
   | some b => rw [e2] at e; cases e
  rename_i q; rw [if_neg q]; exact Nat.zero_le _
theorem ess_min {n : Int} {on off : List Tx} (h2 : (minR n on off).2 = true) {x : Tx} (hx : x ∈ (essR n on off).1) : x ∈ (minR n on off).1 := by
 have h := min_pr h2;have hM := min_is h h2;unfold essR at hx;rw [if_pos h] at hx;obtain ⟨k, hk, rfl, he⟩ := ess_mem.1 hx;exact ess_in_min hk he hM.sub hM.cov
theorem placeIn_ex (l : List Tx) (x : Tx) (hl : l.length ≤ 1000000) (hx : x ∈ l) : ∃ k : Nat, ASpec Tryz.prog 16 [.d (vSs l), aS (bstr x)] [] (Pure1 (aI k)) := by
 obtain ⟨k, hk, hkx, hmin⟩ : ∃ k, ∃ h : k < l.length, l[k] = x ∧ ∀ j (hj : j < l.length), j < k → ¬ l[j] = x := by
  have hf : l.findIdx (fun y => decide (y = x)) < l.length := List.findIdx_lt_length_of_exists ⟨x, hx, by simp⟩;refine ⟨_, hf, of_decide_eq_true (List.findIdx_getElem (w := hf)), fun j hj h e => ?_⟩;have := List.not_of_lt_findIdx h;rw [decide_eq_true e] at this;cases this
 refine ⟨k, ?_⟩;refine ASpec.of Tryz.func16 rfl rfl fun C hC => ?_
 refine AC.seq (AC.region ?_);refine za ?_;refine AL.nil (th_n (AC.seq (AC.seq (AC.region ?_))));refine zm ?_;refine kI l.length (strsL_len _) ?_;refine zm ?_;refine AL.nil (th_n (AC.block ?_));refine AC.loop (ι := Nat) (fun j => ⟨19, 100, [(1, aS (bstr x)), (7, .d (vSs l)), (8, aI l.length), (9, aI j)], []⟩) (fun j => j ≤ k) (fun j => k - j) (0) ?_ (Nat.zero_le _) ?_
 ·exact Weak.ren _ [] hC rfl (by repeat (first | exact True.intro | refine And.intro ?_ ?_ | exact DLead.same)) (by repeat (exact True.intro)) rfl rfl rfl
 intro j hj;refine AC.seq (AC.region ?_);refine zc ?_;refine AL.nil (th_n (AC.seq ?_));refine AC.condD rfl (fun h0 => ?_) (fun h0 => ?_)
 ·refine AC.skip (th_n (AC.seq (AC.block (AC.seq ?_))));have hj1 : j < l.length := by omega
  have hget := strs_at hj1;have hmj := hmin j hj1;have hjk : l[j] = x → j = k := fun e => by rcases Nat.lt_or_ge j k with q | q; exact absurd e (hmj q); omega
  have hkj : ¬ l[j] = x → j < k := fun e => by rcases Nat.lt_or_ge j k with q | q; exact q; exact absurd (by have q2 : j = k := (by omega); subst q2; exact hkx) e
  obtain ⟨y, hy⟩ := eqx (l[j]);rw [← hy] at hget hjk hkj;refine AC.region ?_;refine zm ?_;refine AL.p (by exact g_ia_view (i := j) rfl rfl rfl rfl rfl rfl hget) rfl ?_;refine zr ?_;refine za ?_;refine za ?_;refine AL.nil (th_n (AC.seq (AC.region ?_)));refine zm ?_;refine zm ?_;refine AL.p (by exact g_scmp (r := decide (y = x)) rfl rfl (by show some (decide (bstr y = bstr x)) = _; exact congrArg some (decide_eq_decide.2 ⟨fun h => bstr_inj h, fun h => by rw [h]⟩))) rfl ?_;refine AL.nil (th_n ?_);refine AC.condD rfl (fun h1 => ?_) (fun h1 => ?_)
  ·refine AC.seq (AC.region ?_);refine zm ?_;refine za ?_;refine AL.nil (th_n (AC.ret (ib_r (th_r (th_r (ib_r (th_r (bq_r ?_))))))));exact ret1 rfl (by rw [hjk ‹y = x›])
  refine AC.skip (ib_n (th_n (AC.region ?_)));refine zA ?_;refine zm ?_;refine AL.nil (th_n ?_);exact ⟨j + 1, hkj ‹¬ y = x›, by have := hkj ‹¬ y = x›; omega, Weak.ren _ [] hC rfl (by repeat (first | exact True.intro | refine And.intro ?_ ?_ | exact DLead.same)) (by repeat (exact True.intro)) rfl rfl rfl⟩
 refine AC.exit (th_e (th_e (ib_y (th_n (AC.seq (AC.region ?_))))));refine za ?_;refine AL.nil (th_n (AC.ret (bq_r ?_)));exact absurd ‹¬ (j : Int) < (l.length : Int)› (by omega)
theorem en_placeIn : Enters Tryz.prog 16 := enters_of Tryz.func16 rfl rfl
set_option maxHeartbeats 32000000 in
theorem FnPrimes_gen (code more : List UInt8) (n : Int) (on off l : List Tx) (hc : code.length ≤ 9223372036854775807) (hm : more.length ≤ 9223372036854775807)
  (hon : on.length ≤ 16) (hof : off.length ≤ 17) (honx : ∀ x, x ∈ on → x.length ≤ 4) (hofx : ∀ x, x ∈ off → x.length ≤ 4) (hl : l.length ≤ 4) (hlx : ∀ x, x ∈ l → x.length ≤ 10)
  (hD1 : ASpec Tryz.prog 6 [.d (vB code)] [] (Pure1 (.tup [aI n, .d (vSs on), .d (vSs off)]))) (hD2 : ASpec Tryz.prog 17 [.d (vB more)] [] (Pure1 (.d (vSs l)))) : ASpec Tryz.prog 3 [.d (vB code), .d (vB more)] [] (Pure1 (aT true)) := by
 have hBig := big_spec code more hc hm;have b1 : ∀ c, c ∈ on → c.length ≤ 2000000 := fun c h => Nat.le_trans (honx c h) (by decide)
 have b2 : ∀ c, c ∈ off → c.length ≤ 2000000 := fun c h => Nat.le_trans (hofx c h) (by decide)
 have hP1 := iPrimes_spec n on off (by omega) (by omega) b1 b2;have hP2 := sPrimes_spec n on off (by omega) (by omega) b1 b2;have hE1 := iEssP_spec n on off (by omega) (by omega) b1 b2;have hE2 := sEssP_spec n on off (by omega) (by omega) b1 b2;rw [ess_same] at hE1 hE2;have hO1 := iOnOff_spec n on off (by omega) (by omega) b1 b2;have hO2 := sOnOff_spec n on off (by omega) (by omega) b1 b2;have hMi := iMinC_spec n on off (by omega) (by omega) b1 b2;have hAl : (prR n on off).1.length ≤ 60 := prR_len;have hEl : (essR n on off).1.length ≤ 60 := es60;have hMl : (minR n on off).1.length ≤ 60 := min_len;have hPl : (minR n on off).2 = true → ∀ x, x ∈ (essR n on off).1 → ∃ k : Nat, ASpec Tryz.prog 16 [.d (vSs (minR n on off).1), aS (bstr x)] [] (Pure1 (aI k)) := fun h x hx => placeIn_ex _ x (by omega) (ess_min h hx)
 have hAm : (prR n on off).2 = true → ∀ p, p ∈ (prR n on off).1 → p.length ≤ 8 ∧ p.all lit3 = true := fun h p hp => pri_mem h hp
 have hIc : (prR n on off).2 = true → ASpec Tryz.prog 14 [aI n, .d (vSs on), .d (vSs off), .d (vSs (prR n on off).1)] [] (Pure1 (.tup [aT true, aT true])) := fun h => by
  have := iIsCov_spec n on off (prR n on off).1 (by omega) (by omega) (by omega) b1 b2 (fun c hc => Nat.le_trans (pri_mem h hc).1 (by decide));rw [pri_cov h] at this;exact this
 have hUp : (prR n on off).2 = true → ∀ p, p ∈ (prR n on off).1 → ∀ i, i < p.length → ¬ at1 p i = 45 → ASpec Tryz.prog 14 [aI n, .d (vSs []), .d (vSs off), .d (vSs [p.set i 45])] [] (Pure1 (.tup [aT false, aT true])) := fun h p hp i hi hb => by
  have h8 := (pri_mem h hp).1;have := iIsCov_spec n [] off [p.set i 45] (by simp) (by omega) (by simp) (fun c hc => absurd hc List.not_mem_nil) b2 (fun c hc => by rw [List.mem_singleton.1 hc, List.length_set]; omega);rw [pri_up h hp hi hb] at this;exact this
 obtain ⟨A, hA⟩ := eqx (prR n on off);obtain ⟨E, hE⟩ := eqx (essR n on off);obtain ⟨M, hM⟩ := eqx (minR n on off);obtain ⟨O, hO⟩ := eqx (onoffB n on off);rw [← hA] at hP1 hP2 hE1 hE2 hAl hAm hIc hUp;rw [← hE] at hE1 hE2 hEl hPl;rw [← hM] at hMi hMl hPl;rw [← hO] at hO1 hO2;have hS1 := sameTextsV_spec A.1 (by omega);have hS2 := sameTextsV_spec E.1 (by omega);have hL1 := iLitC_spec l (by omega) (fun c h => Nat.le_trans (hlx c h) (by decide));have hL2 := sLitC_spec l (by omega) (fun c h => Nat.le_trans (hlx c h) (by decide));obtain ⟨T, hT⟩ := eqx (litR l);rw [← hT] at hL1 hL2;clear hA hE hM hO hT;refine ASpec.of Tryz.func3 rfl rfl fun C hC => ?_
 refine AC.seq (AC.region ?_);refine za ?_;refine AL.nil (th_n (AC.seq (AC.seq (AC.region ?_))));refine zm ?_;refine zm ?_;refine kV en_big hBig ?_;refine AL.nil (th_n ?_);refine AC.condB rfl (fun h0 => ?_) (fun h0 => ?_)
 ·refine AC.seq (AC.region ?_);refine za ?_;refine AL.nil (th_n (AC.ret (th_r (bq_r ?_))));exact ret1 rfl rfl
 refine AC.skip (th_n (AC.seq (AC.region ?_)));refine zm ?_;refine kV en_sDrawPri hD1 ?_;refine AL.p (by exact mv5 rfl) rfl ?_;refine AL.p (by exact g_extract (r := .d _) rfl rfl) rfl ?_;refine AL.p (by exact g_extract (r := .d _) rfl rfl) rfl ?_;refine AL.p (by exact g_extract (r := .d _) rfl rfl) rfl ?_;refine za ?_;refine za ?_;refine za ?_;refine AL.nil (th_n (AC.seq (AC.region ?_)));refine zm ?_;refine zm ?_;refine zm ?_;refine kV en_iPrimes hP1 ?_;refine AL.p (by exact mv5 rfl) rfl ?_;refine AL.p (by exact g_extract (r := .d _) rfl rfl) rfl ?_;refine AL.p (by exact g_extract (r := .d _) rfl rfl) rfl ?_;refine za ?_;refine za ?_;refine AL.nil (th_n (AC.seq (AC.region ?_)));refine zm ?_;refine zm ?_;refine zm ?_;refine kV en_sPrimes hP2 ?_;refine AL.p (by exact mv5 rfl) rfl ?_;refine AL.p (by exact g_extract (r := .d _) rfl rfl) rfl ?_;refine AL.p (by exact g_extract (r := .d _) rfl rfl) rfl ?_;refine za ?_;refine za ?_;refine AL.nil (th_n (AC.seq (AC.region ?_)));refine zm ?_;refine zm ?_;refine zm ?_;refine kV en_iEssP hE1 ?_;refine AL.p (by exact mv5 rfl) rfl ?_;refine AL.p (by exact g_extract (r := .d _) rfl rfl) rfl ?_;refine AL.p (by exact g_extract (r := .d _) rfl rfl) rfl ?_;refine za ?_;refine za ?_;refine AL.nil (th_n (AC.seq (AC.region ?_)));refine zm ?_;refine zm ?_;refine zm ?_;refine kV en_sEssP hE2 ?_;refine AL.p (by exact mv5 rfl) rfl ?_;refine AL.p (by exact g_extract (r := .d _) rfl rfl) rfl ?_;refine AL.p (by exact g_extract (r := .d _) rfl rfl) rfl ?_;refine za ?_;refine za ?_;refine AL.nil (th_n (AC.seq (AC.seq ?_)));refine AC.weak (t := ⟨203, 300, [(1, .d (vB more)), (5, aI n), (6, .d (vSs on)), (7, .d (vSs off)), (8, .d (vSs A.1)), (9, aT A.2), (10, .d (vSs A.1)), (11, aT A.2), (12, .d (vSs E.1)), (13, aT A.2), (14, .d (vSs E.1)), (15, aT A.2)], []⟩) (Weak.ren _ [] hC rfl (by repeat (first | exact True.intro | refine And.intro ?_ ?_ | exact DLead.same)) (by repeat (exact True.intro)) rfl rfl rfl) ?_;refine AC.region ?_;refine zm ?_;refine zm ?_;refine AL.p (by exact g_neBr rfl rfl rfl) rfl ?_;refine zm ?_;refine zy ?_;refine zm ?_;refine zy ?_;refine zm ?_;refine zy ?_;refine kV en_sameTexts hS1 ?_;refine zy ?_;refine kC ?_;refine zP ?_;refine zm ?_;refine zy ?_;refine zm ?_;refine zy ?_;refine zm ?_;refine zy ?_;refine AL.p (by exact g_neBr rfl rfl rfl) rfl ?_;refine zP ?_;refine zm ?_;refine zy ?_;refine zm ?_;refine zy ?_;refine zm ?_;refine zy ?_;refine kV en_sameTexts hS2 ?_;refine zy ?_;refine kC ?_;refine zP ?_;refine zm ?_;refine zy ?_;refine zm ?_;refine zy ?_;refine zm ?_;refine zy ?_;refine AL.p (by exact g_neBr rfl rfl rfl) rfl ?_;refine zP ?_;refine zm ?_;refine zy ?_;refine zm ?_;refine zy ?_;refine zm ?_;refine zy ?_;refine zm ?_;refine zy ?_;refine kV en_iOnOff hO1 ?_;refine zy ?_;refine zm ?_;refine zy ?_;refine zm ?_;refine zy ?_;refine zm ?_;refine zy ?_;refine kV en_sOnOff hO2 ?_;refine zy ?_;refine AL.p (by exact g_neBr rfl rfl rfl) rfl ?_
 refine zP ?_;refine AL.nil (th_n ?_);refine AC.condF rfl ?_;refine AC.skip (th_n ?_);refine AC.cut (fun (_ : Unit) => ⟨203, 2000, [(1, .d (vB more))], []⟩) (fun _ => True) ?_ ?_
 ·refine AC.seq (AC.region ?_);refine zm ?_;refine AL.nil (th_n ?_);refine AC.condB rfl (fun h1 => ?_) (fun h1 => ?_)
  ·refine AC.seq ?_;have q1 : A.2 = true := by assumption
   have hIc := hIc q1;have hUp := hUp q1;have hAm := hAm q1;refine AC.region ?_;refine zm ?_;refine zm ?_;refine zm ?_;refine zm ?_;refine kV en_iIsCov hIc ?_;refine AL.p (by exact mv5 rfl) rfl ?_;refine AL.p (by exact g_extract (r := .d _) rfl rfl) rfl ?_;refine AL.p (by exact g_extract (r := .d _) rfl rfl) rfl ?_;refine za ?_;refine za ?_;refine AL.nil (th_n (AC.seq (AC.seq (AC.region ?_))));refine zm ?_;refine kI A.1.length (strsL_len _) ?_;refine AL.p (by exact g_cmp (r := true) rfl rfl (by show some (decide _) = some true; rw [decide_eq_true (by omega)])) rfl ?_;refine zm ?_;refine zy ?_;refine zm ?_;refine zy ?_;refine kC ?_;refine zy ?_;refine zm ?_;refine zy ?_;refine zm ?_;refine zy ?_;refine kC ?_;refine zy ?_;refine zP ?_;refine zQ ?_;refine AL.nil (th_n ?_);refine AC.condF rfl ?_;refine AC.skip (th_n (AC.seq (AC.seq (AC.region ?_))));refine zm ?_;refine kI A.1.length (strsL_len _) ?_;refine zm ?_;refine AL.nil (th_n (AC.block ?_));refine AC.loop (ι := Nat) (fun k => ⟨203, 600, [(1, .d (vB more)), (5, aI n), (6, .d (vSs on)), (7, .d (vSs off)), (12, .d (vSs E.1)), (125, .d (vSs A.1)), (126, aI A.1.length), (127, aI k)], []⟩) (fun k => k ≤ A.1.length) (fun k => A.1.length - k) (0) ?_ (Nat.zero_le _) ?_
   ·exact Weak.ren _ [] hC rfl (by repeat (first | exact True.intro | refine And.intro ?_ ?_ | exact DLead.same)) (by repeat (exact True.intro)) rfl rfl rfl
   intro k hk;refine AC.seq (AC.region ?_);refine zc ?_;refine AL.nil (th_n (AC.seq ?_));refine AC.condD rfl (fun h2 => ?_) (fun h2 => ?_)
   ·refine AC.skip (th_n (AC.seq (AC.block (AC.seq ?_))));have hk1 : k < A.1.length := by omega
    have hget := strs_at hk1;have hpm := List.getElem_mem hk1;obtain ⟨p, hp⟩ := eqx (A.1[k]);rw [← hp] at hget hpm;have hUpp := hUp p hpm;obtain ⟨hp8, hp3⟩ := hAm p hpm;have hpz := bstr_size p;refine AC.region ?_;refine AL.p (by exact g_ia_view (i := k) rfl rfl rfl rfl rfl rfl hget) rfl ?_;refine zr ?_;refine za ?_;refine AL.nil (th_n (AC.seq (AC.region ?_)));refine zm ?_;refine AL.q (by exact h_range rfl rfl) rfl ?_;refine AL.nil (th_n (AC.block ?_));refine AC.loop (ι := Nat) (fun i => ⟨203, 700, [(1, .d (vB more)), (5, aI n), (6, .d (vSs on)), (7, .d (vSs off)), (12, .d (vSs E.1)), (19, aS (bstr p)), (125, .d (vSs A.1)), (126, aI A.1.length), (127, aI k), (132, .ptr 100 0)], [(100, some (.iter (bstr p) i))]⟩) (fun i => i ≤ p.length) (fun i => p.length - i) (0) ?_ (Nat.zero_le _) ?_
    ·exact zw [(100, _)] hC
    intro i hi;refine AC.seq (AC.region ?_);rcases Nat.lt_or_ge i p.length with hlt | hge
    ·refine AL.q (by exact h_next_yes (bv := p.getD i 0) rfl rfl (bstr_getD hlt) (lit3_128 (lit3_at hp3 hlt)) (by omega)) rfl ?_;refine AL.p (by exact g_extract (r := .d _) rfl rfl) rfl ?_;refine AL.nil (th_n (AC.seq ?_));refine AC.condT rfl ?_;refine AC.skip (th_n (AC.block (AC.seq (AC.region ?_))));refine AL.p (by exact g_extract (r := .d _) rfl rfl) rfl ?_;refine za ?_;refine AL.nil (th_n (AC.seq (AC.seq ?_)));have hgi := bstr_getD hlt;have hKJ : (i : Int) + 1 = ((i + 1 : Nat) : Int) := by omega
     have hx1 : (bstr p).extract 0 i = bstr (p.take i) := by rw [bstr_cut p (Nat.zero_le _) (by omega)]; simp
     have hx2 : (bstr p).extract (i + 1) (bstr p).size = bstr (p.drop (i + 1)) := by rw [hpz, bstr_cut p (by omega) (Nat.le_refl _), List.take_length]
     have hs1 : (p.take i).length = i := by rw [List.length_take]; omega
     have hs3 : (p.drop (i + 1)).length = p.length - (i + 1) := by rw [List.length_drop]
     have hst : p.take i ++ [45] ++ p.drop (i + 1) = p.set i 45 := by rw [List.set_eq_take_append_cons_drop, if_pos hlt]; simp
     have hUpi := hUpp i hlt;rw [← hst] at hUpi;refine AC.region ?_;refine zm ?_;refine zm ?_;refine AL.p (by exact g_index (i := i) rfl rfl rfl rfl hgi) rfl ?_;refine AL.p (by exact g_cmp (r := decide (at1 p i = 45)) rfl rfl rfl) rfl ?_;refine AL.nil (th_n ?_);refine AC.condD rfl (fun h3 => ?_) (fun h3 => ?_)
     ·refine AC.exit (th_e (ib_y (th_n ?_)));exact ⟨i + 1, by omega, by omega, zw [(100, 100)] hC⟩
     refine AC.skip (th_n (AC.seq ?_));have q45 : ¬ at1 p i = 45 := by assumption
     have hUpi := hUpi q45;refine AC.drawn' mixed_ok [[], [], [], [], [2,3], [2,3,4], [], [], [7], [6,7,8], [2,3,4,5,6,7,8,9], [2,3,4,5,6,7,8,9,10], [0,1,2,3,4,5,6,7,8,9,10,11], [0,1,2,3,4,5,6,7,8,9,10,11,12], [0,1,2,3,4,5,6,7,8,9,10,11,12,13], [0,1,2,3,4,5,6,7,8,9,10,11,12,13], [0,1,2,3,4,5,6,7,8,9,10,11,12,13,14], [0,1,2,3,4,5,6,7,8,9,10,11,12,13,14,15,16]] (by decide) ?_;refine zd 0 [] 18 (by exact mv1 rfl) ?_;refine zd 1 [] 18 (by exact mv1 rfl) ?_;refine zd 2 [] 18 (by exact mv1 rfl) ?_;refine zd 3 [] 18 (by exact mv1 rfl) ?_;refine zd 4 [2,3] 18 (by exact g_slice_str (h := i) rfl rfl .none (.some rfl rfl) (Nat.zero_le _) (by omega) hx1) ?_;refine zd 5 [2,3,4] 18 (by exact g_saddB (a := p.take i) (b := [45]) rfl rfl (by simp only [List.length_cons, List.length_nil]; omega)) ?_;refine zd 6 [] 18 (by exact mv1 rfl) ?_;refine zd 7 [] 18 (by exact mv1 rfl) ?_;refine zd 8 [7] 18 (by exact g_arith rfl rfl rfl (by exact wrap_i64 (by omega))) ?_;refine zd 9 [6,7,8] 18 (by exact g_slice_str (l := i + 1) rfl rfl (.some rfl rfl) .none (by omega) (Nat.le_refl _) hx2) ?_;refine zd 10 [2,3,4,5,6,7,8,9] 18 (by exact g_saddB (a := p.take i ++ [45]) (b := p.drop (i + 1)) rfl rfl (by rw [List.length_append]; simp only [List.length_cons, List.length_nil]; omega)) ?_;refine zh 11 [2,3,4,5,6,7,8,9,10] 18 (by exact h_litF rfl rfl rfl rfl rfl rfl rfl rfl) ?_;refine zh 12 (List.range 12) 18 (by exact h_pure en_iIsCov rfl rfl (by repeat (first | exact rfl | exact DLead.same | exact DLead.nil | refine ⟨_, _, rfl, ?_, ?_⟩)) hUpi rfl) ?_;refine zd 13 (List.range 13) 18 (by exact mv5 rfl) ?_;refine zd 14 (List.range 14) 18 (by exact g_extract (r := .d _) rfl rfl) ?_;refine zd 15 (List.range 14) 18 (by exact g_extract (r := .d _) rfl rfl) ?_;refine zd 16 (List.range 15) 18 (by exact as1 rfl) ?_;refine zd 17 (List.range 17) 18 (by exact as1 rfl) ?_;refine zj 18 ?_;refine th_n (AC.seq (AC.region ?_));refine zm ?_;refine kC ?_;refine zm ?_;refine zy ?_;refine zm ?_;refine zP ?_;refine AL.nil (th_n ?_);refine AC.condF rfl ?_;refine AC.skip (ib_n (th_n ?_));exact ⟨i + 1, by omega, by omega, zw [(100, 100)] hC⟩
    refine AL.p (by exact g_next_no rfl rfl (by rw [hpz]; exact hge)) rfl ?_;refine AL.p (by exact g_extract (r := .d _) rfl rfl) rfl ?_;refine AL.nil (th_n (AC.seq ?_));refine AC.condF rfl ?_;refine AC.exit (th_e (th_e (ib_y (ib_n (th_n (AC.region ?_))))));refine zA ?_;refine zm ?_;refine AL.nil (th_n ?_);exact ⟨k + 1, by omega, by omega, Weak.ren _ [] hC rfl (by repeat (first | exact True.intro | refine And.intro ?_ ?_ | exact DLead.same)) (by repeat (exact True.intro)) rfl rfl rfl⟩
   refine AC.exit (th_e (th_e (ib_y (th_n (AC.seq (AC.region ?_))))));refine zm ?_;refine zm ?_;refine zm ?_;refine kV en_iMinC hMi ?_;refine AL.p (by exact mv5 rfl) rfl ?_;refine AL.p (by exact g_extract (r := .d _) rfl rfl) rfl ?_;refine AL.p (by exact g_extract (r := .d _) rfl rfl) rfl ?_;refine za ?_;refine za ?_;refine AL.nil (th_n (AC.seq (AC.region ?_)));refine zm ?_;refine kI E.1.length (strsL_len _) ?_;refine zm ?_;refine AL.nil (th_n (AC.block ?_));refine AC.loop (ι := Nat) (fun j => ⟨203, 900, [(1, .d (vB more)), (23, .d (vSs M.1)), (24, aT M.2), (169, .d (vSs E.1)), (170, aI E.1.length), (171, aI j)], []⟩) (fun j => j ≤ E.1.length) (fun j => E.1.length - j) (0) ?_ (Nat.zero_le _) ?_
   ·exact Weak.ren _ [] hC rfl (by repeat (first | exact True.intro | refine And.intro ?_ ?_ | exact DLead.same)) (by repeat (exact True.intro)) rfl rfl rfl
   intro j hj;refine AC.seq (AC.region ?_);refine zc ?_;refine AL.nil (th_n (AC.seq ?_));refine AC.condD rfl (fun h3 => ?_) (fun h3 => ?_)
   ·refine AC.skip (th_n (AC.seq (AC.block (AC.seq ?_))));have hj1 : j < E.1.length := by omega
    have hget := strs_at hj1;have hxm := List.getElem_mem hj1;obtain ⟨x, hx⟩ := eqx (E.1[j]);rw [← hx] at hget hxm;have hPx : ∃ k : Nat, M.2 = true → ASpec Tryz.prog 16 [.d (vSs M.1), aS (bstr x)] [] (Pure1 (aI k)) := by by_cases q : M.2 = true; (obtain ⟨k, h⟩ := hPl q x hxm; exact ⟨k, fun _ => h⟩); exact ⟨0, fun h => absurd h q⟩
    obtain ⟨w, hPw⟩ := hPx;refine AC.region ?_;refine AL.p (by exact g_ia_view (i := j) rfl rfl rfl rfl rfl rfl hget) rfl ?_;refine zr ?_;refine za ?_;refine AL.nil (th_n (AC.seq (AC.region ?_)));refine zm ?_;refine zm ?_;refine AL.caseGB rfl rfl (fun h4 => ?_) (fun h4 => ?_)
    ·refine zy ?_;refine zm ?_;refine zy ?_;refine zm ?_;refine zy ?_;refine kV en_placeIn (hPw ‹M.2 = true›) ?_;refine zy ?_;refine AL.p (by exact g_cmp (r := false) rfl rfl (by show some (decide _) = some false; rw [decide_eq_false (by omega)])) rfl ?_;refine zQ ?_;refine AL.nil (th_n ?_);refine AC.condF rfl ?_;refine AC.skip (ib_n (th_n (AC.region ?_)));refine zA ?_;refine zm ?_;refine AL.nil (th_n ?_);exact ⟨j + 1, by omega, by omega, Weak.ren _ [] hC rfl (by repeat (first | exact True.intro | refine And.intro ?_ ?_ | exact DLead.same)) (by repeat (exact True.intro)) rfl rfl rfl⟩
    refine zn ?_;refine zn ?_;refine zn ?_;refine zn ?_;refine zP ?_;refine AL.nil (th_n ?_);refine AC.condF rfl ?_;refine AC.skip (ib_n (th_n (AC.region ?_)));refine zA ?_;refine zm ?_;refine AL.nil (th_n ?_);exact ⟨j + 1, by omega, by omega, Weak.ren _ [] hC rfl (by repeat (first | exact True.intro | refine And.intro ?_ ?_ | exact DLead.same)) (by repeat (exact True.intro)) rfl rfl rfl⟩
   refine AC.exit (th_e (th_e (ib_y (th_n ?_))));exact ⟨(), trivial, Weak.ren _ [] hC rfl (by repeat (first | exact True.intro | refine And.intro ?_ ?_ | exact DLead.same)) (by repeat (exact True.intro)) rfl rfl rfl⟩
  refine AC.skip (th_n ?_);exact ⟨(), trivial, Weak.ren _ [] hC rfl (by repeat (first | exact True.intro | refine And.intro ?_ ?_ | exact DLead.same)) (by repeat (exact True.intro)) rfl rfl rfl⟩
 intro _ _;refine AC.seq (AC.region ?_);refine zm ?_;refine kV en_sDrawLitC hD2 ?_;refine za ?_;refine AL.nil (th_n (AC.seq (AC.region ?_)));refine zm ?_;refine kV en_iLitC hL1 ?_;refine AL.p (by exact mv5 rfl) rfl ?_;refine AL.p (by exact g_extract (r := .d _) rfl rfl) rfl ?_;refine AL.p (by exact g_extract (r := .d _) rfl rfl) rfl ?_;refine za ?_;refine za ?_;refine AL.nil (th_n (AC.seq (AC.region ?_)));refine zm ?_;refine kV en_sLitC hL2 ?_;refine AL.p (by exact mv5 rfl) rfl ?_;refine AL.p (by exact g_extract (r := .d _) rfl rfl) rfl ?_;refine AL.p (by exact g_extract (r := .d _) rfl rfl) rfl ?_;refine za ?_;refine za ?_;refine AL.nil (th_n (AC.seq (AC.region ?_)));refine zm ?_;refine zm ?_;refine AL.p (by exact g_eqBr rfl rfl rfl) rfl ?_;refine zm ?_;refine zy ?_;refine zm ?_;refine zy ?_;refine zm ?_;refine zy ?_;refine AL.p (by exact g_eqIr rfl rfl rfl) rfl ?_;refine zQ ?_;refine za ?_;refine AL.nil (th_n (AC.ret (bq_r ?_)));exact ret1 rfl rfl
theorem FnPrimes_spec (code more : List UInt8) (hc : code.length ≤ 9223372036854775807) (hm : more.length ≤ 9223372036854775807) : ASpec Tryz.prog 3 [.d (vB code), .d (vB more)] [] (Pure1 (aT true)) := by
 obtain ⟨n, on, off, _, h2, h3, h4, h5, hD1⟩ := sDrawPri_ex code;obtain ⟨l, hl, hlx, hD2⟩ := sDrawLitC_ex more;exact FnPrimes_gen code more n on off l hc hm h2 h3 h4 h5 hl hlx hD1 hD2
end Go.Proofs.YtiaieidhhlmfmaaGreat
