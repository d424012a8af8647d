/- Contracts of the functions of the program and of the reference, each proved by a walk through its code. -/
import Derived.Test.YtjodfopifgiipaaGreatGGb5
set_option linter.all false
set_option maxRecDepth 20000
namespace Go.Proofs.YtjodfopifgiipaaGreat
open Go.RowKit
theorem fire_ready {N : Net} {m : List UInt8} (hb : bitsB m N.places = true) (hM : NetM N m) {t : Int} (ht : t ∈ readyL N m N.ts.length) : ∃ i, ∃ hi : i < N.ts.length, t = (i : Int) ∧ fireI N m t = fireT N.ts[i] m := by
 unfold readyL at ht;obtain ⟨k, hk, rfl⟩ := List.mem_map.1 ht;have h := (List.mem_filter.1 hk).2;cases e : N.ts[k]? with
 | none => rw [e] at h; cases h
 | some u =>
  obtain ⟨hk2, rfl⟩ := List.getElem?_eq_some_iff.1 e;rw [e] at h;refine ⟨k, hk2, rfl, ?_⟩;rw [fireI_at hk2, ← ready_enabled hb (hM _ (List.getElem_mem hk2)).1];exact if_pos h
def rMark (r : Option (Int × Int)) : Int := match r with | some p => (if 0 ≤ p.1 then p.1 else 0) | none => 0
def rBad (r : Option (Int × Int)) : Int := match r with | some p => p.2 | none => -1
def rFull (r : Option (Int × Int)) : Bool := match r with | some p => decide (p.1 < 0) | none => false
abbrev zR : List AV := [.d (.val (.slice none 0 0)), .d (.val (.slice none 0 0)), .d (.val (.slice none 0 0)), aI 0, aI 0, aT false]
abbrev refA (F : Ex × Option (Int × Int)) (a b c : Nat) : List AV := [.own a F.1.marks.length, .own b F.1.moves.length, .own c (byL F.1).length, aI (rMark F.2), aI (rBad F.2), aT (rFull F.2)]
theorem posI_neg {m : List UInt8} {l : List (List UInt8)} (h : posI m l < 0) : posL m l = none := by
 unfold posI at h
 split at h
 ·omega
 assumption
theorem posI_nat {m : List UInt8} {l : List (List UInt8)} (h : ¬ posI m l < 0) : ∃ i, posL m l = some i ∧ posI m l = (i : Int) := by
 cases hp : posL m l with
 | none => unfold posI at h; rw [hp] at h; exact absurd (show (-1 : Int) < 0 by decide) h
 | some i => exact ⟨i, rfl, by unfold posI; rw [hp]⟩
theorem rMark_nat (k : Nat) (t : Int) : rMark (some ((k : Int), t)) = (k : Int) := by unfold rMark; exact if_pos (Int.natCast_nonneg k)
theorem rFull_nat (k : Nat) (t : Int) : rFull (some ((k : Int), t)) = false := by unfold rFull; exact decide_eq_false (by show ¬ (k : Int) < 0; omega)
set_option maxHeartbeats 16000000 in
theorem sReach_spec (s : Stg) (hB : StgB s) (hg : goodS s = true) : ASpec Tryz.prog 97 [stgA s] [] (Fun1 (.agg (refA (explR s.net s.start) 0 1 2)) [(0, .arr 9 1 (tsX (explR s.net s.start).1.marks)), (1, .arr 113 3 (mvL (explR s.net s.start).1.moves)), (2, .arr 113 3 (mvL (byL (explR s.net s.start).1)))]) := by
 obtain ⟨hg1, hg2⟩ : goodN s.net = true ∧ bitsB s.start s.net.places = true := by
  simp only [goodS, Bool.and_eq_true] at hg;exact hg.1
 have hpl := good_places hg1;have hun : explR s.net s.start = exOut s.net 301 0 ⟨[s.start], []⟩ := rfl;obtain ⟨F, hF⟩ := eqx (explR s.net s.start);rw [← hF] at hun ⊢;have hI0 : ExI s.net ⟨[s.start], []⟩ 0 := ⟨by show 1 ≤ 300; omega, fun m hm => by rw [List.mem_singleton.1 hm]; exact hg2, Nat.le_refl _⟩;have hst := bits_len hg2;clear hF;refine ASpec.of Tryz.func97 rfl rfl fun C hC => ?_
 refine AC.seq (AC.region ?_);refine kD ?_;refine kE ?_;refine AL.nil (th_n (AC.seq (AC.region ?_)));refine zf ?_;refine zr ?_;refine AL.q (by exact h_lit rfl rfl rfl rfl rfl rfl rfl rfl) rfl ?_;refine AL.p (by exact g_build rfl rfl rfl) rfl ?_;refine AL.p (by exact g_build rfl rfl rfl) rfl ?_;refine AL.q (by exact h_lit rfl rfl rfl rfl rfl rfl rfl rfl) rfl ?_;refine AL.p (by exact g_build rfl rfl rfl) rfl ?_;refine kE ?_;refine zs ?_;refine AL.nil (th_n (AC.seq (AC.seq (AC.region ?_))));refine za ?_;refine AL.nil (th_n (AC.block ?_));refine AC.loop (ι := Nat × Ex) (fun x => ⟨107, 600, [(1, .d (.ref (stgD s))), (2, .ptr 201 0), (3, .ptr 200 0), (4, aI x.1)], [(200, some (.cells 141 [.own 101 x.2.marks.length, .own 102 x.2.moves.length, .own 103 (byL x.2).length, aI 0, aI (-1), aT false])), (101, some (.arr 9 1 (tsX x.2.marks))), (102, some (.arr 113 3 (mvL x.2.moves))), (103, some (.arr 113 3 (mvL (byL x.2)))), (201, some (.cells 141 zR))]⟩) (fun x => x.1 ≤ x.2.marks.length ∧ ExI s.net x.2 (24 * x.1) ∧ ByI s.net x.2 x.1 ∧ exOut s.net (301 - x.1) x.1 x.2 = F) (fun x => 301 - x.1) ((0, ⟨[s.start], []⟩)) ?_ (⟨Nat.zero_le _, hI0, ByI.start _ _, hun.symm⟩) ?_
 ·exact (Weak.nilOwnP 3 1 (e := 113) (sz := 3) rfl rfl rfl rfl rfl).trans (zw [(200, _), (101, _), (102, _), (103, _), (201, _)] hC)
 rintro ⟨k, x⟩ ⟨hk, hI, hY, hrun⟩;dsimp only at hk hI hY hrun ⊢;have hxn := hI.n;refine AC.seq (AC.seq (AC.region ?_));refine zm ?_;refine zF ?_;refine zF ?_;refine zl ?_;refine AL.p (by exact g_len_own (sz := 1) (els := []) (e' := 0) rfl rfl (by simp only [maxLen]; omega)) rfl ?_;refine zc ?_;refine AL.nil (th_n ?_);refine AC.condD rfl (fun h0 => ?_) (fun h0 => ?_)
 ·refine AC.skip (th_n (AC.seq (AC.block (AC.seq ?_))));have hk1 : k < x.marks.length := by omega
  have hmk := mkAt_nat hk1;have hbm := hI.b _ (List.getElem_mem hk1);rw [← hmk] at hbm;have hrow : (tsX x.marks)[k]? = some [dS (bstr (mkAt x k))] := by rw [hmk]; exact tsX_get hk1
  obtain ⟨n, hn⟩ : ∃ n, 301 - k = n + 1 := ⟨300 - k, by omega⟩;rw [hn, exOut, if_pos hk1] at hrun;obtain ⟨m, hm⟩ := eqx (mkAt x k);rw [← hm] at hbm hrow hrun;have hNM := good_netM hg1 hbm;have hEn := l1Enabled_spec s.net m hB.n hNM;have hLl := readyL_len s.net m s.net.ts.length;have hfr := fun t => fire_ready (t := t) hbm hNM
  have hLin := readyL_in s.net m s.net.ts.length;obtain ⟨L, hL⟩ := eqx (readyL s.net m s.net.ts.length);simp only [← hL] at hEn hLl hrun hfr hLin;have hml := bits_len hbm;have hmarks : x.marks[k]? = some m := by rw [List.getElem?_eq_getElem hk1, hm, hmk]
  obtain ⟨Z, hZ⟩ := eqx (exIn s.net k m L x);rw [← hZ] at hrun;clear hL;refine AC.drawn' mixed_ok [[], [0], [], [2], [2,3], [], [2,3,4,5], [2,3,4,5,6], [0,1,2,3,4,5,6,7], [0,1,2,3,4,5,6,7,8], []] (by decide) ?_;refine zd 0 [] 11 (by exact g_fa_ref rfl rfl rfl rfl rfl rfl) ?_;refine zd 1 [0] 11 (by exact g_load_refN rfl rfl rfl rfl) ?_;refine zd 2 [] 11 (by exact g_fa_ptr rfl rfl rfl rfl rfl) ?_;refine zd 3 [2] 11 (by exact g_fa_ptr rfl rfl rfl rfl rfl) ?_;refine zd 4 [2,3] 11 (by exact g_load_ptr rfl rfl rfl rfl rfl) ?_;refine zd 5 [] 11 (by exact mv1 rfl) ?_;refine zd 6 [2,3,4,5] 11 (by exact g_ia_own (i := k) (l := x.marks.length) rfl rfl rfl rfl rfl rfl hk1 rfl) ?_;refine zd 7 [2,3,4,5,6] 11 (by exact g_load_arr1 rfl rfl rfl rfl (by rw [Nat.mul_one]; exact hrow)) ?_;refine zh 8 [0,1,2,3,4,5,6,7] 11 (by exact h_pure en_l1Enabled rfl rfl (by repeat (first | exact rfl | exact DLead.same | refine ⟨_, _, rfl, ?_, ?_⟩ | refine ⟨_, rfl, ?_⟩)) hEn rfl) ?_;refine zd 9 (List.range 9) 11 (by exact g_len_view (k := L.length) rfl rfl (ints_len _)) ?_;refine zd 10 [] 11 (by exact mv1 rfl) ?_;refine zj 11 ?_;refine th_n (AC.block ?_);refine AC.loop (ι := Nat × Ex) (fun y => ⟨107, 900, [(1, .d (.ref (stgD s))), (2, .ptr 201 0), (3, .ptr 200 0), (4, aI k), (33, .d (vI L)), (34, aI L.length), (35, aI y.1)], [(200, some (.cells 141 [.own 101 y.2.marks.length, .own 102 y.2.moves.length, .own 103 (byL y.2).length, aI 0, aI (-1), aT false])), (101, some (.arr 9 1 (tsX y.2.marks))), (102, some (.arr 113 3 (mvL y.2.moves))), (103, some (.arr 113 3 (mvL (byL y.2)))), (201, some (.cells 141 zR))]⟩) (fun y => y.1 ≤ L.length ∧ k < y.2.marks.length ∧ y.2.marks[k]? = some m ∧ ExI s.net y.2 (24 * k + y.1) ∧ ByI s.net y.2 k ∧ exIn s.net k m (L.drop y.1) y.2 = Z) (fun y => L.length - y.1) ((0, x)) ?_ (⟨Nat.zero_le _, hk1, hmarks, hI, hY, hZ.symm⟩) ?_
  ·exact zw [(200, 200), (101, 101), (102, 102), (103, 103), (201, 201)] hC
  rintro ⟨j, y⟩ ⟨hj, hky, hym, hJ, hY, hin⟩;dsimp only at hj hky hym hJ hY hin ⊢;have hyn := hJ.n;have hyl := hJ.l;refine AC.seq (AC.region ?_);refine zc ?_;refine AL.nil (th_n (AC.seq ?_));refine AC.condD rfl (fun h1 => ?_) (fun h1 => ?_)
  ·refine AC.skip (th_n (AC.seq (AC.block (AC.seq ?_))));have hj1 : j < L.length := by omega
   have hget := ints_at hj1;have htm := hLin _ (List.getElem_mem hj1);obtain ⟨i, hi, hti, hfi⟩ := hfr _ (List.getElem_mem hj1);rw [List.drop_eq_getElem_cons hj1, exIn] at hin;obtain ⟨t, ht⟩ := eqx (L[j]);rw [← ht] at hget hin htm hti hfi;clear ht;have hrowy : (tsX y.marks)[k]? = some [dS (bstr m)] := by rw [List.getElem?_map, hym]; rfl
   have hti2 := hB.n.t _ (List.getElem_mem hi);have hFi := l1Fire_spec s.net m i hi (by omega) (by omega) (by omega) (hNM _ (List.getElem_mem hi)).1 (hNM _ (List.getElem_mem hi)).2;rw [← hfi, ← hti] at hFi;have hfb := fireI_bits (N := s.net) (t := t) hbm;obtain ⟨f, hf⟩ := eqx (fireI s.net m t);rw [← hf] at hFi hfb hin;clear hf hfi hti;have hbyl := byL_len hY.pos;refine AC.region ?_;refine AL.p (by exact g_ia_view rfl rfl rfl rfl rfl (by rfl) (by assumption)) rfl ?_;refine zr ?_;refine za ?_;refine AL.nil (th_n (AC.seq ?_));refine AC.drawn' mixed_ok [[], [0], [], [2], [2,3], [], [2,3,4,5], [2,3,4,5,6], [], [0,1,2,3,4,5,6,7,8], [0,1,2,3,4,5,6,7,8,9], [0,1,2,3,4,5,6,7,8,9,10], [0,1,2,3,4,5,6,7,8,9,10], [0,1,2,3,4,5,6,7,8,9,10,11], [0,1,2,3,4,5,6,7,8,9,10,11,12,13]] (by decide) ?_;refine zd 0 [] 15 (by exact g_fa_ref rfl rfl rfl rfl rfl rfl) ?_;refine zd 1 [0] 15 (by exact g_load_refN rfl rfl rfl rfl) ?_;refine zd 2 [] 15 (by exact g_fa_ptr rfl rfl rfl rfl rfl) ?_;refine zd 3 [2] 15 (by exact g_fa_ptr rfl rfl rfl rfl rfl) ?_;refine zd 4 [2,3] 15 (by exact g_load_ptr rfl rfl rfl rfl rfl) ?_;refine zd 5 [] 15 (by exact mv1 rfl) ?_;refine zd 6 [2,3,4,5] 15 (by exact g_ia_own (i := k) (l := y.marks.length) rfl rfl rfl rfl rfl rfl hky rfl) ?_;refine zd 7 [2,3,4,5,6] 15 (by exact g_load_arr1 rfl rfl rfl rfl (by rw [Nat.mul_one]; exact hrowy)) ?_;refine zd 8 [] 15 (by exact mv1 rfl) ?_;refine zh 9 (List.range 9) 15 (by exact h_pure en_l1Fire rfl rfl (by repeat (first | exact rfl | exact DLead.same | refine ⟨_, _, rfl, ?_, ?_⟩ | refine ⟨_, rfl, ?_⟩)) hFi rfl) ?_;refine zd 10 (List.range 10) 15 (by exact mv5 rfl) ?_;refine zd 11 (List.range 11) 15 (by exact g_extract (r := .d _) rfl rfl) ?_;refine zd 12 (List.range 11) 15 (by exact g_extract (r := .d _) rfl rfl) ?_;refine zd 13 (List.range 12) 15 (by exact as1 rfl) ?_;refine zd 14 (List.range 14) 15 (by exact as1 rfl) ?_;refine zj 15 ?_;refine th_n (AC.seq (AC.seq (AC.region ?_)));refine zm ?_;refine kC ?_;refine AL.nil (th_n ?_);refine AC.condB rfl (fun h2 => ?_) (fun h2 => ?_)
   ·refine AC.seq ?_;have qf : ¬ f.2 = true := by simpa using ‹(!f.2) = true›
    rw [if_neg qf] at hin;have e : F = (y, some ((k : Int), t)) := by rw [← hrun, ← hin]
    refine AC.region ?_;refine zm ?_;refine zF ?_;refine zs ?_;refine AL.nil (th_n (AC.seq (AC.region ?_)));refine zm ?_;refine zF ?_;refine zs ?_;refine AL.nil (th_n (AC.seq (AC.region ?_)));refine AL.p (by exact g_load_ptrN rfl rfl rfl rfl rfl) rfl ?_;refine zs ?_;refine AL.nil (th_n (AC.ret (th_r (ib_r (th_r (th_r (ib_r (ib_r (th_r (th_r (ib_r (th_r (bq_r ?_)))))))))))));exact retN [(0, 101), (1, 102), (2, 103)] rfl (by rw [e]; show AV.leads _ (.agg [.own 0 y.marks.length, .own 1 y.moves.length, .own 2 (byL y).length, aI (rMark (some ((k : Int), t))), aI t, aT (rFull (some ((k : Int), t)))]) _; rw [rMark_nat, rFull_nat]; repeat (first | exact DLead.same | exact rfl | refine ⟨_, rfl, ?_⟩ | refine ⟨_, _, rfl, ?_, ?_⟩)) (by rw [e]; repeat (first | exact True.intro | refine And.intro ?_ ?_ | exact rfl | refine ⟨_, _, rfl, rfl, ?_⟩)) rfl rfl
   refine AC.skip (th_n (AC.seq ?_));have qf : f.2 = true := by simpa using ‹(!f.2) = false›
   rw [if_pos qf] at hin;have hfbb := hfb qf;have hFd := l4Find_spec y.marks f.1 (by omega);have hpn := posI_neg (m := f.1) (l := y.marks);have hps := posI_nat (m := f.1) (l := y.marks);have hpb := posI_in f.1 y.marks;obtain ⟨p, hp⟩ := eqx (posI f.1 y.marks);rw [← hp] at hFd hpn hps hpb;clear hp;refine AC.region ?_;refine zF ?_;refine zF ?_;refine zl ?_;refine zm ?_;refine AL.q (by exact h_borrow [101] en_l4Find rfl rfl hFd (.cons (.of (.own (id := 101) rfl rfl (Nat.le_of_eq (tsX_len _).symm) (List.take_of_length_le (Nat.le_of_eq (tsX_len _))))) (.cons (.of .d) .nil)) rfl) rfl ?_;refine za ?_;refine AL.nil (th_n ?_);refine AC.cut (fun (z : Ex × Int × Nat × Nat × Int) => ⟨107, 1500, [(1, .d (.ref (stgD s))), (2, .ptr 201 0), (3, .ptr 200 0), (4, aI k), (6, aI t), (9, aI z.2.1), (33, .d (vI L)), (34, aI L.length), (35, aI j)], [(200, some (.cells 141 [.own 101 z.1.marks.length, .own 102 y.moves.length, .own 103 (byL z.1).length, aI 0, aI (-1), aT false])), (101, some (.arr 9 1 (tsX z.1.marks))), (102, some (.arr 113 3 (mvL y.moves))), (103, some (.arr 113 3 (mvL (byL z.1)))), (201, some (.cells 141 zR))]⟩) (fun z => exIn s.net k m (L.drop (j + 1)) z.1 = Z ∧ z.1.moves = y.moves ++ [⟨k, t, z.2.1⟩] ∧ k < z.1.marks.length ∧ z.1.marks[k]? = some m ∧ ExI s.net z.1 (24 * k + (j + 1)) ∧ ByI s.net z.1 k) ?_ ?_
   ·refine AC.seq (AC.region ?_);refine zm ?_;refine zc ?_;refine AL.nil (th_n ?_);refine AC.condD rfl (fun h3 => ?_) (fun h3 => ?_)
    ·refine AC.seq (AC.seq ?_);have hpnn := hpn (by assumption);rw [hpnn] at hin;dsimp only at hin;refine AC.region ?_;refine zF ?_;refine zF ?_;refine zl ?_;refine AL.p (by exact g_len_own (sz := 1) (els := []) (e' := 0) rfl rfl (by simp only [maxLen]; omega)) rfl ?_;refine zc ?_;refine AL.nil (th_n ?_);refine AC.condD rfl (fun h4 => ?_) (fun h4 => ?_)
     ·refine AC.seq ?_;have hlen : y.marks.length = 300 := by omega
      rw [if_pos hlen] at hin;have e : F = (y, some ((-1 : Int), (-1 : Int))) := by rw [← hrun, ← hin]
      refine AC.region ?_;refine zF ?_;refine zs ?_;refine AL.nil (th_n (AC.seq (AC.region ?_)));refine AL.p (by exact g_load_ptrN rfl rfl rfl rfl rfl) rfl ?_;refine zs ?_;refine AL.nil (th_n (AC.ret (th_r (th_r (ib_r (th_r (th_r (ib_r (ib_r (th_r (th_r (ib_r (th_r (bq_r ?_))))))))))))));exact retN [(0, 101), (1, 102), (2, 103)] rfl (by rw [e]; show AV.leads _ (.agg [.own 0 y.marks.length, .own 1 y.moves.length, .own 2 (byL y).length, aI (rMark (some ((-1 : Int), (-1 : Int)))), aI (-1), aT (rFull (some ((-1 : Int), (-1 : Int))))]) _; rw [show rMark (some ((-1 : Int), (-1 : Int))) = 0 from rfl, show rFull (some ((-1 : Int), (-1 : Int))) = true from rfl]; repeat (first | exact DLead.same | exact rfl | refine ⟨_, rfl, ?_⟩ | refine ⟨_, _, rfl, ?_, ?_⟩)) (by rw [e]; repeat (first | exact True.intro | refine And.intro ?_ ?_ | exact rfl | refine ⟨_, _, rfl, rfl, ?_⟩)) rfl rfl
     refine AC.skip (th_n (AC.seq ?_));have hlen : ¬ y.marks.length = 300 := by omega
     rw [if_neg hlen] at hin;have hnewB := hY.new_by (t := t) (m := f.1);have hnewI := hY.new (t := t) (m := f.1) hky htm;refine AC.region ?_;refine zF ?_;refine zF ?_;refine zl ?_;refine AL.p (by exact g_len_own (sz := 1) (els := []) (e' := 0) rfl rfl (by simp only [maxLen]; omega)) rfl ?_;refine za ?_;refine AL.nil (th_n (AC.seq (AC.region ?_)));refine zF ?_;refine zF ?_;refine zl ?_;refine zm ?_;refine AL.q (by exact h_litF rfl rfl rfl rfl rfl rfl rfl rfl) rfl ?_;refine AL.q (by exact h_appendX y.marks [f.1] (.own rfl rfl (tsX_len _).symm) (.view rfl) (by rw [List.length_append]; simp only [List.length_cons, List.length_nil]; omega) (by simp)) rfl ?_;refine zF ?_;refine zF ?_;refine zs ?_;refine AL.nil (th_n (AC.region ?_));refine zF ?_;refine zl ?_;refine zm ?_;refine zm ?_;refine zm ?_;refine AL.p (by exact g_build rfl rfl rfl) rfl ?_;refine AL.q (by exact h_litF rfl rfl rfl rfl rfl rfl rfl rfl) rfl ?_;refine AL.q (by exact h_appendMv (byL y) [⟨k, t, y.marks.length⟩] (.own rfl rfl (mvL_len _).symm) (.view rfl) (by rw [List.length_append]; simp only [List.length_cons, List.length_nil]; omega) (by simp)) rfl ?_;refine zF ?_;refine zs ?_;refine AL.nil (th_n ?_)
     (have hpnn := hpn (by assumption); exact ⟨(⟨y.marks ++ [f.1], y.moves ++ [⟨k, t, y.marks.length⟩]⟩, (y.marks.length : Int), 0, 0, 0), ⟨hin, rfl, by dsimp only; rw [List.length_append]; omega, by dsimp only; rw [List.getElem?_append_left hky]; exact hym, ⟨by dsimp only; rw [List.length_append]; simp only [List.length_cons, List.length_nil]; omega, fun a ha => (List.mem_append.1 ha).elim (hJ.b a) (fun g => by rw [List.mem_singleton.1 g]; exact hfbb), by dsimp only; rw [List.length_append]; simp only [List.length_cons, List.length_nil]; omega⟩, hnewI⟩, zw [(200, 200), (101, _), (102, 102), (103, _), (201, 201)] hC (b := by dsimp only; rw [hnewB]; repeat (first | exact True.intro | refine And.intro ?_ ?_ | exact DLead.same | exact rfl | refine ⟨_, _, rfl, rfl, ?_⟩ | refine ⟨_, rfl, ?_⟩ | refine ⟨_, _, rfl, ?_, ?_⟩))⟩)
    refine AC.skip (th_n ?_)
    (obtain ⟨i2, hi2, hpi2⟩ := hps (by assumption); rw [hi2] at hin; dsimp only at hin; have hi2l := posL_lt hi2; exact ⟨(⟨y.marks, y.moves ++ [⟨k, t, (i2 : Int)⟩]⟩, (i2 : Int), 0, 0, 0), ⟨hin, rfl, hky, hym, ⟨hyn, hJ.b, by dsimp only; rw [List.length_append]; simp only [List.length_cons, List.length_nil]; omega⟩, hY.known hky hi2l htm⟩, zw [(200, 200), (101, 101), (102, 102), (103, 103), (201, 201)] hC (by rw [hpi2]; repeat (first | exact True.intro | refine And.intro ?_ ?_ | exact DLead.same | exact rfl | refine ⟨_, rfl, ?_⟩)) (by dsimp only; rw [hY.known_by]; repeat (first | exact True.intro | refine And.intro ?_ ?_ | exact DLead.same | exact rfl | refine ⟨_, _, rfl, rfl, ?_⟩ | refine ⟨_, rfl, ?_⟩ | refine ⟨_, _, rfl, ?_, ?_⟩))⟩)
   rintro ⟨z, v2, _, _, _⟩ ⟨hz1, hz2, hz3, hz4, hz5, hz6⟩;dsimp only at hz1 hz2 hz3 hz4 hz5 hz6 ⊢;refine AC.region ?_;refine zF ?_;refine zF ?_;refine zl ?_;refine zm ?_;refine zm ?_;refine zm ?_;refine AL.p (by exact g_build rfl rfl rfl) rfl ?_;refine AL.q (by exact h_litF rfl rfl rfl rfl rfl rfl rfl rfl) rfl ?_;refine AL.q (by exact h_appendMv y.moves [⟨k, t, v2⟩] (.own rfl rfl (mvL_len _).symm) (.view rfl) (by rw [List.length_append]; simp only [List.length_cons, List.length_nil]; omega) (by simp)) rfl ?_;refine zF ?_;refine zF ?_;refine zs ?_;refine AL.nil (ib_n (th_n (AC.region ?_)));refine zA ?_;refine zm ?_;refine AL.nil (th_n ?_);exact ⟨(j + 1, z), ⟨by dsimp only; omega, hz3, hz4, hz5, hz6, hz1⟩, by dsimp only; omega, zw [(200, 200), (101, 101), (102, _), (103, 103), (201, 201)] hC (b := by dsimp only; rw [hz2]; repeat (first | exact True.intro | refine And.intro ?_ ?_ | exact DLead.same | exact rfl | refine ⟨_, _, rfl, rfl, ?_⟩ | refine ⟨_, rfl, ?_⟩ | refine ⟨_, _, rfl, ?_, ?_⟩))⟩
  refine AC.exit (th_e (th_e (ib_y (ib_n (th_n (AC.region ?_))))));refine zm ?_;refine zA ?_;refine za ?_;refine AL.nil (th_n ?_);have hjj : j = L.length := by omega
  rw [hjj, List.drop_length, exIn] at hin;rw [← hin] at hrun;dsimp only at hrun;exact ⟨(k + 1, y), ⟨by dsimp only; omega, ⟨hyn, hJ.b, by dsimp only; omega⟩, hY.up, by rw [show 301 - (k + 1) = n by omega]; exact hrun⟩, by dsimp only; omega, zw [(200, 200), (101, 101), (102, 102), (103, 103), (201, 201)] hC⟩
 refine AC.exit (th_e (th_e (ib_y (th_n (AC.seq ?_)))));have e : F = (x, none) := (exOut_end (by omega) (by omega) hrun).symm;refine AC.region ?_;refine AL.p (by exact g_load_ptrN rfl rfl rfl rfl rfl) rfl ?_;refine zs ?_;refine AL.nil (th_n (AC.ret (bq_r ?_)));exact retN [(0, 101), (1, 102), (2, 103)] rfl (by rw [e]; show AV.leads _ (.agg [.own 0 x.marks.length, .own 1 x.moves.length, .own 2 (byL x).length, aI 0, aI (-1), aT false]) _; repeat (first | exact DLead.same | exact rfl | refine ⟨_, rfl, ?_⟩ | refine ⟨_, _, rfl, ?_, ?_⟩)) (by rw [e]; repeat (first | exact True.intro | refine And.intro ?_ ?_ | exact rfl | refine ⟨_, _, rfl, rfl, ?_⟩)) rfl rfl
theorem en_sReach : Enters Tryz.prog 97 := enters_of Tryz.func97 rfl rfl
theorem Fires.push {N : Net} {x : Ex} {v : Mv} (h : Fires N x v) (m : List UInt8) (M : List Mv) : Fires N ⟨x.marks ++ [m], M⟩ v := by
 obtain ⟨f, u, h1, h2, h3, h4, h5⟩ := h;exact ⟨f, u, h1, h2, by dsimp only; rw [List.length_append]; omega, by dsimp only; rw [List.length_append]; omega, by rw [mkAt_push h3, mkAt_push h4]; exact h5⟩
theorem exIn_res {N : Net} {k : Nat} {m : List UInt8} : ∀ (L : List Int) {x : Ex}, (∀ t, t ∈ L → t ∈ readyL N m N.ts.length) → k < x.marks.length → mkAt x k = m → (∀ v, v ∈ x.moves → Fires N x v) →
  (∀ v, v ∈ (exIn N k m L x).1.moves → Fires N (exIn N k m L x).1 v) ∧ mkAt (exIn N k m L x).1 k = m ∧ k < (exIn N k m L x).1.marks.length ∧ ∀ p, (exIn N k m L x).2 = some p → p = (-1, -1) ∨ ∃ t, p = ((k : Int), t) ∧ t ∈ readyL N m N.ts.length ∧ (fireI N m t).2 = false
 | [], x, hL, hk, hm, hF => ⟨hF, hm, hk, fun p h => by cases h⟩
 | t :: ts, x, hL, hk, hm, hF => by
  have hT : ∀ u, u ∈ ts → u ∈ readyL N m N.ts.length := fun u hu => hL u (List.mem_cons_of_mem _ hu)
  rw [exIn]
  split
  ·rename_i hf;have hfp : fireI N m t = ((fireI N m t).1, true) := by rw [← hf]
   split
   ·rename_i i he;refine exIn_res ts hT hk hm fun v hv => ?_
    rcases List.mem_append.1 hv with g | g
    ·exact hF v g
    rw [List.mem_singleton.1 g];have hi := posL_lt he;have hg := posL_get he;refine ⟨k, i, rfl, rfl, hk, hi, ?_⟩;show fireI N (mkAt x k) t = (mkAt x i, true);rw [hm, hfp, mkAt_nat hi];rw [List.getElem?_eq_getElem hi] at hg;rw [Option.some.inj hg]
   split
   ·exact ⟨hF, hm, hk, fun p h => .inl (Option.some.inj h).symm⟩
   refine exIn_res ts hT (by dsimp only; rw [List.length_append]; omega) ((mkAt_push hk).trans hm) fun v hv => ?_
   rcases List.mem_append.1 hv with g | g
   ·exact (hF v g).push _ _
   rw [List.mem_singleton.1 g];refine ⟨k, x.marks.length, rfl, rfl, by dsimp only; rw [List.length_append]; omega, by dsimp only; rw [List.length_append]; simp, ?_⟩;rw [mkAt_push hk, mkAt_last, hm];exact hfp
  rename_i hf;exact ⟨hF, hm, hk, fun p h => .inr ⟨t, (Option.some.inj h).symm, hL t (List.mem_cons_self ..), by simpa using hf⟩⟩
theorem exOut_res {N : Net} : ∀ (n k : Nat) {x : Ex}, (∀ v, v ∈ x.moves → Fires N x v) →
  (∀ v, v ∈ (exOut N n k x).1.moves → Fires N (exOut N n k x).1 v) ∧ ∀ p, (exOut N n k x).2 = some p → p = (-1, -1) ∨ ∃ (j : Nat) (t : Int), p = ((j : Int), t) ∧ j < (exOut N n k x).1.marks.length ∧ t ∈ readyL N (mkAt (exOut N n k x).1 j) N.ts.length ∧ (fireI N (mkAt (exOut N n k x).1 j) t).2 = false
 | 0, k, x, h => ⟨h, fun p e => by cases e⟩
 | n + 1, k, x, h => by
  rw [exOut]
  split
  ·rename_i hk;have h1 := exIn_res (readyL N (mkAt x k) N.ts.length) (fun t ht => ht) hk rfl h
   split
   ·rename_i y e;rw [e] at h1;exact exOut_res n (k + 1) h1.1
   refine ⟨h1.1, fun p hp => ?_⟩;rcases h1.2.2.2 p hp with g | ⟨t, g1, g2, g3⟩
   ·exact .inl g
   exact .inr ⟨k, t, g1, h1.2.2.1, by rw [h1.2.1]; exact g2, by rw [h1.2.1]; exact g3⟩
  exact ⟨h, fun p e => by cases e⟩
theorem explR_res (N : Net) (m : List UInt8) : (∀ v, v ∈ (explR N m).1.moves → Fires N (explR N m).1 v) ∧ ∀ p, (explR N m).2 = some p → p = (-1, -1) ∨ ∃ (j : Nat) (t : Int), p = ((j : Int), t) ∧ j < (explR N m).1.marks.length ∧ t ∈ readyL N (mkAt (explR N m).1 j) N.ts.length ∧ (fireI N (mkAt (explR N m).1 j) t).2 = false := exOut_res 301 0 fun v hv => by simp at hv
theorem explR_end (N : Net) (m : List UInt8) : (explR N m).2 = none ∨ (explR N m).2 = some (-1, -1) ∨ ∃ (j : Nat) (t : Int), (explR N m).2 = some ((j : Int), t) ∧ j < (explR N m).1.marks.length ∧ 0 ≤ t ∧ t < N.ts.length := by
 cases h : (explR N m).2 with
 | none => exact .inl rfl
 | some p =>
  rcases (explR_res N m).2 p h with rfl | ⟨j, t, rfl, h1, h2, _⟩
  ·exact .inr (.inl rfl)
  exact .inr (.inr ⟨j, t, rfl, h1, readyL_in _ _ _ _ h2⟩)
theorem ref_end (N : Net) (m : List UInt8) : (exB (explR N m) = true → rBad (explR N m).2 < 0 ∧ rFull (explR N m).2 = false) ∧ (exB (explR N m) = false → 0 ≤ rBad (explR N m).2 ∨ rFull (explR N m).2 = true) := by
 unfold exB;rcases explR_end N m with g | g | ⟨j, t, g, _, g2, _⟩ <;> rw [g]
 ·exact ⟨fun _ => ⟨by decide, rfl⟩, fun h => by cases h⟩
 ·exact ⟨fun h => (by cases h), fun _ => .inr rfl⟩
 exact ⟨fun h => (by cases h), fun _ => .inl g2⟩
set_option maxHeartbeats 4000000 in
theorem sExplore_spec (s : Stg) (hB : StgB s) : ASpec Tryz.prog 68 [stgA s] [] (Fun1 (.tup [.agg [.own 0 (explS s).1.marks.length, .own 1 (explS s).1.moves.length], aT (explS s).2]) [(0, .arr 9 1 (tsX (explS s).1.marks)), (1, .arr 113 3 (mvL (explS s).1.moves))]) := by
 have hV := l2Good_spec s hB.L;have hX := sReach_spec s hB;have hend := ref_end s.net s.start;have hR : explS s = if (goodS s && exB (explR s.net s.start)) = true then ((explR s.net s.start).1, true) else (⟨[], []⟩, false) := rfl
 obtain ⟨b, hb⟩ := eqx (goodS s);rw [← hb] at hV hX hR;obtain ⟨F, hF⟩ := eqx (explR s.net s.start);rw [← hF] at hX hR hend;obtain ⟨G, hG⟩ := eqx (explS s);rw [← hG] at hR ⊢;have hN1 : b = false → G = (⟨[], []⟩, false) := fun q => hR.trans (if_neg (by rw [q]; simp))
 have hN2 : exB F = false → G = (⟨[], []⟩, false) := fun q => hR.trans (if_neg (by rw [q]; simp))
 have hY2 : b = true → exB F = true → G = (F.1, true) := fun q1 q2 => hR.trans (if_pos (by rw [q1, q2]; rfl))
 clear hG hb hF;refine ASpec.of Tryz.func68 rfl rfl fun C hC => ?_
 refine AC.seq (AC.region ?_);refine kD ?_;refine kE ?_;refine za ?_;refine AL.nil (th_n (AC.seq (AC.seq (AC.region ?_))));refine kG ?_;refine kV en_l2Good hV ?_;refine kC ?_;refine AL.nil (th_n ?_);refine AC.condB rfl (fun h0 => ?_) (fun h0 => ?_)
 ·refine AC.seq (AC.region ?_);refine AL.p (by exact g_build rfl rfl rfl) rfl ?_;refine zs ?_;refine za ?_;refine AL.nil (th_n ?_);refine AC.weak ((Weak.nilOwnP 2 0 (e := 9) (sz := 1) rfl rfl rfl rfl rfl).trans (Weak.nilOwnP 2 1 (e := 113) (sz := 3) rfl rfl rfl rfl rfl)) ?_;refine AC.ret (th_r (bq_r ?_));have e := hN1 (by simpa using h0);exact retN [(0, 32), (1, 40)] rfl (by rw [e]; show AV.leads _ (.tup [.agg [.own 0 0, .own 1 0], aT false]) _; repeat (first | exact DLead.same | exact rfl | refine ⟨_, rfl, ?_⟩ | refine ⟨_, _, rfl, ?_, ?_⟩)) (by rw [e]; repeat (first | exact True.intro | refine And.intro ?_ ?_ | exact rfl | refine ⟨_, _, rfl, rfl, ?_⟩)) rfl rfl
 refine AC.skip (th_n (AC.seq ?_));have q1 : b = true := by simpa using h0
 have hX2 := hX q1;refine AC.region ?_;refine kG ?_;refine kU [] en_sReach hX2 ?_;refine kE ?_;refine zs ?_;refine AL.nil (th_n (AC.seq (AC.seq ?_)));refine AC.weak (t := ⟨21, 300, [(2, .ptr 201 0), (3, aT false), (4, .ptr 200 0)], [(200, some (.cells 141 (refA F 101 102 103))), (201, some (.cells 106 zRG)), (101, some (.arr 9 1 (tsX F.1.marks))), (102, some (.arr 113 3 (mvL F.1.moves))), (103, some (.arr 113 3 (mvL (byL F.1))))]⟩) (zw [(200, _), (201, _), (101, _), (102, _), (103, _)] hC) ?_;refine AC.region ?_;refine zF ?_;refine zl ?_;refine zc ?_;refine zm ?_;refine AL.caseG rfl rfl (fun h1 => ?_) (fun h1 => ?_)
 ·refine zn ?_;refine zn ?_;refine zQ ?_;refine AL.nil (th_n ?_);refine AC.condT rfl ?_;refine AC.seq (AC.region ?_);refine AL.p (by exact g_build rfl rfl rfl) rfl ?_;refine zs ?_;refine za ?_;refine AL.nil (th_n ?_);refine AC.weak ((Weak.nilOwnP 2 0 (e := 9) (sz := 1) rfl rfl rfl rfl rfl).trans (Weak.nilOwnP 2 1 (e := 113) (sz := 3) rfl rfl rfl rfl rfl)) ?_;refine AC.ret (th_r (bq_r ?_));have hbad : exB F = false := by refine Bool.eq_false_iff.2 fun q => ?_; obtain ⟨q1, q2⟩ := hend.1 q; omega
  have e := hN2 hbad;exact retN [(0, _), (1, _)] rfl (by rw [e]; show AV.leads _ (.tup [.agg [.own 0 0, .own 1 0], aT false]) _; repeat (first | exact DLead.same | exact rfl | refine ⟨_, rfl, ?_⟩ | refine ⟨_, _, rfl, ?_, ?_⟩)) (by rw [e]; repeat (first | exact True.intro | refine And.intro ?_ ?_ | exact rfl | refine ⟨_, _, rfl, rfl, ?_⟩)) rfl rfl
 refine zy ?_;refine zF ?_;refine zy ?_;refine zl ?_;refine zP ?_;refine AL.nil (th_n ?_);refine AC.condB rfl (fun h2 => ?_) (fun h2 => ?_)
 ·refine AC.seq (AC.region ?_);refine AL.p (by exact g_build rfl rfl rfl) rfl ?_;refine zs ?_;refine za ?_;refine AL.nil (th_n ?_);refine AC.weak ((Weak.nilOwnP 2 0 (e := 9) (sz := 1) rfl rfl rfl rfl rfl).trans (Weak.nilOwnP 2 1 (e := 113) (sz := 3) rfl rfl rfl rfl rfl)) ?_;refine AC.ret (th_r (bq_r ?_));have hbad : exB F = false := by refine Bool.eq_false_iff.2 fun q => ?_; obtain ⟨q1, q2⟩ := hend.1 q; (rw [q2] at *; simp_all)
  have e := hN2 hbad;exact retN [(0, _), (1, _)] rfl (by rw [e]; show AV.leads _ (.tup [.agg [.own 0 0, .own 1 0], aT false]) _; repeat (first | exact DLead.same | exact rfl | refine ⟨_, rfl, ?_⟩ | refine ⟨_, _, rfl, ?_, ?_⟩)) (by rw [e]; repeat (first | exact True.intro | refine And.intro ?_ ?_ | exact rfl | refine ⟨_, _, rfl, rfl, ?_⟩)) rfl rfl
 refine AC.skip (th_n (AC.seq (AC.region ?_)));refine zF ?_;refine AL.p (by exact g_load_ptrN rfl rfl rfl rfl rfl) rfl ?_;refine zs ?_;refine za ?_;refine AL.nil (th_n (AC.ret (bq_r ?_)));have hgood : exB F = true := by refine Bool.not_eq_false _ ▸ fun q => ?_; rcases hend.2 q with q | q; (omega); (simp_all)
 have e := hY2 q1 hgood;exact retN [(0, 101), (1, 102)] rfl (by rw [e]; show AV.leads _ (.tup [.agg [.own 0 F.1.marks.length, .own 1 F.1.moves.length], aT true]) _; repeat (first | exact DLead.same | exact rfl | refine ⟨_, rfl, ?_⟩ | refine ⟨_, _, rfl, ?_, ?_⟩)) (by rw [e]; repeat (first | exact True.intro | refine And.intro ?_ ?_ | exact rfl | refine ⟨_, _, rfl, rfl, ?_⟩)) rfl rfl
theorem en_sExplore : Enters Tryz.prog 68 := enters_of Tryz.func68 rfl rfl
structure Ar where
 from_ : Int
 sig : Int
 up : Bool
 to_ : Int
 deriving DecidableEq
def vAt (V : List (Option Bool)) (i : Nat) : Option Bool := V.getD i none
theorem vAt_get {V : List (Option Bool)} {i : Nat} (h : i < V.length) : vAt V i = V[i] := by unfold vAt; rw [List.getD_eq_getElem?_getD, List.getElem?_eq_getElem h]; rfl
theorem vAt_set {V : List (Option Bool)} {i j : Nat} {x : Option Bool} : vAt (V.set i x) j = if j = i ∧ i < V.length then x else vAt V j := by
 unfold vAt;rw [List.getD_eq_getElem?_getD, List.getD_eq_getElem?_getD, List.getElem?_set]
 by_cases e : i = j
 ·subst e
  by_cases h : i < V.length
  ·rw [if_pos rfl, if_pos h, if_pos ⟨rfl, h⟩]; rfl
  rw [if_pos rfl, if_neg h, if_neg (fun q => h q.2), List.getElem?_eq_none (by omega)]
 rw [if_neg e, if_neg (fun q => e q.1.symm)]
theorem set_same {V : List (Option Bool)} {i : Nat} {x : Option Bool} (h : i < V.length) (hx : vAt V i = x) : V.set i x = V := by
 rw [vAt_get h] at hx;rw [← hx, List.set_getElem_self]
def putV (V : List (Option Bool)) (i : Nat) (b : Bool) : Option (List (Option Bool)) := match vAt V i with | none => some (V.set i (some b)) | some x => if x = b then some V else none
def joinV (V : List (Option Bool)) (i j : Nat) : Option (List (Option Bool)) := match vAt V i, vAt V j with
 | none, none => some V
 | none, some y => some (V.set i (some y))
 | some x, none => some (V.set j (some x))
 | some x, some y => if x = y then some V else none
def stepV (sg : Int) (a : Ar) (V : List (Option Bool)) : Option (List (Option Bool)) := if a.sig = sg then (putV V a.from_.toNat (!a.up)).bind (fun W => putV W a.to_.toNat a.up) else joinV V a.from_.toNat a.to_.toNat
def passV (sg : Int) : List Ar → List (Option Bool) → Option (List (Option Bool))
 | [], V => some V
 | a :: l, V => (stepV sg a V).bind (passV sg l)
def iterV (sg : Int) (L : List Ar) : Nat → List (Option Bool) → Option (List (Option Bool))
 | 0, V => some V
 | k + 1, V => (passV sg L V).bind (iterV sg L k)
def valF (sg : Int) (L : List Ar) (n : Nat) : Option (List (Option Bool)) := iterV sg L (n + 1) (List.replicate n none)
def cnN (V : List (Option Bool)) : Nat := V.countP Option.isNone
theorem cnN_set : ∀ {V : List (Option Bool)} {i : Nat} {b : Bool}, i < V.length → vAt V i = none → cnN (V.set i (some b)) + 1 = cnN V
 | [], i, b, h, _ => by simp at h
 | x :: V, 0, b, h, hn => by
  have hx : x = none := hn;subst hx;unfold cnN;rw [List.set_cons_zero, List.countP_cons, List.countP_cons]; simp
 | x :: V, i + 1, b, h, hn => by
  have ih := cnN_set (V := V) (i := i) (b := b) (by simpa using h) (by simpa [vAt] using hn);unfold cnN at ih ⊢;rw [List.set_cons_succ, List.countP_cons, List.countP_cons];omega
def Ups (V W : List (Option Bool)) : Prop := W.length = V.length ∧ (∀ i x, vAt V i = some x → vAt W i = some x) ∧ (W = V ∨ cnN W < cnN V)
theorem Ups.refl (V : List (Option Bool)) : Ups V V := ⟨rfl, fun _ _ h => h, .inl rfl⟩
theorem Ups.trans {V W Z : List (Option Bool)} (h : Ups V W) (k : Ups W Z) : Ups V Z := ⟨k.1.trans h.1, fun i x g => k.2.1 i x (h.2.1 i x g), by
 rcases h.2.2 with rfl | h1
 ·exact k.2.2
 rcases k.2.2 with rfl | k1
 ·exact .inr h1
 exact .inr (Nat.lt_trans k1 h1)⟩
theorem Ups.set {V : List (Option Bool)} {i : Nat} (h : i < V.length) (hn : vAt V i = none) (b : Bool) : Ups V (V.set i (some b)) := ⟨List.length_set .., fun j x g => by
 rw [vAt_set]
 split
 ·rename_i q; rw [q.1, hn] at g; cases g
 exact g, .inr (by have := cnN_set (b := b) h hn; omega)⟩
theorem putV_ups {V W : List (Option Bool)} {i : Nat} {b : Bool} (hi : i < V.length) (h : putV V i b = some W) : Ups V W := by
 unfold putV at h
 split at h
 ·rename_i hn; cases h; exact Ups.set hi hn b
 split at h
 ·cases h; exact Ups.refl V
 cases h
theorem joinV_ups {V W : List (Option Bool)} {i j : Nat} (hi : i < V.length) (hj : j < V.length) (h : joinV V i j = some W) : Ups V W := by
 unfold joinV at h
 split at h
 ·cases h; exact Ups.refl V
 ·rename_i h1 h2; cases h; exact Ups.set hi h1 _
 ·rename_i h1 h2; cases h; exact Ups.set hj h2 _
 split at h
 ·cases h; exact Ups.refl V
 cases h
def ArIn (n : Nat) (a : Ar) : Prop := (0 ≤ a.from_ ∧ a.from_ < n) ∧ 0 ≤ a.to_ ∧ a.to_ < n
theorem stepV_ups {sg : Int} {a : Ar} {V W : List (Option Bool)} (ha : ArIn V.length a) (h : stepV sg a V = some W) : Ups V W := by
 obtain ⟨h1, h2⟩ := ha;unfold stepV at h
 split at h
 ·cases hp : putV V a.from_.toNat (!a.up) with
  | none => rw [hp] at h; cases h
  | some Z =>
   rw [hp] at h;have k1 := putV_ups (by omega) hp;exact k1.trans (putV_ups (by rw [k1.1]; omega) h)
 exact joinV_ups (by omega) (by omega) h
theorem passV_ups {sg : Int} {n : Nat} : ∀ {L : List Ar} {V W : List (Option Bool)}, V.length = n → (∀ a, a ∈ L → ArIn n a) → passV sg L V = some W → Ups V W
 | [], V, W, _, _, h => by cases h; exact Ups.refl V
 | a :: L, V, W, hl, hL, h => by
  rw [passV] at h;cases hs : stepV sg a V with
  | none => rw [hs] at h; cases h
  | some Z =>
   rw [hs] at h;have k1 := stepV_ups (by rw [hl]; exact hL a (List.mem_cons_self ..)) hs;exact k1.trans (passV_ups (k1.1.trans hl) (fun b hb => hL b (List.mem_cons_of_mem _ hb)) h)
theorem iterV_fail {sg : Int} {L : List Ar} {V : List (Option Bool)} (h : passV sg L V = none) {k : Nat} (hk : 1 ≤ k) : iterV sg L k V = none := by
 obtain ⟨q, rfl⟩ : ∃ q, k = q + 1 := ⟨k - 1, by omega⟩;rw [iterV, h]; rfl
def stepR (sg : Int) (a : Ar) (V : List (Option Bool)) : Option (List (Option Bool)) :=
 if a.sig = sg then
  (if (vAt V a.from_.toNat = some a.up ∨ vAt V a.to_.toNat = some (!a.up)) then none else some ((V.set a.from_.toNat (some (!a.up))).set a.to_.toNat (some a.up)))
 else joinV V a.from_.toNat a.to_.toNat
def passR (sg : Int) : List Ar → List (Option Bool) → Option (List (Option Bool))
 | [], V => some V
 | a :: l, V => (stepR sg a V).bind (passR sg l)
def iterR (sg : Int) (L : List Ar) : Nat → List (Option Bool) → Option (List (Option Bool))
 | 0, V => some V
 | k + 1, V => (passR sg L V).bind (iterR sg L k)
theorem nb_ne (b : Bool) {x : Bool} (h : ¬ x = b) : x = !b := by cases b <;> cases x <;> simp_all
theorem stepR_eq {sg : Int} {a : Ar} {V : List (Option Bool)} (ha : ArIn V.length a) (hne : a.sig = sg → a.from_ ≠ a.to_) : stepR sg a V = stepV sg a V := by
 obtain ⟨h1, h2⟩ := ha;unfold stepR stepV
 by_cases hs : a.sig = sg
 ·rw [if_pos hs, if_pos hs];have hft : a.to_.toNat ≠ a.from_.toNat := by have := hne hs; omega
  have hf : a.from_.toNat < V.length := by omega
  have ht : a.to_.toNat < V.length := by omega
  unfold putV;cases e1 : vAt V a.from_.toNat with
  | none =>
   have hz : vAt (V.set a.from_.toNat (some (!a.up))) a.to_.toNat = vAt V a.to_.toNat := by rw [vAt_set, if_neg (fun q => hft q.1)]
   simp only [reduceCtorEq, false_or, Option.bind_some];rw [hz];cases e2 : vAt V a.to_.toNat with
   | none => rw [if_neg (by simp)]
   | some y =>
    by_cases q : y = a.up
    ·subst q;rw [if_neg (by simp)];simp only [if_true];rw [set_same (by rw [List.length_set]; exact ht) (hz.trans e2)]
    have q2 := nb_ne _ q;subst q2;rw [if_pos rfl];simp
  | some x =>
   by_cases q : x = !a.up
   ·subst q;simp only [if_true, Option.bind_some];rw [set_same hf e1];cases e2 : vAt V a.to_.toNat with
    | none => rw [if_neg (by simp)]
    | some y =>
     by_cases q : y = a.up
     ·subst q;rw [if_neg (by simp)];simp only [if_true];rw [set_same ht e2]
     have q2 := nb_ne _ q;subst q2;rw [if_pos (.inr rfl)];simp
   have q2 : x = a.up := by cases x <;> cases hu : a.up <;> simp_all
   subst q2;rw [if_pos (.inl rfl)];simp
 rw [if_neg hs, if_neg hs]
theorem stepR_mono {sg : Int} {a : Ar} {V W : List (Option Bool)} (ha : ArIn V.length a) (h : stepR sg a V = some W) : W.length = V.length ∧ ∀ i, (vAt V i).isSome = true → (vAt W i).isSome = true := by
 obtain ⟨h1, h2⟩ := ha;unfold stepR at h
 split at h
 ·split at h
  ·cases h
  cases h;refine ⟨by rw [List.length_set, List.length_set], fun i hi => ?_⟩;rw [vAt_set]
  split
  ·rfl
  rw [vAt_set]; split
  ·rfl
  exact hi
 have := joinV_ups (by omega) (by omega) h;refine ⟨this.1, fun i hi => ?_⟩;cases e : vAt V i with
 | none => rw [e] at hi; cases hi
 | some x => rw [this.2.1 i x e]; rfl
theorem passR_mono {sg : Int} {n : Nat} : ∀ {L : List Ar} {V W : List (Option Bool)}, V.length = n → (∀ a, a ∈ L → ArIn n a) → passR sg L V = some W → W.length = n ∧ ∀ i, (vAt V i).isSome = true → (vAt W i).isSome = true
 | [], V, W, hl, _, h => by cases h; exact ⟨hl, fun _ h => h⟩
 | a :: L, V, W, hl, hL, h => by
  rw [passR] at h;cases hs : stepR sg a V with
  | none => rw [hs] at h; cases h
  | some Z =>
   rw [hs] at h;have k1 := stepR_mono (by rw [hl]; exact hL a (List.mem_cons_self ..)) hs;have k2 := passR_mono (k1.1.trans hl) (fun b hb => hL b (List.mem_cons_of_mem _ hb)) h;exact ⟨k2.1, fun i hi => k2.2 i (k1.2 i hi)⟩
theorem passR_eq {sg : Int} {n : Nat} : ∀ {L : List Ar} {V : List (Option Bool)}, V.length = n → (∀ a, a ∈ L → ArIn n a) → (∀ a, a ∈ L → a.sig = sg → a.from_ ≠ a.to_) → passR sg L V = passV sg L V
 | [], V, _, _, _ => rfl
 | a :: L, V, hl, hL, hN => by
  have ha : ArIn V.length a := by rw [hl]; exact hL a (List.mem_cons_self ..)
  rw [passR, passV, stepR_eq ha (hN a (List.mem_cons_self ..))];cases hs : stepV sg a V with
  | none => rfl
  | some Z =>
   have k1 := stepV_ups ha hs;exact passR_eq (k1.1.trans hl) (fun b hb => hL b (List.mem_cons_of_mem _ hb)) (fun b hb => hN b (List.mem_cons_of_mem _ hb))
theorem iterR_eq {sg : Int} {n : Nat} {L : List Ar} (hL : ∀ a, a ∈ L → ArIn n a) (hN : ∀ a, a ∈ L → a.sig = sg → a.from_ ≠ a.to_) : ∀ (k : Nat) {V : List (Option Bool)}, V.length = n → iterR sg L k V = iterV sg L k V
 | 0, V, _ => rfl
 | k + 1, V, hl => by
  rw [iterR, iterV, passR_eq hl hL hN];cases hp : passV sg L V with
  | none => rfl
  | some W => exact iterR_eq hL hN k ((passV_ups hl hL hp).1.trans hl)
theorem selfV {sg : Int} {n : Nat} {a : Ar} (h1 : a.sig = sg) (h2 : a.from_ = a.to_) : ∀ {L : List Ar} {V : List (Option Bool)}, V.length = n → (∀ b, b ∈ L → ArIn n b) → a ∈ L → passV sg L V = none
 | b :: L, V, hl, hL, ha => by
  have hb : ArIn V.length b := by rw [hl]; exact hL b (List.mem_cons_self ..)
  rw [passV];rcases List.mem_cons.1 ha with rfl | ha
  ·have hs : stepV sg a V = none := by
    obtain ⟨g1, g2⟩ := hb;unfold stepV;rw [if_pos h1];cases hp : putV V a.from_.toNat (!a.up) with
    | none => rfl
    | some Z =>
     have hz : vAt Z a.from_.toNat = some (!a.up) := by
      unfold putV at hp
      split at hp
      ·cases hp; rw [vAt_set, if_pos ⟨rfl, by omega⟩]
      rename_i x e
      split at hp
      ·rename_i q; cases hp; rw [e, q]
      cases hp
     rw [Option.bind_some];unfold putV;rw [← h2, hz];simp
   rw [hs]; rfl
  cases hs : stepV sg b V with
  | none => rfl
  | some Z =>
   have k1 := stepV_ups hb hs;exact selfV h1 h2 (k1.1.trans hl) (fun c hc => hL c (List.mem_cons_of_mem _ hc)) ha
theorem selfR1 {sg : Int} {n : Nat} {a : Ar} (h1 : a.sig = sg) (h2 : a.from_ = a.to_) : ∀ {L : List Ar} {V W : List (Option Bool)}, V.length = n → (∀ b, b ∈ L → ArIn n b) → a ∈ L → passR sg L V = some W → (vAt W a.from_.toNat).isSome = true
 | b :: L, V, W, hl, hL, ha, h => by
  have hb : ArIn V.length b := by rw [hl]; exact hL b (List.mem_cons_self ..)
  have hT : ∀ c, c ∈ L → ArIn n c := fun c hc => hL c (List.mem_cons_of_mem _ hc)
  rw [passR] at h;cases hs : stepR sg b V with
  | none => rw [hs] at h; cases h
  | some Z =>
   rw [hs] at h;have k1 := stepR_mono hb hs;rcases List.mem_cons.1 ha with rfl | ha
   ·have hz : (vAt Z a.from_.toNat).isSome = true := by
     obtain ⟨g1, g2⟩ := hb;unfold stepR at hs;rw [if_pos h1] at hs
     split at hs
     ·cases hs
     cases hs;rw [← h2, vAt_set, if_pos ⟨rfl, by rw [List.length_set]; omega⟩]; rfl
    exact (passR_mono (k1.1.trans hl) hT h).2 _ hz
   exact selfR1 h1 h2 (k1.1.trans hl) hT ha h
theorem selfR2 {sg : Int} {n : Nat} {a : Ar} (h1 : a.sig = sg) (h2 : a.from_ = a.to_) : ∀ {L : List Ar} {V : List (Option Bool)}, V.length = n → (∀ b, b ∈ L → ArIn n b) → a ∈ L → (vAt V a.from_.toNat).isSome = true → passR sg L V = none
 | b :: L, V, hl, hL, ha, hv => by
  have hb : ArIn V.length b := by rw [hl]; exact hL b (List.mem_cons_self ..)
  rw [passR];cases hs : stepR sg b V with
  | none => rfl
  | some Z =>
   have k1 := stepR_mono hb hs;rcases List.mem_cons.1 ha with rfl | ha
   ·exfalso;unfold stepR at hs;rw [if_pos h1, ← h2] at hs;cases e : vAt V a.from_.toNat with
    | none => rw [e] at hv; cases hv
    | some x =>
     rw [e] at hs
     by_cases q : x = a.up
     ·subst q; rw [if_pos (.inl rfl)] at hs; cases hs
     have q2 := nb_ne _ q;subst q2;rw [if_pos (.inr rfl)] at hs; cases hs
   exact selfR2 h1 h2 (k1.1.trans hl) (fun c hc => hL c (List.mem_cons_of_mem _ hc)) ha (k1.2 _ hv)
theorem valR_eq {sg : Int} {n : Nat} {L : List Ar} (hn : 1 ≤ n) (hL : ∀ a, a ∈ L → ArIn n a) : iterR sg L (n + 1) (List.replicate n none) = valF sg L n := by
 unfold valF
 by_cases h : ∀ a, a ∈ L → a.sig = sg → a.from_ ≠ a.to_
 ·exact iterR_eq hL h _ (by simp)
 obtain ⟨a, ha⟩ := Classical.not_forall.1 h;obtain ⟨ha1, ha2⟩ := Classical.not_imp.1 ha;obtain ⟨ha2, ha3⟩ := Classical.not_imp.1 ha2;have ha3 : a.from_ = a.to_ := Classical.not_not.1 ha3;rw [iterV_fail (selfV ha2 ha3 (by simp) hL ha1) (by omega)];obtain ⟨q, rfl⟩ : ∃ q, n = q + 1 := ⟨n - 1, by omega⟩;rw [iterR];cases hp : passR sg L (List.replicate (q + 1) none) with
 | none => rfl
 | some W =>
  rw [Option.bind_some, iterR, selfR2 ha2 ha3 (passR_mono (by simp) hL hp).1 hL ha1 (selfR1 ha2 ha3 (by simp) hL ha1 hp)]
  rfl
theorem iBit_spec (up : Bool) : ASpec Tryz.prog 51 [aT up] [] (Pure1 (.d (dB (bitLb up)))) := by
 refine ASpec.of Tryz.func51 rfl rfl fun C hC => ?_
 refine AC.seq (AC.region ?_);refine za ?_;refine AL.nil (th_n (AC.seq (AC.seq (AC.region ?_))));refine zm ?_;refine AL.nil (th_n ?_);refine AC.condB rfl (fun h0 => ?_) (fun h0 => ?_)
 ·refine AC.seq (AC.region ?_);refine za ?_;refine AL.nil (th_n (AC.ret (th_r (bq_r ?_))));exact ret1 rfl (by rw [h0]; rfl)
 refine AC.skip (th_n (AC.seq (AC.region ?_)));refine za ?_;refine AL.nil (th_n (AC.ret (bq_r ?_)));exact ret1 rfl (by rw [h0]; rfl)
theorem en_iBit : Enters Tryz.prog 51 := enters_of Tryz.func51 rfl rfl
theorem l5Bit_spec (up : Bool) : ASpec Tryz.prog 98 [aT up] [] (Pure1 (aS (bstr [bitLb up]))) := by
 refine ASpec.of Tryz.func98 rfl rfl fun C hC => ?_
 refine AC.seq (AC.region ?_);refine za ?_;refine AL.nil (th_n (AC.seq (AC.seq (AC.region ?_))));refine zm ?_;refine AL.nil (th_n ?_);refine AC.condB rfl (fun h0 => ?_) (fun h0 => ?_)
 ·refine AC.seq (AC.region ?_);refine za ?_;refine AL.nil (th_n (AC.ret (th_r (bq_r ?_))));exact ret1 rfl (by rw [h0]; rfl)
 refine AC.skip (th_n (AC.seq (AC.region ?_)));refine za ?_;refine AL.nil (th_n (AC.ret (bq_r ?_)));exact ret1 rfl (by rw [h0]; rfl)
theorem en_l5Bit : Enters Tryz.prog 98 := enters_of Tryz.func98 rfl rfl
theorem set_parts {c : List UInt8} {i : Nat} {b : UInt8} (h : i < c.length) : bstr (c.take i) ++ bstr [b] ++ bstr (c.drop (i + 1)) = bstr (c.set i b) := by
 rw [bstr_append, bstr_append, List.set_eq_take_append_cons_drop, if_pos h]; simp
set_option maxHeartbeats 1000000 in
theorem l5Set_spec (c : List UInt8) (i : Nat) (b : UInt8) (hc : c.length ≤ 2000000) (hi : i < c.length) : ASpec Tryz.prog 103 [aS (bstr c), aI i, aS (bstr [b])] [] (Pure1 (aS (bstr (c.set i b)))) := by
 have hsz := bstr_size c;have hx1 : (bstr c).extract 0 i = bstr (c.take i) := by rw [bstr_cut c (Nat.zero_le _) (by omega)]; simp
 have hx2 : (bstr c).extract (i + 1) (bstr c).size = bstr (c.drop (i + 1)) := by rw [hsz, bstr_cut c (by omega) (Nat.le_refl _), List.take_length]
 have hs1 : (bstr (c.take i)).size = i := by rw [bstr_size, List.length_take]; omega
 have hs2 : (bstr [b]).size = 1 := rfl;have hs3 : (bstr (c.drop (i + 1))).size = c.length - (i + 1) := by rw [bstr_size, List.length_drop]
 have hst := set_parts (b := b) hi;refine ASpec.of Tryz.func103 rfl rfl fun C hC => ?_
 refine AC.seq (AC.region ?_);refine za ?_;refine AL.nil (th_n (AC.seq ?_));refine AC.drawn' mixed_ok [[], [], [0,1], [], [0,1,2,3], [], [], [6], [5,6,7], [0,1,2,3,4,5,6,7,8], [0,1,2,3,4,5,6,7,8,9]] (by decide) ?_;refine zd 0 [] 11 (by exact mv1 rfl) ?_;refine zd 1 [] 11 (by exact mv1 rfl) ?_;refine zd 2 [0,1] 11 (by exact g_slice_str (h := i) rfl rfl .none (.some rfl rfl) (Nat.zero_le _) (by omega) hx1) ?_;refine zd 3 [] 11 (by exact mv1 rfl) ?_;refine zd 4 [0,1,2,3] 11 (by exact g_sadd rfl rfl (by omega)) ?_;refine zd 5 [] 11 (by exact mv1 rfl) ?_;refine zd 6 [] 11 (by exact mv1 rfl) ?_;refine zd 7 [6] 11 (by exact g_arith rfl rfl rfl (by exact wrap_i64 (by omega))) ?_;refine zd 8 [5,6,7] 11 (by exact g_slice_str (l := i + 1) rfl rfl (.some rfl rfl) .none (by omega) (Nat.le_refl _) hx2) ?_;refine zd 9 (List.range 9) 11 (by exact g_sadd rfl rfl (by rw [ByteArray.size_append]; omega)) ?_;refine zd 10 (List.range 10) 11 (by exact as1 rfl) ?_;refine zj 11 ?_;refine th_n (AC.ret (bq_r ?_));exact ret1 rfl (by rw [hst])
theorem en_l5Set : Enters Tryz.prog 103 := enters_of Tryz.func103 rfl rfl
abbrev arD (a : Ar) : List DV := [dI a.from_, dI a.sig, dT a.up, dI a.to_]
abbrev arA (a : Ar) : AV := .agg [aI a.from_, aI a.sig, aT a.up, aI a.to_]
abbrev arL (l : List Ar) : List (List DV) := l.map arD
abbrev vArs (l : List Ar) : DV := .view 117 4 (arL l)
theorem arL_len (l : List Ar) : (arL l).length = l.length := List.length_map _
theorem arL_get {l : List Ar} {k : Nat} (h : k < l.length) : (arL l)[k]? = some [dI l[k].from_, dI l[k].sig, dT l[k].up, dI l[k].to_] := by rw [List.getElem?_map, List.getElem?_eq_getElem h]; rfl
theorem h_appendAr (acc new : List Ar) {s : ASt} {dst : Option Nat} {ty : Nat} {pos : String} {af : Array Edge} {gd : Option (Nat × Bool)} {x y : Operand} {f : Nat} {ids ids2 : List Nat} {gone : List (Nat × Option Chunk)}
  (hto : AppTo s x 117 4 (arL acc) ids gone) (harg : AppArg s y 4 (arL new) ids2) (h : (acc ++ new).length ≤ 100000000) (hnew : gone = [] → 0 < new.length) :
  NOp Tryz.prog (ids ++ ids2) s ⟨dst, .call { callee := .builtin .append, args := #[x, y], argTypes := #[50, 50] }, ty, pos, af, gd⟩ f ⟨.own f (acc ++ new).length, (f, some (.arr 117 4 (arL (acc ++ new)))) :: gone⟩ := by
 have := h_append (P := Tryz.prog) (s := s) (dst := dst) (ty := ty) (pos := pos) (af := af) (gd := gd) (x := x) (y := y) (f := f) (t := 50) (tx := 50) (k := (acc ++ new).length) rfl rfl rfl rfl rfl rfl hto harg (by simp) (by omega) (by show (acc ++ new).length * 32 ≤ _; omega) (fun h => by rw [arL_len]; exact hnew h)
 rwa [← List.map_append] at this
def arcOf (labs : List Lab) (v : Mv) : Ar := ⟨v.from_, (lAt labs v.by_.toNat).sig, (lAt labs v.by_.toNat).up, v.to_⟩
def arcsOf (s : Stg) (x : Ex) : List Ar := x.moves.map (arcOf s.labs)
theorem arcsOf_len (s : Stg) (x : Ex) : (arcsOf s x).length = x.moves.length := List.length_map _
theorem arcsOf_take {s : Stg} {x : Ex} {j : Nat} (h : j < x.moves.length) : (arcsOf s x).take (j + 1) = (arcsOf s x).take j ++ [arcOf s.labs x.moves[j]] := by
 unfold arcsOf;rw [← List.map_take, List.take_add_one, List.getElem?_eq_getElem h, List.map_append, List.map_take]; rfl
def chB : Option Bool → UInt8 | none => 48 | some b => bitLb b
def encR : Option Bool → UInt8 | none => 63 | some b => bitLb b
def encS (V : List (Option Bool)) : List UInt8 := V.map encR
theorem encS_len (V : List (Option Bool)) : (encS V).length = V.length := List.length_map _
theorem encS_get {V : List (Option Bool)} {i : Nat} (h : i < V.length) : (byteEls (encS V))[i]? = some [dB (encR (vAt V i))] := by
 unfold byteEls encS;rw [List.getElem?_map, List.getElem?_map, List.getElem?_eq_getElem h, vAt_get h]; rfl
theorem encS_set (V : List (Option Bool)) (i : Nat) (x : Option Bool) : encS (V.set i x) = (encS V).set i (encR x) := by unfold encS; rw [List.map_set]
theorem encS_same {V : List (Option Bool)} {i : Nat} (h : i < V.length) : (encS V).set i (encR (vAt V i)) = encS V := by rw [← encS_set, set_same h rfl]
theorem encR_none {x : Option Bool} : ((encR x).toNat : Int) = 63 ↔ x = none := by cases x with | none => simp [encR] | some b => cases b <;> simp [encR, bitLb]
theorem encR_bit {x : Option Bool} {b : Bool} : ((encR x).toNat : Int) = ((bitLb b).toNat : Int) ↔ x = some b := by cases x with | none => cases b <;> simp [encR, bitLb] | some c => cases b <;> cases c <;> simp [encR, bitLb]
theorem encR_inj {x y : Option Bool} : ((encR x).toNat : Int) = ((encR y).toNat : Int) ↔ x = y := by cases x with
 | none => cases y with | none => simp | some c => cases c <;> simp [encR, bitLb]
 | some b => cases y with | none => cases b <;> simp [encR, bitLb] | some c => cases b <;> cases c <;> simp [encR, bitLb]
theorem joinR_ok {W : List (Option Bool)} {f t : Nat} (hf : f < W.length) (ht : t < W.length) {x : Option Bool} (hx : (vAt W f = none ∧ x = vAt W t) ∨ (vAt W f ≠ none ∧ x = vAt W f)) (h : ¬ (x ≠ none ∧ vAt W t ≠ none ∧ vAt W t ≠ x)) : ∃ Y, joinV W f t = some Y ∧ ((encS W).set f (encR x)).set t (encR x) = encS Y := by
 unfold joinV;cases e1 : vAt W f with
 | none =>
  rcases hx with ⟨_, hx⟩ | ⟨q, _⟩
  ·cases e2 : vAt W t with
   | none =>
    rw [e2] at hx; subst hx;refine ⟨W, rfl, ?_⟩;have h1 := encS_same hf;have h2 := encS_same ht;rw [e1] at h1;rw [e2] at h2;rw [h1, h2]
   | some y =>
    rw [e2] at hx; subst hx;refine ⟨_, rfl, ?_⟩;rw [← encS_set, ← encS_set, set_same (by simpa using ht)];rw [vAt_set]
    split
    ·rfl
    exact e2
  exact absurd e1 q
 | some a =>
  rcases hx with ⟨q, _⟩ | ⟨_, hx⟩
  ·rw [e1] at q; cases q
  rw [e1] at hx; subst hx;have h1 := encS_same hf;rw [e1] at h1;cases e2 : vAt W t with
  | none => exact ⟨_, rfl, by rw [h1, ← encS_set]⟩
  | some y =>
   have hay : a = y := by
    refine Classical.byContradiction fun q => h ⟨by simp, by rw [e2]; simp, ?_⟩
    rw [e2];intro g; exact q (Option.some.inj g).symm
   subst hay;have h2 := encS_same ht;rw [e2] at h2;exact ⟨W, by simp, by rw [h1, h2]⟩
theorem joinR_no {W : List (Option Bool)} {f t : Nat} {x : Option Bool} (hx : (vAt W f = none ∧ x = vAt W t) ∨ (vAt W f ≠ none ∧ x = vAt W f)) (h : x ≠ none ∧ vAt W t ≠ none ∧ vAt W t ≠ x) : joinV W f t = none := by
 rcases hx with ⟨_, q⟩ | ⟨_, q⟩
 ·exact absurd q.symm h.2.2
 subst q;unfold joinV;cases e1 : vAt W f with
 | none => exact absurd e1 h.1
 | some a =>
  cases e2 : vAt W t with
  | none => exact absurd e2 h.2.1
  | some b => exact if_neg fun q => h.2.2 (by rw [e1, e2, q])
def valS (sg : Int) (L : List Ar) (n : Nat) : List UInt8 × Bool := match valF sg L n with | some V => (encS V, true) | none => ([], false)
def askZ (n k : Nat) : List UInt8 := List.replicate k 63 ++ List.replicate (n - k) 0
theorem askZ_get {n k : Nat} (h : k < n) : (byteEls (askZ n k))[k]? = some [dB 0] := by
 unfold askZ byteEls;rw [List.getElem?_map, List.getElem?_append_right (by simp), List.length_replicate, Nat.sub_self, List.getElem?_replicate, if_pos (by omega)]; rfl
theorem askZ_set {n k : Nat} (h : k < n) : (byteEls (askZ n k)).set k [dB 63] = byteEls (askZ n (k + 1)) := by
 rw [byteEls_set];congr 1;unfold askZ;obtain ⟨q, hq⟩ : ∃ q, n - k = q + 1 := ⟨n - k - 1, by omega⟩;rw [hq, show n - (k + 1) = q by omega, List.replicate_succ, List.set_append_right _ _ (by simp), List.length_replicate, Nat.sub_self, List.set_cons_zero, List.replicate_succ', List.append_assoc]; rfl
theorem askZ_zero (n : Nat) : byteEls (askZ n 0) = List.replicate n (([ZK.int .u8] : List ZK).map fun z => DV.val z.val) := by unfold askZ byteEls; simp; exact .inr rfl
theorem askZ_all (n : Nat) : askZ n n = encS (List.replicate n none) := by unfold askZ encS; simp; exact .inr rfl
theorem enc_ne {x : Option Bool} {b : Bool} (k1 : ¬ ((encR x).toNat : Int) = 63) (k2 : ¬ ((encR x).toNat : Int) = ((bitLb b).toNat : Int)) : x = some (!b) := by
 cases x with
 | none => exact absurd (encR_none.2 rfl) k1
 | some c => exact congrArg some (nb_ne b fun g => k2 (encR_bit.2 (congrArg some g)))
theorem enc_no {x : Option Bool} {b : Bool} (q : x = some (!b)) : ¬ ((encR x).toNat : Int) = 63 ∧ ¬ ((encR x).toNat : Int) = ((bitLb b).toNat : Int) := by
 subst q;exact ⟨fun g => (by have := encR_none.1 g; cases this), fun g => (by have := Option.some.inj (encR_bit.1 g); cases b <;> cases this)⟩
theorem bstr1_get (b : UInt8) : (bstr [b]).data.toList[0]? = some b := rfl
set_option maxHeartbeats 32000000 in
theorem l5Values_spec (s : Stg) (x : Ex) (sg : Int) (hn1 : 1 ≤ x.marks.length) (hn : x.marks.length ≤ 100000) (h2l : x.moves.length ≤ 1000000) (hb : ∀ v, v ∈ x.moves → 0 ≤ v.by_ ∧ v.by_ < s.labs.length) (hL : ∀ a, a ∈ arcsOf s x → ArIn x.marks.length a) : ASpec Tryz.prog 70 [stgA s, rgA x, aI sg] [] (Pure1 (.tup [aS (bstr (valS sg (arcsOf s x) x.marks.length).1), aT (valS sg (arcsOf s x) x.marks.length).2])) := by
 have hVe := valR_eq (sg := sg) hn1 hL;have hal := arcsOf_len s x;have hag : ∀ j (hj : j < x.moves.length), (arcsOf s x)[j]? = some (arcOf s.labs x.moves[j]) := fun j hj => by unfold arcsOf; rw [List.getElem?_map, List.getElem?_eq_getElem hj]; rfl
 obtain ⟨n, hnn⟩ := eqx x.marks.length;rw [← hnn] at hn1 hn hVe hL ⊢;obtain ⟨A, hA⟩ := eqx (arcsOf s x);simp only [← hA] at hVe hal hag hL ⊢;clear hA;have hR : valS sg A n = match valF sg A n with | some V => (encS V, true) | none => ([], false) := rfl
 obtain ⟨F, hFF⟩ := eqx (valF sg A n);rw [← hFF] at hVe hR;obtain ⟨R, hRR⟩ := eqx (valS sg A n);rw [← hRR] at hR ⊢;have hRn : F = none → R = ([], false) := fun q => by rw [hR, q]
 have hRs : ∀ V, F = some V → R = (encS V, true) := fun V q => by rw [hR, q]
 clear hFF hRR hR;refine ASpec.of Tryz.func70 rfl rfl fun C hC => ?_
 refine AC.seq (AC.region ?_);refine kD ?_;refine kD ?_;refine za ?_;refine za ?_;refine AL.nil (th_n (AC.seq (AC.region ?_)));refine zf ?_;refine zr ?_;refine AL.p (by exact g_len_view (k := n) rfl rfl (by rw [hnn]; exact tsX_len _)) rfl ?_;refine AL.q (by exact h_make (k := n) rfl rfl rfl rfl rfl rfl rfl rfl (by show 1 * n ≤ _; omega) (by omega)) rfl ?_;rw [show (List.replicate n (([ZK.int .u8] : List ZK).map fun z => DV.val z.val)) = byteEls (askZ n 0) from (askZ_zero n).symm];refine AL.p (by exact as2 rfl) rfl ?_;refine AL.nil (th_n (AC.seq (AC.seq (AC.region ?_))));refine kB ?_;refine AL.p (by exact g_len_own (sz := 1) (els := []) (e' := 0) rfl rfl (by simp only [maxLen]; omega)) rfl ?_;refine zm ?_;refine AL.nil (th_n (AC.block ?_));refine AC.loop (ι := Nat) (fun k => ⟨149, 300, [(2, aI sg), (3, .d (.ref (stgD s))), (4, .d (.ref (rgD x))), (8, .own 100 n), (22, aI n), (23, aI k)], [(100, some (.arr 5 1 (byteEls (askZ n k))))]⟩) (fun k => k ≤ n) (fun k => n - k) (0) ?_ (Nat.zero_le _) ?_
 ·exact zw [(100, _)] hC
 intro k hk;refine AC.seq (AC.region ?_);refine zc ?_;refine AL.nil (th_n (AC.seq ?_));refine AC.condD rfl (fun h0 => ?_) (fun h0 => ?_)
 ·refine AC.skip (th_n (AC.seq (AC.block (AC.seq ?_))));have hk1 : k < n := by omega
  have hgz := askZ_get hk1;have hsz := askZ_set hk1;refine AC.region ?_;refine zm ?_;refine za ?_;refine AL.nil (th_n (AC.region ?_));refine kB ?_;refine zm ?_;refine kO k n hk1 ?_;refine AL.q (by exact h_store_arr (i := k) (j := 0) (d := dB 63) rfl rfl rfl rfl .same rfl hgz (by decide)) rfl ?_;refine AL.nil (ib_n (th_n (AC.region ?_)));refine zA ?_;refine zm ?_;refine AL.nil (th_n ?_);exact ⟨k + 1, by omega, by omega, zw [(100, 100)] hC (b := by rw [← hsz]; repeat (first | exact True.intro | refine And.intro ?_ ?_ | exact rfl | refine ⟨_, _, rfl, rfl, ?_⟩))⟩
 refine AC.exit (th_e (th_e (ib_y (th_n (AC.seq (AC.seq ?_))))));have hkn : k = n := by omega
 rw [hkn, askZ_all];refine AC.region ?_;refine za ?_;refine AL.nil (th_n (AC.block ?_));refine AC.loop (ι := Nat × List (Option Bool)) (fun y => ⟨149, 600, [(2, aI sg), (3, .d (.ref (stgD s))), (4, .d (.ref (rgD x))), (8, .own 100 n), (10, aI y.1)], [(100, some (.arr 5 1 (byteEls (encS y.2))))]⟩) (fun y => y.1 ≤ n + 1 ∧ y.2.length = n ∧ iterR sg A (n + 1 - y.1) y.2 = F) (fun y => n + 1 - y.1) ((0, List.replicate n none)) ?_ (⟨Nat.zero_le _, by simp, hVe⟩) ?_
 ·exact zw [(100, 100)] hC
 rintro ⟨p, V⟩ ⟨hp, hVl, hit⟩;dsimp only at hp hVl hit ⊢;refine AC.seq (AC.seq (AC.region ?_));refine zm ?_;refine zf ?_;refine zr ?_;refine AL.p (by exact g_len_view (k := n) rfl rfl (by rw [hnn]; exact tsX_len _)) rfl ?_;refine zc ?_;refine AL.nil (th_n ?_);refine AC.condD rfl (fun h1 => ?_) (fun h1 => ?_)
 ·refine AC.skip (th_n (AC.seq (AC.block (AC.seq ?_))));obtain ⟨q, hq⟩ : ∃ q, n + 1 - p = q + 1 := ⟨n - p, by omega⟩;rw [hq, iterR] at hit;refine AC.region ?_;refine zf ?_;refine zr ?_;refine kI x.moves.length (mvL_len _) ?_;refine zm ?_;refine AL.nil (th_n (AC.block ?_));refine AC.loop (ι := Nat × List (Option Bool)) (fun y => ⟨149, 900, [(2, aI sg), (3, .d (.ref (stgD s))), (4, .d (.ref (rgD x))), (8, .own 100 n), (10, aI p), (38, .d (vMvs x.moves)), (39, aI x.moves.length), (40, aI y.1)], [(100, some (.arr 5 1 (byteEls (encS y.2))))]⟩) (fun y => y.1 ≤ x.moves.length ∧ y.2.length = n ∧ passR sg (A.drop y.1) y.2 = passR sg A V) (fun y => x.moves.length - y.1) ((0, V)) ?_ (⟨Nat.zero_le _, hVl, rfl⟩) ?_
  ·exact zw [(100, 100)] hC
  rintro ⟨j, W⟩ ⟨hj, hWl, hps⟩;dsimp only at hj hWl hps ⊢;refine AC.seq (AC.region ?_);refine zc ?_;refine AL.nil (th_n (AC.seq ?_));refine AC.condD rfl (fun h2 => ?_) (fun h2 => ?_)
  ·refine AC.skip (th_n (AC.seq (AC.block (AC.seq ?_))));have hj1 : j < x.moves.length := by omega
   have hget := mvL_get hj1;have hbv := hb _ (List.getElem_mem hj1);have hga := hag j hj1;have hjA : j < A.length := by omega
   have haI := hL _ (List.getElem_mem hjA);rw [List.drop_eq_getElem_cons hjA, passR] at hps;rw [List.getElem?_eq_getElem hjA] at hga;rw [Option.some.inj hga] at haI hps;obtain ⟨v, hv⟩ := eqx (x.moves[j]);rw [← hv] at hget hbv haI hps;clear hv hga;obtain ⟨b, hb2⟩ := eqx v.by_.toNat;have e0 : v.by_ = (b : Int) := by omega
   unfold arcOf at haI hps;rw [← hb2] at haI hps;have hlb : b < s.labs.length := by omega
   have hgl : (labsL s.labs)[b]? = some [dI (lAt s.labs b).sig, dT (lAt s.labs b).up] := by rw [lAt_nat hlb, List.getElem?_map, List.getElem?_eq_getElem hlb]; rfl
   obtain ⟨l, hl⟩ := eqx (lAt s.labs b);rw [← hl] at hgl haI hps;clear hl;obtain ⟨hf1, ht1⟩ := haI;dsimp only at hf1 ht1;obtain ⟨f, hf⟩ := eqx v.from_.toNat;obtain ⟨t, ht⟩ := eqx v.to_.toNat;have e1 : v.from_ = (f : Int) := by omega
   have e2 : v.to_ = (t : Int) := by omega
   have hfn : f < n := by omega
   have htn : t < n := by omega
   rw [e0, e1, e2] at hget;have hst : stepR sg ⟨v.from_, l.sig, l.up, v.to_⟩ W = if l.sig = sg then (if (vAt W f = some l.up ∨ vAt W t = some (!l.up)) then none else some ((W.set f (some (!l.up))).set t (some l.up))) else joinV W f t := by unfold stepR; dsimp only; rw [hf, ht]
   obtain ⟨S, hS⟩ := eqx (stepR sg ⟨v.from_, l.sig, l.up, v.to_⟩ W);rw [← hS] at hps hst;clear hS;have hgf := encS_get (V := W) (i := f) (by omega);have hgt := encS_get (V := W) (i := t) (by omega);have hel := encS_len W;refine AC.region ?_;refine AL.p (by exact g_ia_view rfl rfl rfl rfl rfl (by rfl) (by assumption)) rfl ?_;refine kG ?_;refine kE ?_;refine zs ?_;refine AL.nil (th_n (AC.seq (AC.region ?_)));refine zf ?_;refine zr ?_;refine zF ?_;refine zl ?_;refine AL.p (by exact g_ia_view (i := b) rfl rfl rfl rfl rfl rfl hgl) rfl ?_;refine kG ?_;refine kE ?_;refine zs ?_;refine AL.nil (th_n (AC.seq (AC.seq (AC.region ?_))));refine zF ?_;refine zl ?_;refine zm ?_;refine zc ?_;refine AL.nil (th_n ?_);refine AC.condND rfl (fun h3 => ?_) (fun h3 => ?_)
   ·refine AC.seq ?_;have hsig : ¬ l.sig = sg := ‹¬ l.sig = sg›;rw [if_neg hsig] at hst;refine AC.region ?_;refine kB ?_;refine zF ?_;refine zl ?_;refine kO f n hfn ?_;refine AL.p (by exact g_load_arr1 rfl rfl rfl rfl (by rw [Nat.mul_one]; exact hgf)) rfl ?_;refine za ?_;refine AL.nil (th_n ?_);refine AC.cut (fun (z : Option Bool) => ⟨149, 1200, [(2, aI sg), (3, .d (.ref (stgD s))), (4, .d (.ref (rgD x))), (8, .own 100 n), (10, aI p), (12, .ptr 201 0), (14, .d (dB (encR z))), (38, .d (vMvs x.moves)), (39, aI x.moves.length), (40, aI j)], [(100, some (.arr 5 1 (byteEls (encS W)))), (201, some (.cells 113 [aI f, aI b, aI t]))]⟩) (fun z => (vAt W f = none ∧ z = vAt W t) ∨ (vAt W f ≠ none ∧ z = vAt W f)) ?_ ?_
    ·refine AC.seq (AC.region ?_);refine zm ?_;refine zc ?_;refine AL.nil (th_n ?_);refine AC.condD rfl (fun h4 => ?_) (fun h4 => ?_)
     ·refine AC.region ?_;refine kB ?_;refine zF ?_;refine zl ?_;refine kO t n htn ?_;refine AL.p (by exact g_load_arr1 rfl rfl rfl rfl (by rw [Nat.mul_one]; exact hgt)) rfl ?_;refine za ?_;refine AL.nil (th_n ?_)
      (have k1 := ‹((encR (vAt W f)).toNat : Int) = 63›; exact ⟨vAt W t, .inl ⟨encR_none.1 k1, rfl⟩, zw [(100, 100), (201, _)] hC⟩)
     refine AC.skip (th_n ?_)
     (have k1 := ‹¬ ((encR (vAt W f)).toNat : Int) = 63›; exact ⟨vAt W f, .inr ⟨fun q => k1 (encR_none.2 q), rfl⟩, zw [(100, 100), (201, _)] hC⟩)
    intro z hz;refine AC.seq (AC.seq (AC.region ?_));refine zm ?_;refine zc ?_;refine zm ?_;refine AL.caseGN rfl rfl (fun h4 => ?_) (fun h4 => ?_)
    ·refine zy ?_;refine kB ?_;refine zy ?_;refine zF ?_;refine zy ?_;refine zl ?_;refine zy ?_;refine kO t n htn ?_;refine zy ?_;refine AL.p (by exact g_load_arr1 rfl rfl rfl rfl (by rw [Nat.mul_one]; exact hgt)) rfl ?_;refine zy ?_;refine zc ?_;refine zQ ?_;refine zm ?_;refine AL.caseGN rfl rfl (fun h5 => ?_) (fun h5 => ?_)
     ·refine zy ?_;refine kB ?_;refine zy ?_;refine zF ?_;refine zy ?_;refine zl ?_;refine zy ?_;refine kO t n htn ?_;refine zy ?_;refine AL.p (by exact g_load_arr1 rfl rfl rfl rfl (by rw [Nat.mul_one]; exact hgt)) rfl ?_;refine zy ?_;refine zm ?_;refine zy ?_;refine zc ?_;refine zQ ?_;refine AL.nil (th_n ?_);refine AC.condND rfl (fun h6 => ?_) (fun h6 => ?_)
      ·refine AC.seq (AC.region ?_);refine za ?_;refine za ?_;refine AL.nil (th_n (AC.ret (th_r (th_r (ib_r (th_r (th_r (ib_r (ib_r (th_r (th_r (ib_r (th_r (bq_r ?_))))))))))))));have k1 : z ≠ none := fun q => ‹¬ ((encR z).toNat : Int) = 63› (encR_none.2 q)
       have k2 : vAt W t ≠ none := fun q => ‹¬ ((encR (vAt W t)).toNat : Int) = 63› (encR_none.2 q)
       have k3 : vAt W t ≠ z := fun q => ‹¬ ((encR (vAt W t)).toNat : Int) = ((encR z).toNat : Int)› (encR_inj.2 q)
       have hpn : passR sg A V = none := by rw [← hps, hst, joinR_no hz ⟨k1, k2, k3⟩]; rfl
       have e := hRn (by rw [← hit, hpn]; rfl);exact ret2 rfl (by rw [e]; rfl) (by rw [e])
      refine AC.skip (th_n (AC.seq ?_));have hno : ¬ (z ≠ none ∧ vAt W t ≠ none ∧ vAt W t ≠ z) := by rintro ⟨q1, q2, q3⟩; exact q3 (encR_inj.1 (by assumption))
      obtain ⟨Y, hY1, hY2⟩ := joinR_ok (by omega) (by omega) hz hno;rw [hst, hY1, Option.bind_some] at hps;have hYl : Y.length = n := by have := congrArg List.length hY2; rw [List.length_set, List.length_set, encS_len, encS_len] at this; omega
      have hgt2 : ∃ c, (byteEls ((encS W).set f (encR z)))[t]? = some [dB c] := ⟨_, byteEls_get (by rw [List.length_set]; omega)⟩;obtain ⟨c, hgc⟩ := hgt2;refine AC.region ?_;refine kB ?_;refine zF ?_;refine zl ?_;refine zm ?_;refine kO f n hfn ?_;refine AL.q (by exact h_store_arr (i := f) (j := 0) (d := dB (encR z)) rfl rfl rfl rfl .same rfl hgf (by decide)) rfl ?_;refine AL.nil (th_n (AC.seq (AC.region ?_)));refine kB ?_;refine zF ?_;refine zl ?_;refine zm ?_;refine kO t n htn ?_;refine AL.q (by exact h_store_arr (i := t) (j := 0) (d := dB (encR z)) rfl rfl rfl rfl .same rfl (by rw [show [dB (encR (vAt W f))].set 0 (dB (encR z)) = [dB (encR z)] from rfl, byteEls_set]; exact hgc) (by decide)) rfl ?_;refine AL.nil (th_n (AC.exit (th_e (ib_y (th_n (AC.region ?_))))));refine zA ?_;refine zm ?_;refine AL.nil (th_n ?_);exact ⟨(j + 1, Y), ⟨by dsimp only; omega, hYl, hps⟩, by dsimp only; omega, zw [(100, 100)] hC (b := by rw [← hY2, ← byteEls_set, ← byteEls_set]; repeat (first | exact True.intro | refine And.intro ?_ ?_ | exact rfl | refine ⟨_, _, rfl, rfl, ?_⟩))⟩
     refine zn ?_;refine zn ?_;refine zn ?_;refine zn ?_;refine zn ?_;refine zn ?_;refine zn ?_;refine zP ?_;refine AL.nil (th_n ?_);refine AC.condF rfl ?_;refine AC.skip (th_n (AC.seq ?_));have hno : ¬ (z ≠ none ∧ vAt W t ≠ none ∧ vAt W t ≠ z) := by rintro ⟨q1, q2, q3⟩; exact q2 (encR_none.1 (by assumption))
     obtain ⟨Y, hY1, hY2⟩ := joinR_ok (by omega) (by omega) hz hno;rw [hst, hY1, Option.bind_some] at hps;have hYl : Y.length = n := by have := congrArg List.length hY2; rw [List.length_set, List.length_set, encS_len, encS_len] at this; omega
     have hgt2 : ∃ c, (byteEls ((encS W).set f (encR z)))[t]? = some [dB c] := ⟨_, byteEls_get (by rw [List.length_set]; omega)⟩;obtain ⟨c, hgc⟩ := hgt2;refine AC.region ?_;refine kB ?_;refine zF ?_;refine zl ?_;refine zm ?_;refine kO f n hfn ?_;refine AL.q (by exact h_store_arr (i := f) (j := 0) (d := dB (encR z)) rfl rfl rfl rfl .same rfl hgf (by decide)) rfl ?_;refine AL.nil (th_n (AC.seq (AC.region ?_)));refine kB ?_;refine zF ?_;refine zl ?_;refine zm ?_;refine kO t n htn ?_;refine AL.q (by exact h_store_arr (i := t) (j := 0) (d := dB (encR z)) rfl rfl rfl rfl .same rfl (by rw [show [dB (encR (vAt W f))].set 0 (dB (encR z)) = [dB (encR z)] from rfl, byteEls_set]; exact hgc) (by decide)) rfl ?_;refine AL.nil (th_n (AC.exit (th_e (ib_y (th_n (AC.region ?_))))));refine zA ?_;refine zm ?_;refine AL.nil (th_n ?_);exact ⟨(j + 1, Y), ⟨by dsimp only; omega, hYl, hps⟩, by dsimp only; omega, zw [(100, 100)] hC (b := by rw [← hY2, ← byteEls_set, ← byteEls_set]; repeat (first | exact True.intro | refine And.intro ?_ ?_ | exact rfl | refine ⟨_, _, rfl, rfl, ?_⟩))⟩
    refine zn ?_;refine zn ?_;refine zn ?_;refine zn ?_;refine zn ?_;refine zn ?_;refine zP ?_;refine zm ?_;refine zn ?_;refine zn ?_;refine zn ?_;refine zn ?_;refine zn ?_;refine zn ?_;refine zn ?_;refine zP ?_;refine AL.nil (th_n ?_);refine AC.condF rfl ?_;refine AC.skip (th_n (AC.seq ?_));have hno : ¬ (z ≠ none ∧ vAt W t ≠ none ∧ vAt W t ≠ z) := by rintro ⟨q1, q2, q3⟩; exact q1 (encR_none.1 (by assumption))
    obtain ⟨Y, hY1, hY2⟩ := joinR_ok (by omega) (by omega) hz hno;rw [hst, hY1, Option.bind_some] at hps;have hYl : Y.length = n := by have := congrArg List.length hY2; rw [List.length_set, List.length_set, encS_len, encS_len] at this; omega
    have hgt2 : ∃ c, (byteEls ((encS W).set f (encR z)))[t]? = some [dB c] := ⟨_, byteEls_get (by rw [List.length_set]; omega)⟩;obtain ⟨c, hgc⟩ := hgt2;refine AC.region ?_;refine kB ?_;refine zF ?_;refine zl ?_;refine zm ?_;refine kO f n hfn ?_;refine AL.q (by exact h_store_arr (i := f) (j := 0) (d := dB (encR z)) rfl rfl rfl rfl .same rfl hgf (by decide)) rfl ?_;refine AL.nil (th_n (AC.seq (AC.region ?_)));refine kB ?_;refine zF ?_;refine zl ?_;refine zm ?_;refine kO t n htn ?_;refine AL.q (by exact h_store_arr (i := t) (j := 0) (d := dB (encR z)) rfl rfl rfl rfl .same rfl (by rw [show [dB (encR (vAt W f))].set 0 (dB (encR z)) = [dB (encR z)] from rfl, byteEls_set]; exact hgc) (by decide)) rfl ?_;refine AL.nil (th_n (AC.exit (th_e (ib_y (th_n (AC.region ?_))))));refine zA ?_;refine zm ?_;refine AL.nil (th_n ?_);exact ⟨(j + 1, Y), ⟨by dsimp only; omega, hYl, hps⟩, by dsimp only; omega, zw [(100, 100)] hC (b := by rw [← hY2, ← byteEls_set, ← byteEls_set]; repeat (first | exact True.intro | refine And.intro ?_ ?_ | exact rfl | refine ⟨_, _, rfl, rfl, ?_⟩))⟩
   refine AC.skip (th_n (AC.seq ?_));have hsig : l.sig = sg := ‹l.sig = sg›;rw [if_pos hsig] at hst;refine AC.drawn' mixed_ok [[], [0], [0,1], [0,1,2], [0,1,2,3], [], [5], [0,1,2,3,5,6], [0,1,2,3,5,6,7], [0,1,2,3,4,5,6,7], [0,1,2,3,4,5,6,7,8,9]] (by decide) ?_;refine zd 0 [] 11 (by exact g_fa_ptr rfl rfl rfl rfl rfl) ?_;refine zd 1 [0] 11 (by exact g_load_ptr rfl rfl rfl rfl rfl) ?_;refine zd 2 [0,1] 11 (by exact g_not rfl) ?_;refine zh 3 [0,1,2] 11 (by exact h_pure en_l5Bit rfl rfl (by repeat (first | exact rfl | exact DLead.same | refine ⟨_, _, rfl, ?_, ?_⟩)) (l5Bit_spec (!l.up)) rfl) ?_;refine zd 4 [0,1,2,3] 11 (by exact g_index (i := 0) rfl rfl rfl rfl (bstr1_get _)) ?_;refine zd 5 [] 11 (by exact g_fa_ptr rfl rfl rfl rfl rfl) ?_;refine zd 6 [5] 11 (by exact g_load_ptr rfl rfl rfl rfl rfl) ?_;refine zh 7 [0,1,2,3,5,6] 11 (by exact h_pure en_l5Bit rfl rfl (by repeat (first | exact rfl | exact DLead.same | refine ⟨_, _, rfl, ?_, ?_⟩)) (l5Bit_spec l.up) rfl) ?_;refine zd 8 [0,1,2,3,5,6,7] 11 (by exact g_index (i := 0) rfl rfl rfl rfl (bstr1_get _)) ?_;refine zd 9 [0,1,2,3,4,5,6,7] 11 (by exact as1 rfl) ?_;refine zd 10 (List.range 10) 11 (by exact as1 rfl) ?_;refine zj 11 ?_;refine th_n (AC.seq (AC.seq ?_));refine AC.weak (t := ⟨149, 1500, [(2, aI sg), (3, .d (.ref (stgD s))), (4, .d (.ref (rgD x))), (8, .own 100 n), (10, aI p), (12, .ptr 201 0), (15, .d (dB (bitLb (!l.up)))), (16, .d (dB (bitLb l.up))), (38, .d (vMvs x.moves)), (39, aI x.moves.length), (40, aI j)], [(100, some (.arr 5 1 (byteEls (encS W)))), (201, some (.cells 113 [aI f, aI b, aI t]))]⟩) (zw [(100, 100), (201, _)] hC) ?_;refine AC.region ?_;refine kB ?_;refine zF ?_;refine zl ?_;refine kO f n hfn ?_;refine AL.p (by exact g_load_arr1 rfl rfl rfl rfl (by rw [Nat.mul_one]; exact hgf)) rfl ?_;refine zc ?_;refine zm ?_;refine AL.caseGN rfl rfl (fun h4 => ?_) (fun h4 => ?_)
   ·refine zy ?_;refine kB ?_;refine zy ?_;refine zF ?_;refine zy ?_;refine zl ?_;refine zy ?_;refine kO f n hfn ?_;refine zy ?_;refine AL.p (by exact g_load_arr1 rfl rfl rfl rfl (by rw [Nat.mul_one]; exact hgf)) rfl ?_;refine zy ?_;refine zm ?_;refine zy ?_;refine zc ?_;refine zQ ?_;refine zm ?_;refine AL.caseGN rfl rfl (fun h5 => ?_) (fun h5 => ?_)
    ·refine zn ?_;refine zn ?_;refine zn ?_;refine zn ?_;refine zn ?_;refine zn ?_;refine zn ?_;refine AL.notU rfl rfl rfl ?_;refine AL.notU rfl rfl rfl ?_;refine AL.notU rfl rfl rfl ?_;refine AL.notU rfl rfl rfl ?_;refine AL.notU rfl rfl rfl ?_;refine AL.notU rfl rfl rfl ?_;refine AL.notU rfl rfl rfl ?_;refine zn ?_;refine zQ ?_;refine AL.nil (th_n ?_);refine AC.condT rfl ?_;refine AC.seq (AC.region ?_);refine za ?_;refine za ?_;refine AL.nil (th_n (AC.ret (th_r (ib_r (th_r (th_r (ib_r (ib_r (th_r (th_r (ib_r (th_r (bq_r ?_)))))))))))));have hsn : S = none := by rw [hst]; refine if_pos ?_; (have q1 := enc_ne ‹¬ ((encR (vAt W f)).toNat : Int) = 63› ‹¬ ((encR (vAt W f)).toNat : Int) = ((bitLb (!l.up)).toNat : Int)›; rw [Bool.not_not] at q1; exact .inl q1)
     have hpn : passR sg A V = none := by rw [← hps, hsn]; rfl
     have e := hRn (by rw [← hit, hpn]; rfl);exact ret2 rfl (by rw [e]; rfl) (by rw [e])
    refine zy ?_;refine kB ?_;refine zy ?_;refine zF ?_;refine zy ?_;refine zl ?_;refine zy ?_;refine kO t n htn ?_;refine zy ?_;refine AL.p (by exact g_load_arr1 rfl rfl rfl rfl (by rw [Nat.mul_one]; exact hgt)) rfl ?_;refine zy ?_;refine zc ?_;refine zy ?_;refine zm ?_;refine AL.caseGN rfl rfl (fun h6 => ?_) (fun h6 => ?_)
    ·refine zy ?_;refine kB ?_;refine zy ?_;refine zF ?_;refine zy ?_;refine zl ?_;refine zy ?_;refine kO t n htn ?_;refine zy ?_;refine AL.p (by exact g_load_arr1 rfl rfl rfl rfl (by rw [Nat.mul_one]; exact hgt)) rfl ?_;refine zy ?_;refine zm ?_;refine zy ?_;refine zc ?_;refine zy ?_;refine zQ ?_;refine zP ?_;refine AL.nil (th_n ?_);refine AC.condND rfl (fun h7 => ?_) (fun h7 => ?_)
     ·refine AC.seq (AC.region ?_);refine za ?_;refine za ?_;refine AL.nil (th_n (AC.ret (th_r (ib_r (th_r (th_r (ib_r (ib_r (th_r (th_r (ib_r (th_r (bq_r ?_)))))))))))));have hsn : S = none := by rw [hst]; refine if_pos ?_; exact .inr (enc_ne ‹¬ ((encR (vAt W t)).toNat : Int) = 63› ‹¬ ((encR (vAt W t)).toNat : Int) = ((bitLb l.up).toNat : Int)›)
      have hpn : passR sg A V = none := by rw [← hps, hsn]; rfl
      have e := hRn (by rw [← hit, hpn]; rfl);exact ret2 rfl (by rw [e]; rfl) (by rw [e])
     refine AC.skip (th_n (AC.seq ?_));have hnf : ¬ vAt W f = some l.up := fun q => by rw [← Bool.not_not l.up] at q; exact (enc_no q).2 (by assumption)
     have hnt : ¬ vAt W t = some (!l.up) := fun q => by exact (enc_no q).2 (by assumption)
     rw [if_neg (by rintro (q | q); exact hnf q; exact hnt q)] at hst;rw [hst, Option.bind_some] at hps;have hgt2 : ∃ c, (byteEls ((encS W).set f (bitLb (!l.up))))[t]? = some [dB c] := ⟨_, byteEls_get (by rw [List.length_set]; omega)⟩;obtain ⟨c, hgc⟩ := hgt2;refine AC.region ?_;refine kB ?_;refine zF ?_;refine zl ?_;refine zm ?_;refine kO f n hfn ?_;refine AL.q (by exact h_store_arr (i := f) (j := 0) (d := dB (bitLb (!l.up))) rfl rfl rfl rfl .same rfl hgf (by decide)) rfl ?_;refine AL.nil (th_n (AC.region ?_));refine kB ?_;refine zF ?_;refine zl ?_;refine zm ?_;refine kO t n htn ?_;refine AL.q (by exact h_store_arr (i := t) (j := 0) (d := dB (bitLb l.up)) rfl rfl rfl rfl .same rfl (by rw [show [dB (encR (vAt W f))].set 0 (dB (bitLb (!l.up))) = [dB (bitLb (!l.up))] from rfl, byteEls_set]; exact hgc) (by decide)) rfl ?_;refine AL.nil (ib_n (th_n (AC.region ?_)));refine zA ?_;refine zm ?_;refine AL.nil (th_n ?_);exact ⟨(j + 1, (W.set f (some (!l.up))).set t (some l.up)), ⟨by dsimp only; omega, by dsimp only; rw [List.length_set, List.length_set]; exact hWl, hps⟩, by dsimp only; omega, zw [(100, 100)] hC (b := by rw [encS_set, encS_set, ← byteEls_set, ← byteEls_set]; repeat (first | exact True.intro | refine And.intro ?_ ?_ | exact rfl | refine ⟨_, _, rfl, rfl, ?_⟩))⟩
    refine zn ?_;refine zn ?_;refine zn ?_;refine zn ?_;refine zn ?_;refine zn ?_;refine zn ?_;refine zy ?_;refine zP ?_;refine zP ?_;refine AL.nil (th_n ?_);refine AC.condF rfl ?_;refine AC.skip (th_n (AC.seq ?_));have hnf : ¬ vAt W f = some l.up := fun q => by rw [← Bool.not_not l.up] at q; exact (enc_no q).2 (by assumption)
    have hnt : ¬ vAt W t = some (!l.up) := fun q => by exact (enc_no q).1 (by assumption)
    rw [if_neg (by rintro (q | q); exact hnf q; exact hnt q)] at hst;rw [hst, Option.bind_some] at hps;have hgt2 : ∃ c, (byteEls ((encS W).set f (bitLb (!l.up))))[t]? = some [dB c] := ⟨_, byteEls_get (by rw [List.length_set]; omega)⟩;obtain ⟨c, hgc⟩ := hgt2;refine AC.region ?_;refine kB ?_;refine zF ?_;refine zl ?_;refine zm ?_;refine kO f n hfn ?_;refine AL.q (by exact h_store_arr (i := f) (j := 0) (d := dB (bitLb (!l.up))) rfl rfl rfl rfl .same rfl hgf (by decide)) rfl ?_;refine AL.nil (th_n (AC.region ?_));refine kB ?_;refine zF ?_;refine zl ?_;refine zm ?_;refine kO t n htn ?_;refine AL.q (by exact h_store_arr (i := t) (j := 0) (d := dB (bitLb l.up)) rfl rfl rfl rfl .same rfl (by rw [show [dB (encR (vAt W f))].set 0 (dB (bitLb (!l.up))) = [dB (bitLb (!l.up))] from rfl, byteEls_set]; exact hgc) (by decide)) rfl ?_;refine AL.nil (ib_n (th_n (AC.region ?_)));refine zA ?_;refine zm ?_;refine AL.nil (th_n ?_);exact ⟨(j + 1, (W.set f (some (!l.up))).set t (some l.up)), ⟨by dsimp only; omega, by dsimp only; rw [List.length_set, List.length_set]; exact hWl, hps⟩, by dsimp only; omega, zw [(100, 100)] hC (b := by rw [encS_set, encS_set, ← byteEls_set, ← byteEls_set]; repeat (first | exact True.intro | refine And.intro ?_ ?_ | exact rfl | refine ⟨_, _, rfl, rfl, ?_⟩))⟩
   refine zn ?_;refine zn ?_;refine zn ?_;refine zn ?_;refine zn ?_;refine zn ?_;refine zn ?_;refine zP ?_;refine zm ?_;refine zy ?_;refine kB ?_;refine zy ?_;refine zF ?_;refine zy ?_;refine zl ?_;refine zy ?_;refine kO t n htn ?_;refine zy ?_;refine AL.p (by exact g_load_arr1 rfl rfl rfl rfl (by rw [Nat.mul_one]; exact hgt)) rfl ?_;refine zy ?_;refine zc ?_;refine zy ?_;refine zm ?_;refine AL.caseGN rfl rfl (fun h5 => ?_) (fun h5 => ?_)
   ·refine zy ?_;refine kB ?_;refine zy ?_;refine zF ?_;refine zy ?_;refine zl ?_;refine zy ?_;refine kO t n htn ?_;refine zy ?_;refine AL.p (by exact g_load_arr1 rfl rfl rfl rfl (by rw [Nat.mul_one]; exact hgt)) rfl ?_;refine zy ?_;refine zm ?_;refine zy ?_;refine zc ?_;refine zy ?_;refine zQ ?_;refine zP ?_;refine AL.nil (th_n ?_);refine AC.condND rfl (fun h6 => ?_) (fun h6 => ?_)
    ·refine AC.seq (AC.region ?_);refine za ?_;refine za ?_;refine AL.nil (th_n (AC.ret (th_r (ib_r (th_r (th_r (ib_r (ib_r (th_r (th_r (ib_r (th_r (bq_r ?_)))))))))))));have hsn : S = none := by rw [hst]; refine if_pos ?_; exact .inr (enc_ne ‹¬ ((encR (vAt W t)).toNat : Int) = 63› ‹¬ ((encR (vAt W t)).toNat : Int) = ((bitLb l.up).toNat : Int)›)
     have hpn : passR sg A V = none := by rw [← hps, hsn]; rfl
     have e := hRn (by rw [← hit, hpn]; rfl);exact ret2 rfl (by rw [e]; rfl) (by rw [e])
    refine AC.skip (th_n (AC.seq ?_));have hnf : ¬ vAt W f = some l.up := fun q => by rw [← Bool.not_not l.up] at q; exact (enc_no q).1 (by assumption)
    have hnt : ¬ vAt W t = some (!l.up) := fun q => by exact (enc_no q).2 (by assumption)
    rw [if_neg (by rintro (q | q); exact hnf q; exact hnt q)] at hst;rw [hst, Option.bind_some] at hps;have hgt2 : ∃ c, (byteEls ((encS W).set f (bitLb (!l.up))))[t]? = some [dB c] := ⟨_, byteEls_get (by rw [List.length_set]; omega)⟩;obtain ⟨c, hgc⟩ := hgt2;refine AC.region ?_;refine kB ?_;refine zF ?_;refine zl ?_;refine zm ?_;refine kO f n hfn ?_;refine AL.q (by exact h_store_arr (i := f) (j := 0) (d := dB (bitLb (!l.up))) rfl rfl rfl rfl .same rfl hgf (by decide)) rfl ?_;refine AL.nil (th_n (AC.region ?_));refine kB ?_;refine zF ?_;refine zl ?_;refine zm ?_;refine kO t n htn ?_;refine AL.q (by exact h_store_arr (i := t) (j := 0) (d := dB (bitLb l.up)) rfl rfl rfl rfl .same rfl (by rw [show [dB (encR (vAt W f))].set 0 (dB (bitLb (!l.up))) = [dB (bitLb (!l.up))] from rfl, byteEls_set]; exact hgc) (by decide)) rfl ?_;refine AL.nil (ib_n (th_n (AC.region ?_)));refine zA ?_;refine zm ?_;refine AL.nil (th_n ?_);exact ⟨(j + 1, (W.set f (some (!l.up))).set t (some l.up)), ⟨by dsimp only; omega, by dsimp only; rw [List.length_set, List.length_set]; exact hWl, hps⟩, by dsimp only; omega, zw [(100, 100)] hC (b := by rw [encS_set, encS_set, ← byteEls_set, ← byteEls_set]; repeat (first | exact True.intro | refine And.intro ?_ ?_ | exact rfl | refine ⟨_, _, rfl, rfl, ?_⟩))⟩
   refine zn ?_;refine zn ?_;refine zn ?_;refine zn ?_;refine zn ?_;refine zn ?_;refine zn ?_;refine zy ?_;refine zP ?_;refine zP ?_;refine AL.nil (th_n ?_);refine AC.condF rfl ?_;refine AC.skip (th_n (AC.seq ?_));have hnf : ¬ vAt W f = some l.up := fun q => by rw [← Bool.not_not l.up] at q; exact (enc_no q).1 (by assumption)
   have hnt : ¬ vAt W t = some (!l.up) := fun q => by exact (enc_no q).1 (by assumption)
   rw [if_neg (by rintro (q | q); exact hnf q; exact hnt q)] at hst;rw [hst, Option.bind_some] at hps;have hgt2 : ∃ c, (byteEls ((encS W).set f (bitLb (!l.up))))[t]? = some [dB c] := ⟨_, byteEls_get (by rw [List.length_set]; omega)⟩;obtain ⟨c, hgc⟩ := hgt2;refine AC.region ?_;refine kB ?_;refine zF ?_;refine zl ?_;refine zm ?_;refine kO f n hfn ?_;refine AL.q (by exact h_store_arr (i := f) (j := 0) (d := dB (bitLb (!l.up))) rfl rfl rfl rfl .same rfl hgf (by decide)) rfl ?_;refine AL.nil (th_n (AC.region ?_));refine kB ?_;refine zF ?_;refine zl ?_;refine zm ?_;refine kO t n htn ?_;refine AL.q (by exact h_store_arr (i := t) (j := 0) (d := dB (bitLb l.up)) rfl rfl rfl rfl .same rfl (by rw [show [dB (encR (vAt W f))].set 0 (dB (bitLb (!l.up))) = [dB (bitLb (!l.up))] from rfl, byteEls_set]; exact hgc) (by decide)) rfl ?_;refine AL.nil (ib_n (th_n (AC.region ?_)));refine zA ?_;refine zm ?_;refine AL.nil (th_n ?_);exact ⟨(j + 1, (W.set f (some (!l.up))).set t (some l.up)), ⟨by dsimp only; omega, by dsimp only; rw [List.length_set, List.length_set]; exact hWl, hps⟩, by dsimp only; omega, zw [(100, 100)] hC (b := by rw [encS_set, encS_set, ← byteEls_set, ← byteEls_set]; repeat (first | exact True.intro | refine And.intro ?_ ?_ | exact rfl | refine ⟨_, _, rfl, rfl, ?_⟩))⟩
  refine AC.exit (th_e (th_e (ib_y (ib_n (th_n (AC.region ?_))))));refine zm ?_;refine zA ?_;refine za ?_;refine AL.nil (th_n ?_);have hjj : j = A.length := by omega
  rw [hjj, List.drop_length, passR] at hps;rw [← hps, Option.bind_some] at hit;exact ⟨(p + 1, W), ⟨by dsimp only; omega, hWl, by rw [show n + 1 - (p + 1) = q by omega]; exact hit⟩, by dsimp only; omega, zw [(100, 100)] hC⟩
 refine AC.exit (th_e (th_e (ib_y (th_n (AC.seq ?_)))));have hz : n + 1 - p = 0 := by omega
 rw [hz, iterR] at hit;have e := hRs V hit.symm;have hel := encS_len V;refine AC.region ?_;refine kB ?_;refine AL.p (by exact g_strOfBytes (l := encS V) rfl rfl rfl rfl rfl rfl (by rw [hel, hVl])) rfl ?_;refine za ?_;refine za ?_;refine AL.nil (th_n (AC.ret (bq_r ?_)));exact ret2 rfl (by rw [e]) (by rw [e])
theorem en_l5Values : Enters Tryz.prog 70 := enters_of Tryz.func70 rfl rfl
def swapE (E : List (Nat × Nat)) : List (Nat × Nat) := E.map fun e => (e.2, e.1)
theorem swapE_mem {E : List (Nat × Nat)} {f t : Nat} : (f, t) ∈ swapE E ↔ (t, f) ∈ E := by
 unfold swapE;rw [List.mem_map];constructor
 ·rintro ⟨⟨a, b⟩, h, e⟩;obtain ⟨rfl, rfl⟩ := Prod.mk.inj e;exact h
 intro h; exact ⟨(t, f), h, rfl⟩
theorem swapE_len (E : List (Nat × Nat)) : (swapE E).length = E.length := List.length_map _
abbrev canAt (c : List Bool) (v : Nat) : Bool := c.getD v false
theorem canAt_set {c : List Bool} {v u : Nat} : canAt (c.set v true) u = true ↔ canAt c u = true ∨ (u = v ∧ v < c.length) := by
 unfold canAt;rw [List.getD_eq_getElem?_getD, List.getD_eq_getElem?_getD, List.getElem?_set]
 by_cases e : v = u
 ·subst e;rw [if_pos rfl]
  by_cases h : v < c.length
  ·rw [if_pos h]; simp [h]
  rw [if_neg h, List.getElem?_eq_none (by omega)]; simp [h]
 rw [if_neg e];constructor
 ·exact .inl
 rintro (g | ⟨rfl, _⟩)
 ·exact g
 exact absurd rfl e
structure BackI (E : List (Nat × Nat)) (n s : Nat) (o : List Int) (c : List Bool) (r j : Nat) : Prop where
 len : c.length = n
 snd : ∀ v, canAt c v = true → 0 ≤ oa o v
 cmp : ∀ v, 0 ≤ oa o v → oa o v ≤ r → canAt c v = true
 part : ∀ f t, (f, t) ∈ E.take j → 0 ≤ oa o t → oa o t ≤ r → canAt c f = true
theorem BackI.start {E : List (Nat × Nat)} {n s : Nat} {o : List Int} (hs : s < n) (h : DistOf (swapE E) n s o) : BackI E n s o ((List.replicate n false).set s true) 0 0 := by
 refine ⟨by simp, fun v hv => ?_, fun v h0 h1 => ?_, fun f t hm => by simp at hm⟩
 ·rcases canAt_set.1 hv with g | ⟨rfl, _⟩
  ·unfold canAt at g; rw [List.getD_eq_getElem?_getD, List.getElem?_replicate] at g; split at g <;> cases g
  rw [h.st]; exact Int.le_refl _
 have hw := h.wk v 0 (by omega);cases hw;exact canAt_set.2 (.inr ⟨rfl, by simpa using hs⟩)
theorem BackI.no {E : List (Nat × Nat)} {n s : Nat} {o : List Int} {c : List Bool} {r j : Nat} (h : BackI E n s o c r j) (hj : j < E.length) (hb : canAt c E[j].2 = false) : BackI E n s o c r (j + 1) := by
 refine ⟨h.len, h.snd, h.cmp, fun f t hm h0 h1 => ?_⟩;rcases mem_takeE hj hm with g | g
 ·exact h.part f t g h0 h1
 rw [← g] at hb;have := h.cmp t h0 h1;rw [hb] at this; cases this
theorem BackI.yes {E : List (Nat × Nat)} {n s : Nat} {o : List Int} {c : List Bool} {r j : Nat} (hd : DistOf (swapE E) n s o) (h : BackI E n s o c r j) (hj : j < E.length) (hf : E[j].1 < n) (hb : canAt c E[j].2 = true) : BackI E n s o (c.set E[j].1 true) r (j + 1) := by
 refine ⟨by rw [List.length_set]; exact h.len, fun v hv => ?_, fun v h0 h1 => canAt_set.2 (.inl (h.cmp v h0 h1)), fun f t hm h0 h1 => ?_⟩
 ·rcases canAt_set.1 hv with g | ⟨rfl, _⟩
  ·exact h.snd v g
  exact (hd.ed E[j].2 E[j].1 (swapE_mem.2 (List.getElem_mem hj)) (h.snd _ hb)).1
 rcases mem_takeE hj hm with g | g
 ·exact canAt_set.2 (.inl (h.part f t g h0 h1))
 rw [← g]; exact canAt_set.2 (.inr ⟨rfl, by rw [h.len, g]; exact hf⟩)
theorem BackI.next {E : List (Nat × Nat)} {n s : Nat} {o : List Int} {c : List Bool} {r j : Nat} (hd : DistOf (swapE E) n s o) (h : BackI E n s o c r j) (hj : j = E.length) : BackI E n s o c (r + 1) 0 := by
 refine ⟨h.len, h.snd, fun v h0 h1 => ?_, fun f t hm => by simp at hm⟩;rcases Int.lt_or_le (oa o v) ((r : Int) + 1) with g | g
 ·exact h.cmp v h0 (by omega)
 have hv : oa o v = ((r + 1 : Nat) : Int) := by omega
 have hw := hd.wk v (r + 1) hv;cases hw with
 | @step _ u _ w e =>
  have h2 := hd.walk w;have h3 := hd.ed u v e h2.1;exact h.part v u (by rw [hj, List.take_length]; exact swapE_mem.1 e) h2.1 (by omega)
theorem BackI.all {E : List (Nat × Nat)} {n s : Nat} {o : List Int} {c : List Bool} (h : BackI E n s o c n 0) (hle : ∀ v, oa o v ≤ n) (v : Nat) : canAt c v = decide (0 ≤ oa o v) := by
 rw [Bool.eq_iff_iff, decide_eq_true_eq];exact ⟨h.snd v, fun g => h.cmp v g (hle v)⟩
def cutM (M a : Int) : Int := if a < M then a else M
def addC (M : Int) (now : List Int) : List Mv → List Int → List Int
 | [], nx => nx
 | v :: l, nx => addC M now l (nx.set v.to_.toNat (cutM M (nx.getD v.to_.toNat 0 + now.getD v.from_.toNat 0)))
structure CapI (a b : List Int) : Prop where
 len : a.length = b.length
 lo : ∀ v, 0 ≤ a.getD v 0 ∧ a.getD v 0 ≤ 2000000
 cap : ∀ v, b.getD v 0 = cutM 1000001 (a.getD v 0)
theorem iget_set {l : List Int} {i v : Nat} {x : Int} : (l.set i x).getD v 0 = if v = i ∧ i < l.length then x else l.getD v 0 := by
 rw [List.getD_eq_getElem?_getD, List.getD_eq_getElem?_getD, List.getElem?_set]
 by_cases e : i = v
 ·subst e
  by_cases h : i < l.length
  ·rw [if_pos rfl, if_pos h, if_pos ⟨rfl, h⟩]; rfl
  rw [if_pos rfl, if_neg h, if_neg (fun q => h q.2), List.getElem?_eq_none (by omega)]
 rw [if_neg e, if_neg (fun q => e q.1.symm)]
theorem iget_rep (n v : Nat) : (List.replicate n (0 : Int)).getD v 0 = 0 := by
 rw [List.getD_eq_getElem?_getD, List.getElem?_replicate]; split <;> rfl
theorem CapI.zero (n : Nat) : CapI (List.replicate n 0) (List.replicate n 0) := ⟨rfl, fun v => by rw [iget_rep]; decide, fun v => by rw [iget_rep]; decide⟩
theorem CapI.add {now now' : List Int} (hn : CapI now now') : ∀ (L : List Mv) {a b : List Int}, CapI a b → CapI (addC 2000000 now L a) (addC 1000001 now' L b)
 | [], a, b, h => h
 | v :: L, a, b, h => by
  rw [addC, addC];refine CapI.add hn L ⟨by rw [List.length_set, List.length_set]; exact h.len, fun u => ?_, fun u => ?_⟩
  ·rw [iget_set];have h1 := h.lo v.to_.toNat;have h2 := hn.lo v.from_.toNat;have h3 := h.lo u;unfold cutM
   split
   ·split <;> omega
   exact h3
  rw [iget_set, iget_set, ← h.len];have h1 := h.lo v.to_.toNat;have h2 := hn.lo v.from_.toNat;have h3 := h.cap v.to_.toNat;have h4 := hn.cap v.from_.toNat
  split
  ·rw [h3, h4];unfold cutM
   repeat' split
   all_goals omega
  exact h.cap u
abbrev boolL (c : List Bool) : List (List DV) := c.map fun b => [dT b]
theorem boolL_len (c : List Bool) : (boolL c).length = c.length := List.length_map _
theorem boolL_get {c : List Bool} {v : Nat} (h : v < c.length) : (boolL c)[v]? = some [dT (canAt c v)] := by
 rw [List.getElem?_map, List.getElem?_eq_getElem h];unfold canAt;rw [List.getD_eq_getElem?_getD, List.getElem?_eq_getElem h]; rfl
theorem boolL_set (c : List Bool) (v : Nat) : boolL (c.set v true) = (boolL c).set v [dT true] := by unfold boolL; rw [List.map_set]
theorem boolL_rep (n : Nat) : List.replicate n (([ZK.bool] : List ZK).map fun z => DV.val z.val) = boolL (List.replicate n false) := by unfold boolL; rw [List.map_replicate]; rfl
def allU (o : List Int) (i : Nat) : Bool := (List.range i).all fun v => decide (0 ≤ oa o v)
def clB (s : Stg) (x : Ex) (k : Nat) : Bool := (valF (k : Int) (arcsOf s x) x.marks.length).isNone
def clL (s : Stg) (x : Ex) (n : Nat) : List Int := nI ((List.range n).filter (clB s x))
theorem clL_succ (s : Stg) (x : Ex) (n : Nat) : clL s x (n + 1) = clL s x n ++ (if clB s x n = true then [(n : Int)] else []) := by
 unfold clL nI;rw [List.range_succ, List.filter_append, List.map_append];congr 1;cases h : clB s x n <;> simp [h]
theorem clL_len (s : Stg) (x : Ex) (n : Nat) : (clL s x n).length ≤ n := by
 unfold clL nI;rw [List.length_map];have := List.length_filter_le (clB s x) (List.range n)
 rwa [List.length_range] at this
theorem clB_S (s : Stg) (x : Ex) (k : Nat) : (valS (k : Int) (arcsOf s x) x.marks.length).2 = !clB s x k := by
 unfold valS clB;cases valF (k : Int) (arcsOf s x) x.marks.length <;> rfl
structure CodI (s : Stg) (x : Ex) : Prop where
 n1 : 1 ≤ x.marks.length
 n : x.marks.length ≤ 300
 m : x.moves.length ≤ 10000
 b : ∀ v, v ∈ x.moves → 0 ≤ v.by_ ∧ v.by_ < s.labs.length
 a : ∀ a, a ∈ arcsOf s x → ArIn x.marks.length a
theorem codI {s : Stg} (h : (explS s).2 = true) : CodI s (explS s).1 := by
 obtain ⟨hg, hE⟩ := explS_Expl h;have hl := (goodS_sigs hg).2.2.2;refine ⟨hE.n.1, hE.n.2, (explS_in s).2, fun v hv => ?_, fun a ha => ?_⟩
 ·have := hE.inn v hv;rw [hl]; exact this.2.2.2.2
 unfold arcsOf at ha;obtain ⟨v, hv, rfl⟩ := List.mem_map.1 ha;have := hE.inn v hv;exact ⟨⟨this.1, this.2.1⟩, this.2.2.1, this.2.2.2.1⟩
set_option maxHeartbeats 4000000 in
theorem l5Clash_spec (s : Stg) (x : Ex) (hsg : s.sigs.length ≤ 100000) (hx : CodI s x) : ASpec Tryz.prog 69 [stgA s, rgA x] [] (Pure1 (.d (vI (clL s x s.sigs.length)))) := by
 have hHs := clL_succ s x;have hHl := clL_len s x;have hV := fun k : Nat => l5Values_spec s x k hx.n1 (by have := hx.n; omega) (by have := hx.m; omega) hx.b hx.a
 simp only [clB_S] at hV;refine ASpec.of Tryz.func69 rfl rfl fun C hC => ?_
 refine AC.seq (AC.region ?_);refine kD ?_;refine kD ?_;refine za ?_;refine AL.nil (th_n (AC.seq (AC.region ?_)));refine za ?_;refine AL.nil (th_n (AC.seq (AC.seq (AC.region ?_))));refine zf ?_;refine zr ?_;refine kI s.sigs.length (sigsL_len _) ?_;refine zm ?_;refine AL.nil (th_n (AC.block ?_));refine AC.loop (ι := Nat) (fun k => ⟨30, 600, [(2, .d (.ref (stgD s))), (3, .d (.ref (rgD x))), (5, .own 100 (clL s x k).length), (11, aI s.sigs.length), (12, aI k)], [(100, some (.arr 3 1 (ints (clL s x k))))]⟩) (fun k => k ≤ s.sigs.length) (fun k => s.sigs.length - k) (0) ?_ (Nat.zero_le _) ?_
 ·exact (Weak.nilOwn (i := 5) (e := 3) (sz := 1) rfl (by decide)).trans (zw [(100, _)] hC)
 intro k hk;refine AC.seq (AC.region ?_);refine zc ?_;refine AL.nil (th_n (AC.seq ?_));refine AC.condD rfl (fun h0 => ?_) (fun h0 => ?_)
 ·refine AC.skip (th_n (AC.seq (AC.block (AC.seq ?_))));have hk1 : k < s.sigs.length := by omega
  have hHk := hHs k;have hHlk := hHl k;have hVk := hV k;obtain ⟨h, hh⟩ := eqx (clB s x k);rw [← hh] at hVk hHk;clear hh;refine AC.region ?_;refine zm ?_;refine za ?_;refine AL.nil (th_n (AC.seq (AC.region ?_)));refine kG ?_;refine kG ?_;refine zm ?_;refine kV en_l5Values hVk ?_;refine AL.p (by exact mv5 rfl) rfl ?_;refine AL.p (by exact g_extract (r := .d _) rfl rfl) rfl ?_;refine AL.p (by exact g_extract (r := .d _) rfl rfl) rfl ?_;refine za ?_;refine za ?_;refine AL.nil (th_n (AC.seq (AC.region ?_)));refine zm ?_;refine kC ?_;refine AL.nil (th_n ?_);refine AC.condB rfl (fun h1 => ?_) (fun h1 => ?_)
  ·refine AC.region ?_;refine kB ?_;refine zm ?_;refine AL.q (by exact h_litF rfl rfl rfl rfl rfl rfl rfl rfl) rfl ?_;refine AL.q (by exact h_appendI (clL s x k) [(k : Int)] (.own rfl rfl (ints_len _).symm) (.view rfl) (by rw [List.length_append]; simp only [List.length_cons, List.length_nil]; omega) (by simp)) rfl ?_;refine AL.p (by exact as2 rfl) rfl ?_;refine AL.nil (ib_n (th_n (AC.region ?_)));refine zA ?_;refine zm ?_;refine AL.nil (th_n ?_)
   (have e : h = true := (by simpa using ‹(!!h) = true›); rw [if_pos e] at hHk; exact ⟨k + 1, by omega, by omega, zw [(100, _)] hC (by rw [hHk]; repeat (first | exact True.intro | refine And.intro ?_ ?_ | exact DLead.same | exact rfl | refine ⟨_, rfl, ?_⟩)) (by rw [hHk]; repeat (first | exact True.intro | refine And.intro ?_ ?_ | exact rfl | refine ⟨_, _, rfl, rfl, ?_⟩))⟩)
  refine AC.skip (ib_n (th_n (AC.region ?_)));refine zA ?_;refine zm ?_;refine AL.nil (th_n ?_)
  (have e : ¬ h = true := (by simpa using ‹(!!h) = false›); rw [if_neg e, List.append_nil] at hHk; exact ⟨k + 1, by omega, by omega, zw [(100, 100)] hC (by rw [hHk]; repeat (first | exact True.intro | refine And.intro ?_ ?_ | exact DLead.same | exact rfl | refine ⟨_, rfl, ?_⟩)) (by rw [hHk]; repeat (first | exact True.intro | refine And.intro ?_ ?_ | exact rfl | refine ⟨_, _, rfl, rfl, ?_⟩))⟩)
 refine AC.exit (th_e (th_e (ib_y (th_n (AC.seq ?_)))));have hkk : k = s.sigs.length := by omega
 rw [hkk];refine AC.weak (Weak.freeze (i := 5) rfl rfl (Nat.le_of_eq (ints_len _).symm) (List.take_of_length_le (Nat.le_of_eq (ints_len _)))) ?_;refine AC.region ?_;refine zm ?_;refine za ?_;refine AL.nil (th_n (AC.ret (bq_r ?_)));exact ret0 rfl (by repeat (exact DLead.same))
theorem en_l5Clash : Enters Tryz.prog 69 := enters_of Tryz.func69 rfl rfl
structure SG where
 sigs : List Sig
 codes : List (List UInt8)
 arcs : List Ar
abbrev sgD (c : SG) : List DV := [vSigs c.sigs, .view 9 1 (tsX c.codes), vArs c.arcs]
abbrev sgA (c : SG) : AV := .agg [.d (vSigs c.sigs), .d (.view 9 1 (tsX c.codes)), .d (vArs c.arcs)]
abbrev zSG : List AV := [.d (.val (.slice none 0 0)), .d (.val (.slice none 0 0)), .d (.val (.slice none 0 0))]
theorem iterV_len {sg : Int} {L : List Ar} {n : Nat} (hL : ∀ a, a ∈ L → ArIn n a) : ∀ (k : Nat) {V W : List (Option Bool)}, V.length = n → iterV sg L k V = some W → W.length = n
 | 0, V, W, hV, h => by cases h; exact hV
 | k + 1, V, W, hV, h => by
  rw [iterV] at h;cases hp : passV sg L V with
  | none => rw [hp] at h; cases h
  | some U =>
   rw [hp, Option.bind_some] at h;exact iterV_len hL k ((passV_ups hV hL hp).1.trans hV) h
theorem valF_len {sg : Int} {L : List Ar} {n : Nat} {V : List (Option Bool)} (hL : ∀ a, a ∈ L → ArIn n a) (h : valF sg L n = some V) : V.length = n := iterV_len hL _ (by simp) h
def colC (s : Stg) (x : Ex) (j i : Nat) : UInt8 := chB (vAt ((valF (j : Int) (arcsOf s x) x.marks.length).getD []) i)
def codeC (s : Stg) (x : Ex) (k i : Nat) : List UInt8 := (List.range k).map fun j => colC s x j i
def mixC (s : Stg) (x : Ex) (k i : Nat) : List (List UInt8) := (List.range x.marks.length).map fun a => codeC s x (if a < i then k + 1 else k) a
theorem codeC_len (s : Stg) (x : Ex) (k i : Nat) : (codeC s x k i).length = k := by unfold codeC; simp
theorem codeC_succ (s : Stg) (x : Ex) (k i : Nat) : codeC s x (k + 1) i = codeC s x k i ++ [colC s x k i] := by unfold codeC; rw [List.range_succ, List.map_append]; rfl
theorem mixC_len (s : Stg) (x : Ex) (k i : Nat) : (mixC s x k i).length = x.marks.length := by unfold mixC; simp
theorem mixC_next (s : Stg) (x : Ex) (k : Nat) : mixC s x k x.marks.length = mixC s x (k + 1) 0 := by
 unfold mixC;refine List.map_congr_left fun a ha => ?_
 rw [if_pos (List.mem_range.1 ha), if_neg (Nat.not_lt_zero _)]
theorem mixC_get {s : Stg} {x : Ex} {k i : Nat} (h : i < x.marks.length) : (tsX (mixC s x k i))[i]? = some [dS (bstr (codeC s x k i))] := by
 unfold mixC;rw [List.getElem?_map, List.getElem?_map, List.getElem?_range h, Option.map_some, Option.map_some, if_neg (Nat.lt_irrefl _)]
theorem mixC_set {s : Stg} {x : Ex} {k i : Nat} (h : i < x.marks.length) : (tsX (mixC s x k i)).set i [dS (bstr (codeC s x k i) ++ bstr [colC s x k i])] = tsX (mixC s x k (i + 1)) := by
 rw [bstr_append, ← codeC_succ];unfold mixC;refine List.ext_getElem? fun a => ?_
 rw [List.getElem?_set]
 by_cases e : i = a
 ·subst e;rw [if_pos rfl, if_pos (by simpa using h), List.getElem?_map, List.getElem?_map, List.getElem?_range h, Option.map_some, Option.map_some, if_pos (Nat.lt_succ_self _)]
 rw [if_neg e]
 by_cases ha : a < x.marks.length
 ·rw [List.getElem?_map, List.getElem?_map, List.getElem?_map, List.getElem?_map, List.getElem?_range ha];simp only [Option.map_some];congr 5
  by_cases q : a < i
  ·rw [if_pos q, if_pos (by omega)]
  rw [if_neg q, if_neg (by omega)]
 rw [List.getElem?_eq_none (by simpa using ha), List.getElem?_eq_none (by simpa using ha)]
theorem mixC_zero (s : Stg) (x : Ex) : tsX (mixC s x 0 0) = List.replicate x.marks.length (([ZK.str] : List ZK).map fun z => DV.val z.val) := by
 unfold mixC;refine List.ext_getElem? fun a => ?_
 by_cases ha : a < x.marks.length
 ·rw [List.getElem?_map, List.getElem?_map, List.getElem?_range ha, List.getElem?_replicate, if_pos ha]; rfl
 rw [List.getElem?_eq_none (by simpa using ha), List.getElem?_eq_none (by simpa using ha)]
def codeS (s : Stg) : SG × Bool := if (explS s).2 = true ∧ (clL s (explS s).1 s.sigs.length).length = 0 ∧ (explS s).1.moves.length ≤ 4000 then (⟨s.sigs, mixC s (explS s).1 s.sigs.length 0, arcsOf s (explS s).1⟩, true) else (⟨[], [], []⟩, false)
theorem clL_zero {s : Stg} {x : Ex} {n : Nat} : (clL s x n).length = 0 ↔ ∀ k, k < n → clB s x k = false := by
 unfold clL nI;rw [List.length_map, List.length_eq_zero_iff, List.filter_eq_nil_iff];exact ⟨fun h k hk => by have := h k (List.mem_range.2 hk); simpa using this, fun h k hk => by rw [h k (List.mem_range.1 hk)]; decide⟩
end Go.Proofs.YtjodfopifgiipaaGreat
