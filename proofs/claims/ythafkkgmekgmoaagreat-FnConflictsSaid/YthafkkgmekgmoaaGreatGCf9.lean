/- Contracts of the functions of the program and of the reference, each proved by a walk through its code. -/
import Derived.WalkKit
import Derived.WalkSpells
import Derived.WalkLawsBesides
import Derived.Deep.Draws
import Derived.Lib.Hide
import Derived.Maps.AppendAt
import Derived.OwnWalk
import Derived.Deep.MidRow
import Derived.Laws.ResultCell
import Derived.Deep.Upon
import Derived.Great.FillDense
import Derived.Laws.Tables
import Derived.Laws.BytesArg
import Derived.Laws.MakeOwn
import Derived.Great.BuildSlice
import Derived.ArgAppend
import Derived.Deep.AppendSrc
import Derived.Test.YthafkkgmekgmoaaGreatProg
import Derived.KernelRfl
import Derived.Orders
import Derived.Laws.IdiomStrings
import Derived.Lib.AppendZerosOnto
import Derived.ProofKit
import Derived.OpenShut
import Derived.Lib.SliceRun
import Derived.Laws.StructEq
import Derived.ChangeKeysEq
import Derived.Sort.Grow
import Derived.Laws.RangeString
import Derived.Below
import Derived.Laws.Small
import Derived.MapKept
import Derived.WideMake
import Derived.Laws.IdiomCopy
import Derived.Shelf.Strings.Builder1
import Derived.Shelf.Strings.Builder2
import Derived.Shelf.Strings.OnBuilder
import Derived.Shelf.Bits.Mul64
import Derived.Test.YthafkkgmekgmoaaGreatRows
import Derived.Test.YthafkkgmekgmoaaGreatGCf8
set_option linter.all false
set_option maxRecDepth 20000
namespace Go.Proofs.YthafkkgmekgmoaaGreat
open Go.RowKit
set_option maxHeartbeats 16000000 in
theorem iValidSg_spec (c : SG) (hc : SgL c) : ASpec Tryz.prog 49 [sgA c] [] (Pure1 (aT (validC c))) := by
 have hV := areSignals_spec c.sigs (by have := hc.sg; omega) hc.sn;have hW := within_spec c.codes.length 1 300;obtain ⟨hN1, hN2, hN3, hN4, hN5⟩ := validC_no (c := c);have hY := validC_yes (c := c);have hCd := fun (k : Nat) (hk : k < c.codes.length) => isBits_spec c.codes[k] c.sigs.length (hc.cl _ (List.getElem_mem hk))
 have hn := hc.n;have hsg := hc.sg;have hal := hc.a;obtain ⟨R, hR⟩ : ∃ R, R = validC c := ⟨_, rfl⟩;rw [← hR] at hN1 hN2 hN3 hN4 hN5 hY ⊢;obtain ⟨b1, hb1⟩ : ∃ b, b = sigsB c.sigs := ⟨_, rfl⟩;rw [← hb1] at hV hN1 hY;have hB2 : (decide ((1 : Int) ≤ c.codes.length) && decide ((c.codes.length : Int) ≤ 300)) = true → 1 ≤ c.codes.length := fun h => by rw [Bool.and_eq_true, decide_eq_true_eq] at h; omega
 obtain ⟨b2, hb2⟩ : ∃ b, b = (decide ((1 : Int) ≤ c.codes.length) && decide ((c.codes.length : Int) ≤ 300)) := ⟨_, rfl⟩;rw [← hb2] at hW hN2 hY hB2;clear hR hb1 hb2;refine ASpec.of Tryz.func49 rfl rfl fun C hC => ?_
 refine AC.seq (AC.region ?_);refine AL.q (by exact h_boxF rfl rfl) rfl ?_;refine za ?_;refine AL.nil (th_n (AC.seq (AC.seq (AC.region ?_))));refine zf ?_;refine zr ?_;refine AL.q (by exact h_pure en_areSignals rfl rfl (by repeat (first | exact rfl | exact DLead.same | refine ⟨_, _, rfl, ?_, ?_⟩)) hV rfl) rfl ?_;refine AL.p (by exact g_not rfl) rfl ?_;refine zm ?_;refine AL.caseGB rfl rfl (fun h0 => ?_) (fun h0 => ?_)
 ·refine zn ?_;refine zn ?_;refine zn ?_;refine zn ?_;refine zn ?_;refine zQ ?_;refine zm ?_;refine zn ?_;refine zn ?_;refine zn ?_;refine zn ?_;refine zQ ?_;refine AL.nil (th_n ?_);refine AC.condT rfl ?_;refine AC.seq (AC.region ?_);refine za ?_;refine AL.nil (th_n (AC.ret (th_r (bq_r ?_))));have e : R = false := by exact hN1 (by simpa using ‹(!b1) = true›)
  exact ret1 rfl (by rw [e])
 refine zy ?_;refine zf ?_;refine zy ?_;refine zr ?_;refine zy ?_;refine AL.p (by exact g_len_view (k := c.codes.length) rfl rfl (tsX_len _)) rfl ?_;refine zy ?_;refine AL.q (by exact h_pure en_within rfl rfl (by repeat (first | exact rfl | exact DLead.same | refine ⟨_, _, rfl, ?_, ?_⟩)) hW rfl) rfl ?_;refine zy ?_;refine AL.p (by exact g_not rfl) rfl ?_;refine zP ?_;refine zm ?_;refine AL.caseGB rfl rfl (fun h1 => ?_) (fun h1 => ?_)
 ·refine zn ?_;refine zn ?_;refine zn ?_;refine zn ?_;refine zQ ?_;refine AL.nil (th_n ?_);refine AC.condT rfl ?_;refine AC.seq (AC.region ?_);refine za ?_;refine AL.nil (th_n (AC.ret (th_r (bq_r ?_))));have e : R = false := by exact hN2 (by simpa using ‹(!b2) = true›)
  exact ret1 rfl (by rw [e])
 refine zy ?_;refine zf ?_;refine zy ?_;refine zr ?_;refine zy ?_;refine AL.p (by exact g_len_view (k := c.arcs.length) rfl rfl (arL_len _)) rfl ?_;refine zy ?_;refine zc ?_;refine zP ?_;refine AL.nil (th_n ?_);refine AC.condD rfl (fun h2 => ?_) (fun h2 => ?_)
 ·refine AC.seq (AC.region ?_);refine za ?_;refine AL.nil (th_n (AC.ret (th_r (bq_r ?_))));have e : R = false := by exact hN3 (by have := ‹(c.arcs.length : Int) > 4000›; omega)
  exact ret1 rfl (by rw [e])
 refine AC.skip (th_n (AC.seq ?_));have hb1 : b1 = true := by simpa using ‹(!b1) = false›
 have hb2 : b2 = true := by simpa using ‹(!b2) = false›
 have h4000 : c.arcs.length ≤ 4000 := by have := ‹¬ (c.arcs.length : Int) > 4000›; omega
 have hn1 := hB2 hb2;have hY2 := hY hb1 hb2 h4000;clear hY hV hW hN1 hN2 hN3;refine AC.region ?_;refine zf ?_;refine zr ?_;refine AL.p (by exact g_len_view (k := c.codes.length) rfl rfl (tsX_len _)) rfl ?_;refine zA ?_;refine za ?_;refine AL.nil (th_n (AC.seq (AC.seq (AC.region ?_))));refine zf ?_;refine zr ?_;refine AL.p (by exact g_len_view (k := c.codes.length) rfl rfl (tsX_len _)) rfl ?_;refine zm ?_;refine AL.nil (th_n (AC.block ?_));refine AC.loop (ι := Nat) (fun k => ⟨101, 300, [(1, .d (.ref (sgD c))), (3, aI ((c.codes.length : Int) - 1)), (30, .d (.view 9 1 (tsX c.codes))), (31, aI c.codes.length), (32, aI k)], []⟩) (fun k => k ≤ c.codes.length ∧ ∀ j (hj : j < c.codes.length), j < k → bitsB c.codes[j] c.sigs.length = true) (fun k => c.codes.length - k) (0) ?_ (⟨Nat.zero_le _, fun j _ hj => absurd hj (Nat.not_lt_zero _)⟩) ?_
 ·exact Weak.ren _ [] hC rfl (by repeat (first | exact True.intro | refine And.intro ?_ ?_ | exact DLead.same)) (by repeat (exact True.intro)) rfl rfl rfl
 rintro k ⟨hk, hall⟩;refine AC.seq (AC.region ?_);refine zc ?_;refine AL.nil (th_n (AC.seq ?_));refine AC.condD rfl (fun h3 => ?_) (fun h3 => ?_)
 ·refine AC.skip (th_n (AC.seq (AC.block (AC.seq ?_))));have hk1 : k < c.codes.length := by omega
  have hget := tsX_get hk1;have hCk := hCd k hk1;have hNk := hN4 k hk1;obtain ⟨b, hb⟩ : ∃ b, b = bitsB c.codes[k] c.sigs.length := ⟨_, rfl⟩;rw [← hb] at hCk hNk;refine AC.region ?_;refine AL.p (by exact g_ia_view rfl rfl rfl rfl rfl (by rfl) (by assumption)) rfl ?_;refine zr ?_;refine za ?_;refine AL.nil (th_n (AC.seq (AC.region ?_)));refine zm ?_;refine zf ?_;refine zr ?_;refine AL.p (by exact g_len_view (k := c.sigs.length) rfl rfl (sigsL_len _)) rfl ?_;refine AL.q (by exact h_pure en_isBits rfl rfl (by repeat (first | exact rfl | exact DLead.same | refine ⟨_, _, rfl, ?_, ?_⟩)) hCk rfl) rfl ?_;refine AL.p (by exact g_not rfl) rfl ?_;refine AL.nil (th_n ?_);refine AC.condB rfl (fun h4 => ?_) (fun h4 => ?_)
  ·refine AC.seq (AC.region ?_);refine za ?_;refine AL.nil (th_n (AC.ret (ib_r (th_r (th_r (ib_r (th_r (bq_r ?_))))))));exact ret1 rfl (by rw [hNk (by simpa using ‹(!b) = true›)])
  refine AC.skip (ib_n (th_n (AC.region ?_)));refine zA ?_;refine zm ?_;refine AL.nil (th_n ?_);exact ⟨k + 1, ⟨by omega, fun j hj hj2 => by rcases Nat.lt_succ_iff_lt_or_eq.1 hj2 with h | rfl; exact hall j hj h; rw [← hb]; simpa using ‹(!b) = false›⟩, by omega, Weak.ren _ [] hC rfl (by repeat (first | exact True.intro | refine And.intro ?_ ?_ | exact DLead.same)) (by repeat (exact True.intro)) rfl rfl rfl⟩
 refine AC.exit (th_e (th_e (ib_y (th_n (AC.seq (AC.seq ?_))))));have hbits : ∀ j (hj : j < c.codes.length), bitsB c.codes[j] c.sigs.length = true := fun j hj => hall j hj (by omega)
 have hbitm : ∀ w, w ∈ c.codes → bitsB w c.sigs.length = true := fun w hw => by obtain ⟨j, hj, rfl⟩ := List.getElem_of_mem hw; exact hbits j hj
 have hY3 := hY2 hbits;clear hall;refine AC.region ?_;refine zf ?_;refine zr ?_;refine AL.p (by exact g_len_view (k := c.arcs.length) rfl rfl (arL_len _)) rfl ?_;refine zm ?_;refine AL.nil (th_n (AC.block ?_));refine AC.loop (ι := Nat) (fun k => ⟨101, 600, [(1, .d (.ref (sgD c))), (3, aI ((c.codes.length : Int) - 1)), (44, .d (vArs c.arcs)), (45, aI c.arcs.length), (46, aI k)], []⟩) (fun k => k ≤ c.arcs.length ∧ ∀ j (hj : j < c.arcs.length), j < k → arcG c c.arcs[j] = true) (fun k => c.arcs.length - k) (0) ?_ (⟨Nat.zero_le _, fun j _ hj => absurd hj (Nat.not_lt_zero _)⟩) ?_
 ·exact Weak.ren _ [] hC rfl (by repeat (first | exact True.intro | refine And.intro ?_ ?_ | exact DLead.same)) (by repeat (exact True.intro)) rfl rfl rfl
 rintro k ⟨hk, hall⟩;refine AC.seq (AC.region ?_);refine zc ?_;refine AL.nil (th_n (AC.seq ?_));refine AC.condD rfl (fun h4 => ?_) (fun h4 => ?_)
 ·refine AC.skip (th_n (AC.seq (AC.block (AC.seq ?_))));have hk1 : k < c.arcs.length := by omega
  have hget := arL_get hk1;have hNk := hN5 k hk1;have hnext : arcG c c.arcs[k] = true → ∀ j (hj : j < c.arcs.length), j < k + 1 → arcG c c.arcs[j] = true := fun q j hj hj2 => by rcases Nat.lt_succ_iff_lt_or_eq.1 hj2 with h | rfl; exact hall j hj h; exact q
  obtain ⟨a, ha⟩ : ∃ a, a = c.arcs[k] := ⟨_, rfl⟩;rw [← ha] at hget hNk hnext;obtain ⟨f, sg, up, t⟩ := a;dsimp only at hget;clear ha;have hW1 := within_spec f 0 ((c.codes.length : Int) - 1);have hW2 := within_spec t 0 ((c.codes.length : Int) - 1);have hW3 := isEdge_spec ⟨sg, up⟩ c.sigs.length (by omega);have hR : arcG c ⟨f, sg, up, t⟩ = (((inS c.codes.length f && inS c.codes.length t) && labOk ⟨sg, up⟩ c.sigs.length) && fitS ⟨f, sg, up, t⟩ (cAtS c f.toNat) (cAtS c t.toNat)) := rfl;have hF := fun h : inS c.codes.length f = true => inS_in h
  have hT := fun h : inS c.codes.length t = true => inS_in h
  have hFit : inS c.codes.length f = true → inS c.codes.length t = true → labOk ⟨sg, up⟩ c.sigs.length = true → ASpec Tryz.prog 141 [arA ⟨f, sg, up, t⟩, aS (bstr (cAtS c f.toNat)), aS (bstr (cAtS c t.toNat))] [] (Pure1 (aT (fitS ⟨f, sg, up, t⟩ (cAtS c f.toNat) (cAtS c t.toNat)))) := fun h1 h2 h3 => by have m1 := cAtS_mem (inS_in h1).2; have m2 := cAtS_mem (inS_in h2).2; have g1 := hbitm _ m1; have g2 := hbitm _ m2; rw [← fit_eq (a := ⟨f, sg, up, t⟩) g1 g2 h3]; refine fitsCodes_spec _ _ _ (hc.cl _ m1) ?_; rw [bitsB, Bool.and_eq_true, decide_eq_true_eq] at g1 g2; omega
  have hI1 : inS c.codes.length f = (decide (0 ≤ f) && decide (f ≤ (c.codes.length : Int) - 1)) := rfl;have hI2 : inS c.codes.length t = (decide (0 ≤ t) && decide (t ≤ (c.codes.length : Int) - 1)) := rfl;rw [← hI1] at hW1;rw [← hI2] at hW2;clear hI1 hI2;obtain ⟨d1, hd1⟩ : ∃ b, b = inS c.codes.length f := ⟨_, rfl⟩;obtain ⟨d2, hd2⟩ : ∃ b, b = inS c.codes.length t := ⟨_, rfl⟩;obtain ⟨d3, hd3⟩ : ∃ b, b = labOk ⟨sg, up⟩ c.sigs.length := ⟨_, rfl⟩;obtain ⟨d4, hd4⟩ : ∃ b, b = fitS ⟨f, sg, up, t⟩ (cAtS c f.toNat) (cAtS c t.toNat) := ⟨_, rfl⟩;rw [← hd1, ← hd2, ← hd3, ← hd4] at hR hFit;rw [← hd1] at hW1 hF;rw [← hd2] at hW2 hT;rw [← hd3] at hW3;have hgf := fun h : d1 = true => cAtS_get (hF h).2
  have hgt := fun h : d2 = true => cAtS_get (hT h).2
  clear hd1 hd2 hd3 hd4;rw [hR] at hNk hnext;clear hR hall hbits hY2;refine AC.region ?_;refine AL.p (by exact g_ia_view rfl rfl rfl rfl rfl (by rfl) (by assumption)) rfl ?_;refine AL.p (by exact g_load_refN rfl rfl rfl rfl) rfl ?_;refine AL.q (by exact h_alloc rfl) rfl ?_;refine zs ?_;refine AL.nil (th_n (AC.seq ?_));refine AC.drawn' mixed_ok [[], [0], [], [0,1,2], [0,1,2,3], [0,1,2,3,4], [0,1,2,3,4,5], [0,1,2,3,4,5,6], [0,1,2,3,4,5], [0,1,2,3,4,5,6,7,8], [0,1,2,3,4,5,6,7,8,9], [0,1,2,3,4,5,6,7,8,9,10], [0,1,2,3,4,5,6,7,8,9,10,11], [0,1,2,3,4,5,6,7,8,9,10,11,12], [0,1,2,3,4,5,6,7,8,9,10,11,12,13], [0,1,2,3,4,5,6,7,8,9,10,11,12], [0,1,2,3,4,5,6,7,8,9,10,11,12,15], [0,1,2,3,4,5,6,7,8,9,10,11,12,13,14,15,16], [0,1,2,3,4,5,6,7,8,9,10,11,12], [0,1,2,3,4,5,6,7,8,9,10,11,12,18], [0,1,2,3,4,5,6,7,8,9,10,11,12,18,19], [0,1,2,3,4,5,6,7,8,9,10,11,12,13,14,15,16,17,18,19,20], [0,1,2,3,4,5,6,7,8,9,10,11,12,13,14,15,16,17,18,19,20,21], [0,1,2,3,4,5,6,7,8,9,10,11,12,13,14,15,16,17,18,19,20,21,22], [0,1,2,3,4,5,6,7,8,9,10,11,12,13,14,15,16,17,18,19,20,21,22,23], [0,1,2,3,4,5,6,7,8,9,10,11,12,13,14,15,16,17,18,19,20,21,22,23,24], [0,1,2,3,4,5,6,7,8,9,10,11,12,13,14,15,16,17,18,19,20,21,22,23,24], [0,1,2,3,4,5,6,7,8,9,10,11,12,13,14,15,16,17,18,19,20,21,22,23,24,26], [0,1,2,3,4,5,6,7,8,9,10,11,12,13,14,15,16,17,18,19,20,21,22,23,24], [0,1,2,3,4,5,6,7,8,9,10,11,12,13,14,15,16,17,18,19,20,21,22,23,24,28], [0,1,2,3,4,5,6,7,8,9,10,11,12,13,14,15,16,17,18,19,20,21,22,23,24,26,27,28,29], [0,1,2,3,4,5,6,7,8,9,10,11,12,13,14,15,16,17,18,19,20,21,22,23,24,26,27,28,29,30], [0,1,2,3,4,5,6,7,8,9,10,11,12,13,14,15,16,17,18,19,20,21,22,23,24], [0,1,2,3,4,5,6,7,8,9,10,11,12,13,14,15,16,17,18,19,20,21,22,23,24,32], [0,1,2,3,4,5,6,7,8,9,10,11,12,13,14,15,16,17,18,19,20,21,22,23,24], [0,1,2,3,4,5,6,7,8,9,10,11,12,13,14,15,16,17,18,19,20,21,22,23,24,34], [0,1,2,3,4,5,6,7,8,9,10,11,12,13,14,15,16,17,18,19,20,21,22,23,24,32,33,34,35], [0,1,2,3,4,5,6,7,8,9,10,11,12,13,14,15,16,17,18,19,20,21,22,23,24,32,33,34,35,36], [0,1,2,3,4,5,6,7,8,9,10,11,12,13,14,15,16,17,18,19,20,21,22,23,24,25,26,27,28,29,30,31,32,33,34,35,36,37], [0,1,2,3,4,5,6,7,8,9,10,11,12,13,14,15,16,17,18,19,20,21,22,23,24,25,26,27,28,29,30,31,32,33,34,35,36,37,38], [0,1,2,3,4,5,6,7,8,9,10,11,12,13,14,15,16,17,18,19,20,21,22,23,24,25,26,27,28,29,30,31,32,33,34,35,36,37,38,39]] (by decide) ?_;refine zd 0 [] 41 (by exact g_fa_ptr rfl rfl rfl rfl rfl) ?_;refine zd 1 [0] 41 (by exact g_load_ptr rfl rfl rfl rfl rfl) ?_;refine zd 2 [] 41 (by exact mv1 rfl) ?_;refine zh 3 [0,1,2] 41 (by exact h_pure en_within rfl rfl (by repeat (first | exact rfl | exact DLead.same | refine ⟨_, _, rfl, ?_, ?_⟩)) hW1 rfl) ?_;refine zd 4 [0,1,2,3] 41 (by exact g_not rfl) ?_;refine zd 5 [0,1,2,3,4] 41 (by exact mv1 rfl) ?_;refine DF.caseB 5 rfl (fun h5 => ?_) (fun h5 => ?_)
  ·refine zg 6 [0,1,2,3,4,5] 41 ?_;refine zg 7 [0,1,2,3,4,5,6] 41 ?_;refine zg 8 [0,1,2,3,4,5] 41 ?_;refine zg 9 (List.range 9) 41 ?_;refine zg 10 (List.range 10) 41 ?_;refine zd 11 (List.range 11) 41 (by exact g_pickT (r := .d _) rfl rfl) ?_;refine zd 12 (List.range 12) 41 (by exact mv1 rfl) ?_;refine zg 13 (List.range 13) 41 ?_;refine zg 14 (List.range 14) 41 ?_;refine zg 15 (List.range 13) 41 ?_;refine zg 16 [0,1,2,3,4,5,6,7,8,9,10,11,12,15] 41 ?_;refine zg 17 (List.range 17) 41 ?_;refine zg 18 (List.range 13) 41 ?_;refine zg 19 [0,1,2,3,4,5,6,7,8,9,10,11,12,18] 41 ?_;refine zg 20 [0,1,2,3,4,5,6,7,8,9,10,11,12,18,19] 41 ?_;refine zg 21 (List.range 21) 41 ?_;refine zg 22 (List.range 22) 41 ?_;refine zd 23 (List.range 23) 41 (by exact g_pickT (r := .d _) rfl rfl) ?_;refine zd 24 (List.range 24) 41 (by exact mv1 rfl) ?_;refine zg 25 (List.range 25) 41 ?_;refine zg 26 (List.range 25) 41 ?_;refine zg 27 [0,1,2,3,4,5,6,7,8,9,10,11,12,13,14,15,16,17,18,19,20,21,22,23,24,26] 41 ?_;refine zg 28 (List.range 25) 41 ?_;refine zg 29 [0,1,2,3,4,5,6,7,8,9,10,11,12,13,14,15,16,17,18,19,20,21,22,23,24,28] 41 ?_;refine zg 30 [0,1,2,3,4,5,6,7,8,9,10,11,12,13,14,15,16,17,18,19,20,21,22,23,24,26,27,28,29] 41 ?_;refine zg 31 [0,1,2,3,4,5,6,7,8,9,10,11,12,13,14,15,16,17,18,19,20,21,22,23,24,26,27,28,29,30] 41 ?_;refine zg 32 (List.range 25) 41 ?_;refine zg 33 [0,1,2,3,4,5,6,7,8,9,10,11,12,13,14,15,16,17,18,19,20,21,22,23,24,32] 41 ?_;refine zg 34 (List.range 25) 41 ?_;refine zg 35 [0,1,2,3,4,5,6,7,8,9,10,11,12,13,14,15,16,17,18,19,20,21,22,23,24,34] 41 ?_;refine zg 36 [0,1,2,3,4,5,6,7,8,9,10,11,12,13,14,15,16,17,18,19,20,21,22,23,24,32,33,34,35] 41 ?_;refine zg 37 [0,1,2,3,4,5,6,7,8,9,10,11,12,13,14,15,16,17,18,19,20,21,22,23,24,32,33,34,35,36] 41 ?_;refine zg 38 (List.range 38) 41 ?_;refine zg 39 (List.range 39) 41 ?_;refine zd 40 (List.range 40) 41 (by exact g_pickT (r := .d _) rfl rfl) ?_;refine zj 41 ?_;refine th_n ?_;refine AC.condT rfl ?_;refine AC.seq (AC.region ?_);refine za ?_;refine AL.nil (th_n (AC.ret (ib_r (th_r (th_r (ib_r (th_r (bq_r ?_))))))));have e : R = false := hNk (by exact and4_1 ‹(!d1) = true›);exact ret1 rfl (by rw [e])
  refine ze 6 [0,1,2,3,4,5] 41 (by exact g_fa_ptr rfl rfl rfl rfl rfl) ?_;refine ze 7 [0,1,2,3,4,5,6] 41 (by exact g_load_ptr rfl rfl rfl rfl rfl) ?_;refine ze 8 [0,1,2,3,4,5] 41 (by exact mv1 rfl) ?_;refine zi 9 (List.range 9) 41 (by exact h_pure en_within rfl rfl (by repeat (first | exact rfl | exact DLead.same | refine ⟨_, _, rfl, ?_, ?_⟩)) hW2 rfl) ?_;refine ze 10 (List.range 10) 41 (by exact g_not rfl) ?_;refine zd 11 (List.range 11) 41 (by exact g_pickF (r := .d _) rfl rfl) ?_;refine zd 12 (List.range 12) 41 (by exact mv1 rfl) ?_;refine DF.caseB 12 rfl (fun h6 => ?_) (fun h6 => ?_)
  ·refine zg 13 (List.range 13) 41 ?_;refine zg 14 (List.range 14) 41 ?_;refine zg 15 (List.range 13) 41 ?_;refine zg 16 [0,1,2,3,4,5,6,7,8,9,10,11,12,15] 41 ?_;refine zg 17 (List.range 17) 41 ?_;refine zg 18 (List.range 13) 41 ?_;refine zg 19 [0,1,2,3,4,5,6,7,8,9,10,11,12,18] 41 ?_;refine zg 20 [0,1,2,3,4,5,6,7,8,9,10,11,12,18,19] 41 ?_;refine zg 21 (List.range 21) 41 ?_;refine zg 22 (List.range 22) 41 ?_;refine zd 23 (List.range 23) 41 (by exact g_pickT (r := .d _) rfl rfl) ?_;refine zd 24 (List.range 24) 41 (by exact mv1 rfl) ?_;refine zg 25 (List.range 25) 41 ?_;refine zg 26 (List.range 25) 41 ?_;refine zg 27 [0,1,2,3,4,5,6,7,8,9,10,11,12,13,14,15,16,17,18,19,20,21,22,23,24,26] 41 ?_;refine zg 28 (List.range 25) 41 ?_;refine zg 29 [0,1,2,3,4,5,6,7,8,9,10,11,12,13,14,15,16,17,18,19,20,21,22,23,24,28] 41 ?_;refine zg 30 [0,1,2,3,4,5,6,7,8,9,10,11,12,13,14,15,16,17,18,19,20,21,22,23,24,26,27,28,29] 41 ?_;refine zg 31 [0,1,2,3,4,5,6,7,8,9,10,11,12,13,14,15,16,17,18,19,20,21,22,23,24,26,27,28,29,30] 41 ?_;refine zg 32 (List.range 25) 41 ?_;refine zg 33 [0,1,2,3,4,5,6,7,8,9,10,11,12,13,14,15,16,17,18,19,20,21,22,23,24,32] 41 ?_;refine zg 34 (List.range 25) 41 ?_;refine zg 35 [0,1,2,3,4,5,6,7,8,9,10,11,12,13,14,15,16,17,18,19,20,21,22,23,24,34] 41 ?_;refine zg 36 [0,1,2,3,4,5,6,7,8,9,10,11,12,13,14,15,16,17,18,19,20,21,22,23,24,32,33,34,35] 41 ?_;refine zg 37 [0,1,2,3,4,5,6,7,8,9,10,11,12,13,14,15,16,17,18,19,20,21,22,23,24,32,33,34,35,36] 41 ?_;refine zg 38 (List.range 38) 41 ?_;refine zg 39 (List.range 39) 41 ?_;refine zd 40 (List.range 40) 41 (by exact g_pickT (r := .d _) rfl rfl) ?_;refine zj 41 ?_;refine th_n ?_;refine AC.condT rfl ?_;refine AC.seq (AC.region ?_);refine za ?_;refine AL.nil (th_n (AC.ret (ib_r (th_r (th_r (ib_r (th_r (bq_r ?_))))))));have e : R = false := hNk (by exact and4_2 ‹(!d2) = true›);exact ret1 rfl (by rw [e])
  refine ze 13 (List.range 13) 41 (by exact g_fa_ptr rfl rfl rfl rfl rfl) ?_;refine ze 14 (List.range 14) 41 (by exact g_load_ptr rfl rfl rfl rfl rfl) ?_;refine ze 15 (List.range 13) 41 (by exact g_fa_ptr rfl rfl rfl rfl rfl) ?_;refine ze 16 [0,1,2,3,4,5,6,7,8,9,10,11,12,15] 41 (by exact g_load_ptr rfl rfl rfl rfl rfl) ?_;refine ze 17 (List.range 17) 41 (by exact g_build rfl rfl rfl) ?_;refine ze 18 (List.range 13) 41 (by exact g_fa_ref rfl rfl rfl rfl rfl rfl) ?_;refine ze 19 [0,1,2,3,4,5,6,7,8,9,10,11,12,18] 41 (by exact g_load_ref rfl rfl rfl) ?_;refine ze 20 [0,1,2,3,4,5,6,7,8,9,10,11,12,18,19] 41 (by exact g_len_view (k := c.sigs.length) rfl rfl (sigsL_len _)) ?_;refine zi 21 (List.range 21) 41 (by exact h_pure en_isEdge rfl rfl (by repeat (first | exact rfl | exact DLead.same | refine ⟨_, _, rfl, ?_, ?_⟩ | refine ⟨_, rfl, ?_⟩)) hW3 rfl) ?_;refine ze 22 (List.range 22) 41 (by exact g_not rfl) ?_;refine zd 23 (List.range 23) 41 (by exact g_pickF (r := .d _) rfl rfl) ?_;refine zd 24 (List.range 24) 41 (by exact mv1 rfl) ?_;refine DF.caseB 24 rfl (fun h7 => ?_) (fun h7 => ?_)
  ·refine zg 25 (List.range 25) 41 ?_;refine zg 26 (List.range 25) 41 ?_;refine zg 27 [0,1,2,3,4,5,6,7,8,9,10,11,12,13,14,15,16,17,18,19,20,21,22,23,24,26] 41 ?_;refine zg 28 (List.range 25) 41 ?_;refine zg 29 [0,1,2,3,4,5,6,7,8,9,10,11,12,13,14,15,16,17,18,19,20,21,22,23,24,28] 41 ?_;refine zg 30 [0,1,2,3,4,5,6,7,8,9,10,11,12,13,14,15,16,17,18,19,20,21,22,23,24,26,27,28,29] 41 ?_;refine zg 31 [0,1,2,3,4,5,6,7,8,9,10,11,12,13,14,15,16,17,18,19,20,21,22,23,24,26,27,28,29,30] 41 ?_;refine zg 32 (List.range 25) 41 ?_;refine zg 33 [0,1,2,3,4,5,6,7,8,9,10,11,12,13,14,15,16,17,18,19,20,21,22,23,24,32] 41 ?_;refine zg 34 (List.range 25) 41 ?_;refine zg 35 [0,1,2,3,4,5,6,7,8,9,10,11,12,13,14,15,16,17,18,19,20,21,22,23,24,34] 41 ?_;refine zg 36 [0,1,2,3,4,5,6,7,8,9,10,11,12,13,14,15,16,17,18,19,20,21,22,23,24,32,33,34,35] 41 ?_;refine zg 37 [0,1,2,3,4,5,6,7,8,9,10,11,12,13,14,15,16,17,18,19,20,21,22,23,24,32,33,34,35,36] 41 ?_;refine zg 38 (List.range 38) 41 ?_;refine zg 39 (List.range 39) 41 ?_;refine zd 40 (List.range 40) 41 (by exact g_pickT (r := .d _) rfl rfl) ?_;refine zj 41 ?_;refine th_n ?_;refine AC.condT rfl ?_;refine AC.seq (AC.region ?_);refine za ?_;refine AL.nil (th_n (AC.ret (ib_r (th_r (th_r (ib_r (th_r (bq_r ?_))))))));have e : R = false := hNk (by exact and4_3 ‹(!d3) = true›);exact ret1 rfl (by rw [e])
  refine ze 25 (List.range 25) 41 (by exact g_load_ptrN rfl rfl rfl rfl rfl) ?_;refine ze 26 (List.range 25) 41 (by exact g_fa_ref rfl rfl rfl rfl rfl rfl) ?_;refine ze 27 [0,1,2,3,4,5,6,7,8,9,10,11,12,13,14,15,16,17,18,19,20,21,22,23,24,26] 41 (by exact g_load_ref rfl rfl rfl) ?_;refine ze 28 (List.range 25) 41 (by exact g_fa_ptr rfl rfl rfl rfl rfl) ?_;refine ze 29 [0,1,2,3,4,5,6,7,8,9,10,11,12,13,14,15,16,17,18,19,20,21,22,23,24,28] 41 (by exact g_load_ptr rfl rfl rfl rfl rfl) ?_;refine ze 30 [0,1,2,3,4,5,6,7,8,9,10,11,12,13,14,15,16,17,18,19,20,21,22,23,24,26,27,28,29] 41 (by exact g_ia_view (i := f.toNat) rfl rfl rfl rfl rfl (hF (by simpa using ‹(!d1) = false›)).1 (hgf (by simpa using ‹(!d1) = false›))) ?_;refine ze 31 [0,1,2,3,4,5,6,7,8,9,10,11,12,13,14,15,16,17,18,19,20,21,22,23,24,26,27,28,29,30] 41 (by exact g_load_ref rfl rfl rfl) ?_;refine ze 32 (List.range 25) 41 (by exact g_fa_ref rfl rfl rfl rfl rfl rfl) ?_;refine ze 33 [0,1,2,3,4,5,6,7,8,9,10,11,12,13,14,15,16,17,18,19,20,21,22,23,24,32] 41 (by exact g_load_ref rfl rfl rfl) ?_;refine ze 34 (List.range 25) 41 (by exact g_fa_ptr rfl rfl rfl rfl rfl) ?_;refine ze 35 [0,1,2,3,4,5,6,7,8,9,10,11,12,13,14,15,16,17,18,19,20,21,22,23,24,34] 41 (by exact g_load_ptr rfl rfl rfl rfl rfl) ?_;refine ze 36 [0,1,2,3,4,5,6,7,8,9,10,11,12,13,14,15,16,17,18,19,20,21,22,23,24,32,33,34,35] 41 (by exact g_ia_view (i := t.toNat) rfl rfl rfl rfl rfl (hT (by simpa using ‹(!d2) = false›)).1 (hgt (by simpa using ‹(!d2) = false›))) ?_;refine ze 37 [0,1,2,3,4,5,6,7,8,9,10,11,12,13,14,15,16,17,18,19,20,21,22,23,24,32,33,34,35,36] 41 (by exact g_load_ref rfl rfl rfl) ?_;refine zi 38 (List.range 38) 41 (by exact h_pure en_fitsCodes rfl rfl (by repeat (first | exact rfl | exact DLead.same | refine ⟨_, _, rfl, ?_, ?_⟩ | refine ⟨_, rfl, ?_⟩)) (hFit (by simpa using ‹(!d1) = false›) (by simpa using ‹(!d2) = false›) (by simpa using ‹(!d3) = false›)) rfl) ?_;refine ze 39 (List.range 39) 41 (by exact g_not rfl) ?_;refine zd 40 (List.range 40) 41 (by exact g_pickF (r := .d _) rfl rfl) ?_;refine zj 41 ?_;refine th_n ?_;refine AC.condB rfl (fun h8 => ?_) (fun h8 => ?_)
  ·refine AC.seq (AC.region ?_);refine za ?_;refine AL.nil (th_n (AC.ret (ib_r (th_r (th_r (ib_r (th_r (bq_r ?_))))))));have e : R = false := hNk (by exact and4_4 ‹(!d4) = true›);exact ret1 rfl (by rw [e])
  refine AC.skip (ib_n (th_n (AC.region ?_)));refine zA ?_;refine zm ?_;refine AL.nil (th_n ?_);have q1 : d1 = true := by simpa using ‹(!d1) = false›
  have q2 : d2 = true := by simpa using ‹(!d2) = false›
  have q3 : d3 = true := by simpa using ‹(!d3) = false›
  have q4 : d4 = true := by simpa using ‹(!d4) = false›
  exact ⟨k + 1, ⟨by omega, hnext (by rw [q1, q2, q3, q4]; rfl)⟩, by omega, Weak.ren _ [] hC rfl (by repeat (first | exact True.intro | refine And.intro ?_ ?_ | exact DLead.same)) (by repeat (exact True.intro)) rfl rfl rfl⟩
 refine AC.exit (th_e (th_e (ib_y (th_n (AC.seq ?_)))));have harcs : ∀ j (hj : j < c.arcs.length), arcG c c.arcs[j] = true := fun j hj => hall j hj (by omega)
 have hY4 := hY3 harcs;have hin : ∀ a, a ∈ c.arcs → ArIn c.codes.length a := fun a ha => by obtain ⟨j, hj, rfl⟩ := List.getElem_of_mem ha; exact arcG_in (harcs j hj)
 have hAS := arcSteps_spec c.arcs hal (fun v hv => by have := hin v hv; unfold ArIn at this; omega);have hDs := distances_spec (arcE c.arcs) c.codes.length 0 hn1 hn (by rw [arcE_len]; exact hal) (arcE_in hin);have hDD := dist_ex hn1 (arcE_in hin);have hCt := Contains_spec (distF (arcE c.arcs) c.codes.length 0) (by rw [hDD.len]; omega) (-1);rw [any_allU hDD.len hDD.lo, ← hY4] at hCt;refine AC.drawn' mixed_ok [[], [0], [0,1], [], [3], [3,4], [0,1,2,3,4,5], [0,1,2,3,4,5,6], [0,1,2,3,4,5,6,7], [0,1,2,3,4,5,6,7,8]] (by decide) ?_;refine zd 0 [] 10 (by exact g_fa_ref rfl rfl rfl rfl rfl rfl) ?_;refine zd 1 [0] 10 (by exact g_load_ref rfl rfl rfl) ?_;refine zd 2 [0,1] 10 (by exact g_len_view (k := c.codes.length) rfl rfl (tsX_len _)) ?_;refine zd 3 [] 10 (by exact g_fa_ref rfl rfl rfl rfl rfl rfl) ?_;refine zd 4 [3] 10 (by exact g_load_ref rfl rfl rfl) ?_;refine zh 5 [3,4] 10 (by exact h_pure en_arcSteps rfl rfl (by repeat (first | exact rfl | exact DLead.same | refine ⟨_, _, rfl, ?_, ?_⟩)) hAS rfl) ?_;refine zh 6 [0,1,2,3,4,5] 10 (by exact h_pure en_distances rfl rfl (by repeat (first | exact rfl | exact DLead.same | refine ⟨_, _, rfl, ?_, ?_⟩)) hDs rfl) ?_;refine zh 7 [0,1,2,3,4,5,6] 10 (by exact h_pure en_Contains rfl rfl (by repeat (first | exact rfl | exact DLead.same | refine ⟨_, _, rfl, ?_, ?_⟩)) hCt rfl) ?_;refine zd 8 [0,1,2,3,4,5,6,7] 10 (by exact g_not rfl) ?_;refine zd 9 (List.range 9) 10 (by exact as1 rfl) ?_;refine zj 10 ?_;refine th_n (AC.ret (bq_r ?_));exact ret1 rfl (by rw [Bool.not_not])
theorem en_iValidSg : Enters Tryz.prog 49 := enters_of Tryz.func49 rfl rfl
theorem codeS_pos {s : Stg} (h : (codeS s).2 = true) : 0 < (codeS s).1.codes.length := by
 unfold codeS at h ⊢
 split
 ·rename_i q;show 0 < (mixC _ _ _ _).length;rw [mixC_len];exact (codI q.1).n1
 rename_i q; rw [if_neg q] at h; cases h
def okS (s : Stg) : Bool := decide (1 ≤ s.net.ts.length) && decide (0 ≤ s.net.places) && decide (s.net.places ≤ 40) && decide (s.net.ts.length ≤ 13) && s.net.ts.all (fun t => decide (t.pre.length ≤ 4) && decide (t.post.length ≤ 4)) && decide (1 ≤ s.sigs.length) && decide (s.sigs.length ≤ 8) && s.sigs.all (fun x => decide (x.name.length ≤ 10)) && decide (1 ≤ s.labs.length) && decide (s.labs.length ≤ 20) && s.labs.all (fun x => decide (-10 ≤ x.sig) && decide (x.sig ≤ 10)) && decide (s.start.length ≤ 40)
structure StgS (s : Stg) : Prop where
 p : 0 ≤ s.net.places ∧ s.net.places ≤ 40
 tl : s.net.ts.length ≤ 13
 t : ∀ t, t ∈ s.net.ts → t.pre.length ≤ 4 ∧ t.post.length ≤ 4
 s0 : 1 ≤ s.sigs.length
 sl : s.sigs.length ≤ 8
 sn : ∀ x, x ∈ s.sigs → x.name.length ≤ 10
 ll : s.labs.length ≤ 20
 lb : ∀ x, x ∈ s.labs → -10 ≤ x.sig ∧ x.sig ≤ 10
 st : s.start.length ≤ 60
theorem okS_S {s : Stg} (h : okS s = true) : StgS s ∧ 1 ≤ s.labs.length ∧ s.start.length ≤ 40 := by
 simp only [okS, Bool.and_eq_true, decide_eq_true_eq, List.all_eq_true] at h;obtain ⟨⟨⟨⟨⟨⟨⟨⟨⟨⟨⟨h0, h1⟩, h2⟩, h3⟩, h4⟩, h5⟩, h6⟩, h7⟩, h8⟩, h9⟩, h10⟩, h11⟩ := h;exact ⟨⟨⟨h1, h2⟩, h3, h4, h5, h6, h7, h9, h10, by omega⟩, h8, h11⟩
theorem StgS.B {s : Stg} (h : StgS s) : StgB s := ⟨⟨by have := h.p; omega, by have := h.tl; omega, fun t ht => by have := h.t t ht; omega⟩, by have := h.sl; omega, fun t ht => by have := h.sn t ht; omega, by have := h.ll; omega, fun x hx => by have := h.lb x hx; omega, by have := h.st; omega⟩
def plS0 : Stg := buildS [97, 98] [99] [] [97, 43, 62, 99, 43, 32, 98, 43, 62, 99, 43, 32, 99, 43, 62, 97, 45, 32, 99, 43, 62, 98, 45, 32, 97, 45, 62, 99, 45, 32, 98, 45, 62, 99, 45, 32, 42, 99, 45, 62, 97, 43, 32, 42, 99, 45, 62, 98, 43]
theorem plS0_ok : okS plS0 = true := by decide +kernel
def plS1 : Stg := buildS [97] [98] [] [97, 43, 62, 98, 43, 32, 98, 43, 62, 97, 45, 32, 97, 45, 62, 98, 45, 32, 42, 98, 45, 62, 97, 43]
theorem plS1_ok : okS plS1 = true := by decide +kernel
def plS2 : Stg := buildS [114] [120, 121] [] [114, 43, 62, 120, 43, 32, 114, 43, 62, 121, 43, 32, 120, 43, 62, 114, 45, 32, 121, 43, 62, 114, 45, 32, 114, 45, 62, 120, 45, 32, 114, 45, 62, 121, 45, 32, 42, 120, 45, 62, 114, 43, 32, 42, 121, 45, 62, 114, 43]
theorem plS2_ok : okS plS2 = true := by decide +kernel
def plS3 : Stg := buildS [97, 100] [98, 99] [] [97, 43, 62, 98, 43, 32, 98, 43, 62, 100, 43, 32, 100, 43, 62, 99, 43, 32, 99, 43, 62, 97, 45, 32, 97, 45, 62, 98, 45, 32, 98, 45, 62, 100, 45, 32, 100, 45, 62, 99, 45, 32, 42, 99, 45, 62, 97, 43]
theorem plS3_ok : okS plS3 = true := by decide +kernel
def plS4 : Stg := buildS [97] [98] [120] [97, 43, 62, 120, 43, 32, 120, 43, 62, 98, 43, 32, 98, 43, 62, 97, 45, 32, 97, 45, 62, 120, 45, 32, 120, 45, 62, 98, 45, 32, 42, 98, 45, 62, 97, 43]
theorem plS4_ok : okS plS4 = true := by decide +kernel
def plS5 : Stg := buildS [97, 98] [99] [] [42, 95, 112, 62, 97, 43, 32, 95, 112, 62, 98, 43, 32, 97, 43, 62, 99, 43, 47, 49, 32, 99, 43, 47, 49, 62, 97, 45, 32, 97, 45, 62, 99, 45, 47, 49, 32, 99, 45, 47, 49, 62, 95, 112, 32, 98, 43, 62, 99, 43, 47, 50, 32, 99, 43, 47, 50, 62, 98, 45, 32, 98, 45, 62, 99, 45, 47, 50, 32, 99, 45, 47, 50, 62, 95, 112]
theorem plS5_ok : okS plS5 = true := by decide +kernel
def plS6 : Stg := buildS [97] [98] [] [97, 43, 62, 126, 32, 126, 62, 98, 43, 32, 98, 43, 62, 97, 45, 32, 97, 45, 62, 98, 45, 32, 42, 98, 45, 62, 97, 43]
theorem plS6_ok : okS plS6 = true := by decide +kernel
def grS0 : Stg := buildS [114] [120, 121] [] [42, 121, 45, 62, 114, 43, 32, 114, 43, 62, 120, 43, 32, 120, 43, 62, 120, 45, 32, 120, 45, 62, 121, 43, 32, 121, 43, 62, 114, 45, 32, 114, 45, 62, 121, 45]
theorem grS0_ok : okS grS0 = true := by decide +kernel
def grS1 : Stg := buildS [97] [98, 99] [] [42, 97, 45, 62, 97, 43, 32, 97, 43, 62, 95, 112, 32, 95, 112, 62, 98, 43, 32, 95, 112, 62, 99, 43, 32, 98, 43, 62, 98, 45, 32, 99, 43, 62, 99, 45, 32, 98, 45, 62, 95, 113, 32, 99, 45, 62, 95, 113, 32, 95, 113, 62, 97, 45]
theorem grS1_ok : okS grS1 = true := by decide +kernel
def grS2 : Stg := buildS [97] [98] [] [97, 43, 47, 49, 62, 98, 43, 32, 98, 43, 62, 97, 43, 47, 50, 32, 97, 43, 47, 50, 62, 98, 45, 32, 42, 98, 45, 62, 97, 43, 47, 49]
theorem grS2_ok : okS grS2 = true := by decide +kernel
def grS4 : Stg := buildS [97] [98] [] [42, 95, 112, 62, 97, 43, 32, 97, 43, 62, 98, 43, 32, 98, 43, 62, 95, 113]
theorem grS4_ok : okS grS4 = true := by decide +kernel
def twS0 : Stg := buildS [112] [113] [] [112, 43, 62, 113, 43, 32, 113, 43, 62, 112, 45, 32, 112, 45, 62, 113, 45, 32, 42, 113, 45, 62, 112, 43]
theorem twS0_ok : okS twS0 = true := by decide +kernel
def twS1 : Stg := buildS [97] [98] [] [97, 43, 62, 98, 43, 32, 98, 43, 62, 97, 45, 32, 97, 45, 62, 98, 45, 32, 42, 98, 45, 62, 97, 43]
theorem twS1_ok : okS twS1 = true := by decide +kernel
def grS3 : Stg := unionT twS0 twS1
theorem grS3_ok : okS grS3 = true := by decide +kernel
theorem twS_ok : (unionS twS0 twS1).2 = true := by decide +kernel
theorem twS_net : okS ⟨(unionR twS0.net twS1.net).1, twS0.sigs, twS0.labs, []⟩ = true := by decide +kernel
def plS (i : Int) : Stg := if i = 0 then plS0 else if i = 1 then plS1 else if i = 2 then plS2 else if i = 3 then plS3 else if i = 4 then plS4 else if i = 5 then plS5 else plS6
theorem plS_ok (i : Int) : okS (plS i) = true := by
 unfold plS
 split
 ·exact plS0_ok
 split
 ·exact plS1_ok
 split
 ·exact plS2_ok
 split
 ·exact plS3_ok
 split
 ·exact plS4_ok
 split
 ·exact plS5_ok
 exact plS6_ok
def stgI (c : Cur) : Stg × Cur := if (c.pick 9).1 = 0 then (grS0, (c.pick 9).2) else if (c.pick 9).1 = 1 then (grS1, (c.pick 9).2) else if (c.pick 9).1 = 2 then (grS2, (c.pick 9).2) else if (c.pick 9).1 = 3 then (grS3, (c.pick 9).2) else if (c.pick 9).1 = 4 then (grS4, (c.pick 9).2) else (plS ((c.pick 9).2.pick 7).1, ((c.pick 9).2.pick 7).2)
theorem stgI_in (c : Cur) : okS (stgI c).1 = true ∧ (stgI c).2.pos ≤ c.pos + 4 ∧ (stgI c).2.code = c.code := by
 have h1 := c.pick_pos 9;have h2 := (c.pick 9).2.pick_pos 7;have k1 := c.pick_code 9;have k2 := (c.pick 9).2.pick_code 7;unfold stgI
 split
 ·exact ⟨grS0_ok, by dsimp only; omega, k1⟩
 split
 ·exact ⟨grS1_ok, by dsimp only; omega, k1⟩
 split
 ·exact ⟨grS2_ok, by dsimp only; omega, k1⟩
 split
 ·exact ⟨grS3_ok, by dsimp only; omega, k1⟩
 split
 ·exact ⟨grS4_ok, by dsimp only; omega, k1⟩
 exact ⟨plS_ok _, by dsimp only; omega, k2.trans k1⟩
theorem plS0_spec : ASpec Tryz.prog 145 [aS (bstr [97, 98]), aS (bstr [99]), aS (bstr []), aS (bstr [97, 43, 62, 99, 43, 32, 98, 43, 62, 99, 43, 32, 99, 43, 62, 97, 45, 32, 99, 43, 62, 98, 45, 32, 97, 45, 62, 99, 45, 32, 98, 45, 62, 99, 45, 32, 42, 99, 45, 62, 97, 43, 32, 42, 99, 45, 62, 98, 43])] [] (Fun1 (stgO plS0 0 1 2) (stgChs plS0 0 1 2)) := l2Build_spec _ _ _ _ (by decide) (by decide) (by decide) (by decide) (by decide +kernel)
theorem plS1_spec : ASpec Tryz.prog 145 [aS (bstr [97]), aS (bstr [98]), aS (bstr []), aS (bstr [97, 43, 62, 98, 43, 32, 98, 43, 62, 97, 45, 32, 97, 45, 62, 98, 45, 32, 42, 98, 45, 62, 97, 43])] [] (Fun1 (stgO plS1 0 1 2) (stgChs plS1 0 1 2)) := l2Build_spec _ _ _ _ (by decide) (by decide) (by decide) (by decide) (by decide +kernel)
theorem plS2_spec : ASpec Tryz.prog 145 [aS (bstr [114]), aS (bstr [120, 121]), aS (bstr []), aS (bstr [114, 43, 62, 120, 43, 32, 114, 43, 62, 121, 43, 32, 120, 43, 62, 114, 45, 32, 121, 43, 62, 114, 45, 32, 114, 45, 62, 120, 45, 32, 114, 45, 62, 121, 45, 32, 42, 120, 45, 62, 114, 43, 32, 42, 121, 45, 62, 114, 43])] [] (Fun1 (stgO plS2 0 1 2) (stgChs plS2 0 1 2)) := l2Build_spec _ _ _ _ (by decide) (by decide) (by decide) (by decide) (by decide +kernel)
theorem plS3_spec : ASpec Tryz.prog 145 [aS (bstr [97, 100]), aS (bstr [98, 99]), aS (bstr []), aS (bstr [97, 43, 62, 98, 43, 32, 98, 43, 62, 100, 43, 32, 100, 43, 62, 99, 43, 32, 99, 43, 62, 97, 45, 32, 97, 45, 62, 98, 45, 32, 98, 45, 62, 100, 45, 32, 100, 45, 62, 99, 45, 32, 42, 99, 45, 62, 97, 43])] [] (Fun1 (stgO plS3 0 1 2) (stgChs plS3 0 1 2)) := l2Build_spec _ _ _ _ (by decide) (by decide) (by decide) (by decide) (by decide +kernel)
theorem plS4_spec : ASpec Tryz.prog 145 [aS (bstr [97]), aS (bstr [98]), aS (bstr [120]), aS (bstr [97, 43, 62, 120, 43, 32, 120, 43, 62, 98, 43, 32, 98, 43, 62, 97, 45, 32, 97, 45, 62, 120, 45, 32, 120, 45, 62, 98, 45, 32, 42, 98, 45, 62, 97, 43])] [] (Fun1 (stgO plS4 0 1 2) (stgChs plS4 0 1 2)) := l2Build_spec _ _ _ _ (by decide) (by decide) (by decide) (by decide) (by decide +kernel)
theorem plS5_spec : ASpec Tryz.prog 145 [aS (bstr [97, 98]), aS (bstr [99]), aS (bstr []), aS (bstr [42, 95, 112, 62, 97, 43, 32, 95, 112, 62, 98, 43, 32, 97, 43, 62, 99, 43, 47, 49, 32, 99, 43, 47, 49, 62, 97, 45, 32, 97, 45, 62, 99, 45, 47, 49, 32, 99, 45, 47, 49, 62, 95, 112, 32, 98, 43, 62, 99, 43, 47, 50, 32, 99, 43, 47, 50, 62, 98, 45, 32, 98, 45, 62, 99, 45, 47, 50, 32, 99, 45, 47, 50, 62, 95, 112])] [] (Fun1 (stgO plS5 0 1 2) (stgChs plS5 0 1 2)) := l2Build_spec _ _ _ _ (by decide) (by decide) (by decide) (by decide) (by decide +kernel)
theorem plS6_spec : ASpec Tryz.prog 145 [aS (bstr [97]), aS (bstr [98]), aS (bstr []), aS (bstr [97, 43, 62, 126, 32, 126, 62, 98, 43, 32, 98, 43, 62, 97, 45, 32, 97, 45, 62, 98, 45, 32, 42, 98, 45, 62, 97, 43])] [] (Fun1 (stgO plS6 0 1 2) (stgChs plS6 0 1 2)) := l2Build_spec _ _ _ _ (by decide) (by decide) (by decide) (by decide) (by decide +kernel)
theorem grS0_spec : ASpec Tryz.prog 145 [aS (bstr [114]), aS (bstr [120, 121]), aS (bstr []), aS (bstr [42, 121, 45, 62, 114, 43, 32, 114, 43, 62, 120, 43, 32, 120, 43, 62, 120, 45, 32, 120, 45, 62, 121, 43, 32, 121, 43, 62, 114, 45, 32, 114, 45, 62, 121, 45])] [] (Fun1 (stgO grS0 0 1 2) (stgChs grS0 0 1 2)) := l2Build_spec _ _ _ _ (by decide) (by decide) (by decide) (by decide) (by decide +kernel)
theorem grS1_spec : ASpec Tryz.prog 145 [aS (bstr [97]), aS (bstr [98, 99]), aS (bstr []), aS (bstr [42, 97, 45, 62, 97, 43, 32, 97, 43, 62, 95, 112, 32, 95, 112, 62, 98, 43, 32, 95, 112, 62, 99, 43, 32, 98, 43, 62, 98, 45, 32, 99, 43, 62, 99, 45, 32, 98, 45, 62, 95, 113, 32, 99, 45, 62, 95, 113, 32, 95, 113, 62, 97, 45])] [] (Fun1 (stgO grS1 0 1 2) (stgChs grS1 0 1 2)) := l2Build_spec _ _ _ _ (by decide) (by decide) (by decide) (by decide) (by decide +kernel)
theorem grS2_spec : ASpec Tryz.prog 145 [aS (bstr [97]), aS (bstr [98]), aS (bstr []), aS (bstr [97, 43, 47, 49, 62, 98, 43, 32, 98, 43, 62, 97, 43, 47, 50, 32, 97, 43, 47, 50, 62, 98, 45, 32, 42, 98, 45, 62, 97, 43, 47, 49])] [] (Fun1 (stgO grS2 0 1 2) (stgChs grS2 0 1 2)) := l2Build_spec _ _ _ _ (by decide) (by decide) (by decide) (by decide) (by decide +kernel)
theorem grS4_spec : ASpec Tryz.prog 145 [aS (bstr [97]), aS (bstr [98]), aS (bstr []), aS (bstr [42, 95, 112, 62, 97, 43, 32, 97, 43, 62, 98, 43, 32, 98, 43, 62, 95, 113])] [] (Fun1 (stgO grS4 0 1 2) (stgChs grS4 0 1 2)) := l2Build_spec _ _ _ _ (by decide) (by decide) (by decide) (by decide) (by decide +kernel)
theorem twS0_spec : ASpec Tryz.prog 145 [aS (bstr [112]), aS (bstr [113]), aS (bstr []), aS (bstr [112, 43, 62, 113, 43, 32, 113, 43, 62, 112, 45, 32, 112, 45, 62, 113, 45, 32, 42, 113, 45, 62, 112, 43])] [] (Fun1 (stgO twS0 0 1 2) (stgChs twS0 0 1 2)) := l2Build_spec _ _ _ _ (by decide) (by decide) (by decide) (by decide) (by decide +kernel)
theorem twS1_spec : ASpec Tryz.prog 145 [aS (bstr [97]), aS (bstr [98]), aS (bstr []), aS (bstr [97, 43, 62, 98, 43, 32, 98, 43, 62, 97, 45, 32, 97, 45, 62, 98, 45, 32, 42, 98, 45, 62, 97, 43])] [] (Fun1 (stgO twS1 0 1 2) (stgChs twS1 0 1 2)) := l2Build_spec _ _ _ _ (by decide) (by decide) (by decide) (by decide) (by decide +kernel)
set_option maxHeartbeats 4000000 in
theorem l2Plain_spec (c : Cur) (hp : c.pos ≤ 100000000) : ASpec Tryz.prog 241 [.ptr 0 0] [(0, curC c)] (Fun1 (stgO (plS (c.pick 7).1) 1 2 3) ((0, curC (c.pick 7).2) :: stgChs (plS (c.pick 7).1) 1 2 3)) := by
 have hK := pick_spec c 7 (by decide) (by omega);obtain ⟨p, hpp⟩ : ∃ p, p = c.pick 7 := ⟨_, rfl⟩;rw [← hpp] at hK ⊢;have hS : plS p.1 = if p.1 = 0 then plS0 else if p.1 = 1 then plS1 else if p.1 = 2 then plS2 else if p.1 = 3 then plS3 else if p.1 = 4 then plS4 else if p.1 = 5 then plS5 else plS6 := rfl
 obtain ⟨s, hs⟩ : ∃ s, s = plS p.1 := ⟨_, rfl⟩;rw [← hs] at hS ⊢;refine ASpec.of Tryz.func241 rfl rfl fun C hC => ?_
 refine AC.seq (AC.region ?_);refine AL.q (by exact h_alloc rfl) rfl ?_;refine AL.nil (th_n (AC.seq (AC.seq (AC.region ?_))));refine AL.p (by exact mv3 rfl) rfl ?_;refine AL.q (by exact h_fun (cs := [0]) en_pick rfl rfl (by repeat (first | exact rfl | exact DLead.same | refine ⟨_, _, rfl, ?_, ?_⟩ | refine ⟨_, rfl, ?_⟩)) (by repeat (first | exact True.intro | refine And.intro ?_ ?_ | exact DLead.same | exact rfl | refine ⟨_, _, rfl, rfl, ?_⟩ | refine ⟨_, rfl, ?_⟩ | refine ⟨_, _, rfl, ?_, ?_⟩)) hK rfl rfl rfl rfl) rfl ?_;refine AL.nil (th_n (AC.block (AC.seq (AC.region ?_))));refine zc ?_;refine za ?_;refine AL.nil (th_n ?_);refine AC.condD rfl (fun h0 => ?_) (fun h0 => ?_)
 ·refine AC.seq (AC.region ?_);refine AL.q (by exact h_fun (cs := []) en_l2Build rfl rfl (by repeat (first | exact rfl | exact DLead.same | refine ⟨_, _, rfl, ?_, ?_⟩)) (by repeat (exact True.intro)) plS0_spec rfl rfl rfl rfl) rfl ?_;refine zs ?_;refine AL.nil (th_n (AC.ret (ib_r (th_r (bq_r ?_)))));have e : s = plS0 := by rw [hS, if_pos h0]
  exact retN [(1, _), (2, _), (3, _)] rfl (by rw [e]; repeat (first | exact rfl | exact DLead.same | refine ⟨_, _, rfl, ?_, ?_⟩ | refine ⟨_, rfl, ?_⟩)) (by rw [e]; repeat (first | exact True.intro | refine And.intro ?_ ?_ | exact DLead.same | exact rfl | refine ⟨_, _, rfl, rfl, ?_⟩ | refine ⟨_, rfl, ?_⟩ | refine ⟨_, _, rfl, ?_, ?_⟩)) rfl rfl
 refine AC.seq (AC.region ?_);refine zc ?_;refine za ?_;refine AL.nil (th_n ?_);refine AC.condD rfl (fun h1 => ?_) (fun h1 => ?_)
 ·refine AC.seq (AC.region ?_);refine AL.q (by exact h_fun (cs := []) en_l2Build rfl rfl (by repeat (first | exact rfl | exact DLead.same | refine ⟨_, _, rfl, ?_, ?_⟩)) (by repeat (exact True.intro)) plS1_spec rfl rfl rfl rfl) rfl ?_;refine zs ?_;refine AL.nil (th_n (AC.ret (ib_r (th_r (bq_r ?_)))));have e : s = plS1 := by rw [hS, if_neg h0, if_pos h1]
  exact retN [(1, _), (2, _), (3, _)] rfl (by rw [e]; repeat (first | exact rfl | exact DLead.same | refine ⟨_, _, rfl, ?_, ?_⟩ | refine ⟨_, rfl, ?_⟩)) (by rw [e]; repeat (first | exact True.intro | refine And.intro ?_ ?_ | exact DLead.same | exact rfl | refine ⟨_, _, rfl, rfl, ?_⟩ | refine ⟨_, rfl, ?_⟩ | refine ⟨_, _, rfl, ?_, ?_⟩)) rfl rfl
 refine AC.seq (AC.region ?_);refine zc ?_;refine za ?_;refine AL.nil (th_n ?_);refine AC.condD rfl (fun h2 => ?_) (fun h2 => ?_)
 ·refine AC.seq (AC.region ?_);refine AL.q (by exact h_fun (cs := []) en_l2Build rfl rfl (by repeat (first | exact rfl | exact DLead.same | refine ⟨_, _, rfl, ?_, ?_⟩)) (by repeat (exact True.intro)) plS2_spec rfl rfl rfl rfl) rfl ?_;refine zs ?_;refine AL.nil (th_n (AC.ret (ib_r (th_r (bq_r ?_)))));have e : s = plS2 := by rw [hS, if_neg h0, if_neg h1, if_pos h2]
  exact retN [(1, _), (2, _), (3, _)] rfl (by rw [e]; repeat (first | exact rfl | exact DLead.same | refine ⟨_, _, rfl, ?_, ?_⟩ | refine ⟨_, rfl, ?_⟩)) (by rw [e]; repeat (first | exact True.intro | refine And.intro ?_ ?_ | exact DLead.same | exact rfl | refine ⟨_, _, rfl, rfl, ?_⟩ | refine ⟨_, rfl, ?_⟩ | refine ⟨_, _, rfl, ?_, ?_⟩)) rfl rfl
 refine AC.seq (AC.region ?_);refine zc ?_;refine za ?_;refine AL.nil (th_n ?_);refine AC.condD rfl (fun h3 => ?_) (fun h3 => ?_)
 ·refine AC.seq (AC.region ?_);refine AL.q (by exact h_fun (cs := []) en_l2Build rfl rfl (by repeat (first | exact rfl | exact DLead.same | refine ⟨_, _, rfl, ?_, ?_⟩)) (by repeat (exact True.intro)) plS3_spec rfl rfl rfl rfl) rfl ?_;refine zs ?_;refine AL.nil (th_n (AC.ret (ib_r (th_r (bq_r ?_)))));have e : s = plS3 := by rw [hS, if_neg h0, if_neg h1, if_neg h2, if_pos h3]
  exact retN [(1, _), (2, _), (3, _)] rfl (by rw [e]; repeat (first | exact rfl | exact DLead.same | refine ⟨_, _, rfl, ?_, ?_⟩ | refine ⟨_, rfl, ?_⟩)) (by rw [e]; repeat (first | exact True.intro | refine And.intro ?_ ?_ | exact DLead.same | exact rfl | refine ⟨_, _, rfl, rfl, ?_⟩ | refine ⟨_, rfl, ?_⟩ | refine ⟨_, _, rfl, ?_, ?_⟩)) rfl rfl
 refine AC.seq (AC.region ?_);refine zc ?_;refine za ?_;refine AL.nil (th_n ?_);refine AC.condD rfl (fun h4 => ?_) (fun h4 => ?_)
 ·refine AC.seq (AC.region ?_);refine AL.q (by exact h_fun (cs := []) en_l2Build rfl rfl (by repeat (first | exact rfl | exact DLead.same | refine ⟨_, _, rfl, ?_, ?_⟩)) (by repeat (exact True.intro)) plS4_spec rfl rfl rfl rfl) rfl ?_;refine zs ?_;refine AL.nil (th_n (AC.ret (ib_r (th_r (bq_r ?_)))));have e : s = plS4 := by rw [hS, if_neg h0, if_neg h1, if_neg h2, if_neg h3, if_pos h4]
  exact retN [(1, _), (2, _), (3, _)] rfl (by rw [e]; repeat (first | exact rfl | exact DLead.same | refine ⟨_, _, rfl, ?_, ?_⟩ | refine ⟨_, rfl, ?_⟩)) (by rw [e]; repeat (first | exact True.intro | refine And.intro ?_ ?_ | exact DLead.same | exact rfl | refine ⟨_, _, rfl, rfl, ?_⟩ | refine ⟨_, rfl, ?_⟩ | refine ⟨_, _, rfl, ?_, ?_⟩)) rfl rfl
 refine AC.seq (AC.region ?_);refine zc ?_;refine za ?_;refine AL.nil (th_n ?_);refine AC.condD rfl (fun h5 => ?_) (fun h5 => ?_)
 ·refine AC.seq (AC.region ?_);refine AL.q (by exact h_fun (cs := []) en_l2Build rfl rfl (by repeat (first | exact rfl | exact DLead.same | refine ⟨_, _, rfl, ?_, ?_⟩)) (by repeat (exact True.intro)) plS5_spec rfl rfl rfl rfl) rfl ?_;refine zs ?_;refine AL.nil (th_n (AC.ret (ib_r (th_r (bq_r ?_)))));have e : s = plS5 := by rw [hS, if_neg h0, if_neg h1, if_neg h2, if_neg h3, if_neg h4, if_pos h5]
  exact retN [(1, _), (2, _), (3, _)] rfl (by rw [e]; repeat (first | exact rfl | exact DLead.same | refine ⟨_, _, rfl, ?_, ?_⟩ | refine ⟨_, rfl, ?_⟩)) (by rw [e]; repeat (first | exact True.intro | refine And.intro ?_ ?_ | exact DLead.same | exact rfl | refine ⟨_, _, rfl, rfl, ?_⟩ | refine ⟨_, rfl, ?_⟩ | refine ⟨_, _, rfl, ?_, ?_⟩)) rfl rfl
 refine AC.skip (ib_n (th_n (AC.seq (AC.region ?_))));refine AL.q (by exact h_fun (cs := []) en_l2Build rfl rfl (by repeat (first | exact rfl | exact DLead.same | refine ⟨_, _, rfl, ?_, ?_⟩)) (by repeat (exact True.intro)) plS6_spec rfl rfl rfl rfl) rfl ?_;refine zs ?_;refine AL.nil (th_n (AC.ret (bq_r ?_)));have e : s = plS6 := by rw [hS, if_neg h0, if_neg h1, if_neg h2, if_neg h3, if_neg h4, if_neg h5]
 exact retN [(1, _), (2, _), (3, _)] rfl (by rw [e]; repeat (first | exact rfl | exact DLead.same | refine ⟨_, _, rfl, ?_, ?_⟩ | refine ⟨_, rfl, ?_⟩)) (by rw [e]; repeat (first | exact True.intro | refine And.intro ?_ ?_ | exact DLead.same | exact rfl | refine ⟨_, _, rfl, rfl, ?_⟩ | refine ⟨_, rfl, ?_⟩ | refine ⟨_, _, rfl, ?_, ?_⟩)) rfl rfl
theorem en_l2Plain : Enters Tryz.prog 241 := enters_of Tryz.func241 rfl rfl
theorem twS_L : NetL (unionR twS0.net twS1.net).1 := ((okS_S twS_net).1.B.n).L
set_option maxHeartbeats 4000000 in
theorem stg_spec (c : Cur) (hp : c.pos ≤ 10000000) : ASpec Tryz.prog 191 [.ptr 0 0] [(0, curC c)] (Fun1 (stgQ (stgI c).1 1 2) [(0, curC (stgI c).2), (1, .arr 149 2 (sigsL (stgI c).1.sigs)), (2, .arr 156 2 (labsL (stgI c).1.labs))]) := by
 have hK := pick_spec c 9 (by decide) (by omega);have hpos := c.pick_pos 9;have hS : stgI c = if (c.pick 9).1 = 0 then (grS0, (c.pick 9).2) else if (c.pick 9).1 = 1 then (grS1, (c.pick 9).2) else if (c.pick 9).1 = 2 then (grS2, (c.pick 9).2) else if (c.pick 9).1 = 3 then (grS3, (c.pick 9).2) else if (c.pick 9).1 = 4 then (grS4, (c.pick 9).2) else (plS ((c.pick 9).2.pick 7).1, ((c.pick 9).2.pick 7).2) := rfl
 obtain ⟨p, hpp⟩ : ∃ p, p = c.pick 9 := ⟨_, rfl⟩;rw [← hpp] at hK hS hpos;have hP := l2Plain_spec p.2 (by omega);obtain ⟨pp, hpq⟩ : ∃ pp, pp = plS (p.2.pick 7).1 := ⟨_, rfl⟩;rw [← hpq] at hP hS;obtain ⟨s, hs⟩ : ∃ s, s = stgI c := ⟨_, rfl⟩;rw [← hs] at hS ⊢;have hU := sUnionSTGs_own twS0 twS1 (okS_S twS0_ok).1.B (okS_S twS1_ok).1.B twS_L twS_ok;rw [show unionT twS0 twS1 = grS3 from rfl] at hU;refine ASpec.of Tryz.func191 rfl rfl fun C hC => ?_
 refine AC.seq (AC.region ?_);refine AL.q (by exact h_alloc rfl) rfl ?_;refine AL.nil (th_n (AC.seq (AC.seq (AC.region ?_))));refine AL.p (by exact mv3 rfl) rfl ?_;refine AL.q (by exact h_fun (cs := [0]) en_pick rfl rfl (by repeat (first | exact rfl | exact DLead.same | refine ⟨_, _, rfl, ?_, ?_⟩ | refine ⟨_, rfl, ?_⟩)) (by repeat (first | exact True.intro | refine And.intro ?_ ?_ | exact DLead.same | exact rfl | refine ⟨_, _, rfl, rfl, ?_⟩ | refine ⟨_, rfl, ?_⟩ | refine ⟨_, _, rfl, ?_, ?_⟩)) hK rfl rfl rfl rfl) rfl ?_;refine AL.nil (th_n (AC.block (AC.seq (AC.region ?_))));refine zc ?_;refine za ?_;refine AL.nil (th_n ?_);refine AC.condD rfl (fun h0 => ?_) (fun h0 => ?_)
 ·refine AC.seq (AC.region ?_);refine AL.q (by exact h_fun (cs := []) en_l2Build rfl rfl (by repeat (first | exact rfl | exact DLead.same | refine ⟨_, _, rfl, ?_, ?_⟩)) (by repeat (exact True.intro)) grS0_spec rfl rfl rfl rfl) rfl ?_;refine AL.weak (Weak.freezeA (i := 9) (k := 1) rfl rfl rfl (ownl _ _) (ownt _ _)) ?_;refine zs ?_;refine AL.nil (th_n (AC.ret (ib_r (th_r (bq_r ?_)))));have e : s = (grS0, p.2) := by rw [hS, if_pos h0]
  exact retN [(1, _), (2, _)] rfl (by rw [e]; repeat (first | exact rfl | exact DLead.same | refine ⟨_, _, rfl, ?_, ?_⟩ | refine ⟨_, rfl, ?_⟩)) (by rw [e]; repeat (first | exact True.intro | refine And.intro ?_ ?_ | exact DLead.same | exact rfl | refine ⟨_, _, rfl, rfl, ?_⟩ | refine ⟨_, rfl, ?_⟩ | refine ⟨_, _, rfl, ?_, ?_⟩)) rfl rfl
 refine AC.seq (AC.region ?_);refine zc ?_;refine za ?_;refine AL.nil (th_n ?_);refine AC.condD rfl (fun h1 => ?_) (fun h1 => ?_)
 ·refine AC.seq (AC.region ?_);refine AL.q (by exact h_fun (cs := []) en_l2Build rfl rfl (by repeat (first | exact rfl | exact DLead.same | refine ⟨_, _, rfl, ?_, ?_⟩)) (by repeat (exact True.intro)) grS1_spec rfl rfl rfl rfl) rfl ?_;refine AL.weak (Weak.freezeA (i := 12) (k := 1) rfl rfl rfl (ownl _ _) (ownt _ _)) ?_;refine zs ?_;refine AL.nil (th_n (AC.ret (ib_r (th_r (bq_r ?_)))));have e : s = (grS1, p.2) := by rw [hS, if_neg h0, if_pos h1]
  exact retN [(1, _), (2, _)] rfl (by rw [e]; repeat (first | exact rfl | exact DLead.same | refine ⟨_, _, rfl, ?_, ?_⟩ | refine ⟨_, rfl, ?_⟩)) (by rw [e]; repeat (first | exact True.intro | refine And.intro ?_ ?_ | exact DLead.same | exact rfl | refine ⟨_, _, rfl, rfl, ?_⟩ | refine ⟨_, rfl, ?_⟩ | refine ⟨_, _, rfl, ?_, ?_⟩)) rfl rfl
 refine AC.seq (AC.region ?_);refine zc ?_;refine za ?_;refine AL.nil (th_n ?_);refine AC.condD rfl (fun h2 => ?_) (fun h2 => ?_)
 ·refine AC.seq (AC.region ?_);refine AL.q (by exact h_fun (cs := []) en_l2Build rfl rfl (by repeat (first | exact rfl | exact DLead.same | refine ⟨_, _, rfl, ?_, ?_⟩)) (by repeat (exact True.intro)) grS2_spec rfl rfl rfl rfl) rfl ?_;refine AL.weak (Weak.freezeA (i := 15) (k := 1) rfl rfl rfl (ownl _ _) (ownt _ _)) ?_;refine zs ?_;refine AL.nil (th_n (AC.ret (ib_r (th_r (bq_r ?_)))));have e : s = (grS2, p.2) := by rw [hS, if_neg h0, if_neg h1, if_pos h2]
  exact retN [(1, _), (2, _)] rfl (by rw [e]; repeat (first | exact rfl | exact DLead.same | refine ⟨_, _, rfl, ?_, ?_⟩ | refine ⟨_, rfl, ?_⟩)) (by rw [e]; repeat (first | exact True.intro | refine And.intro ?_ ?_ | exact DLead.same | exact rfl | refine ⟨_, _, rfl, rfl, ?_⟩ | refine ⟨_, rfl, ?_⟩ | refine ⟨_, _, rfl, ?_, ?_⟩)) rfl rfl
 refine AC.seq (AC.region ?_);refine zc ?_;refine za ?_;refine AL.nil (th_n ?_);refine AC.condD rfl (fun h3 => ?_) (fun h3 => ?_)
 ·refine AC.seq (AC.region ?_);refine AL.q (by exact h_fun (cs := []) en_l2Build rfl rfl (by repeat (first | exact rfl | exact DLead.same | refine ⟨_, _, rfl, ?_, ?_⟩)) (by repeat (exact True.intro)) twS0_spec rfl rfl rfl rfl) rfl ?_;refine AL.weak (Weak.freezeA3 19 rfl rfl rfl rfl rfl rfl rfl (ownl _ _) (ownl _ _) (ownl _ _) (ownt _ _) (ownt _ _) (ownt _ _)) ?_;refine AL.q (by exact h_fun (cs := []) en_l2Build rfl rfl (by repeat (first | exact rfl | exact DLead.same | refine ⟨_, _, rfl, ?_, ?_⟩)) (by repeat (exact True.intro)) twS1_spec rfl rfl rfl rfl) rfl ?_;refine AL.weak (Weak.freezeA3 20 rfl rfl rfl rfl rfl rfl rfl (ownl _ _) (ownl _ _) (ownl _ _) (ownt _ _) (ownt _ _) (ownt _ _)) ?_;refine AL.q (by exact h_fun (cs := []) en_sUnionSTGs rfl rfl (by repeat (first | exact rfl | exact DLead.same | refine ⟨_, _, rfl, ?_, ?_⟩ | refine ⟨_, rfl, ?_⟩)) (by repeat (exact True.intro)) hU rfl rfl rfl rfl) rfl ?_;refine AL.p (by exact mv5 rfl) rfl ?_;refine AL.p (by exact g_extract (r := .agg _) rfl rfl) rfl ?_;refine AL.p (by exact g_extract (r := .d _) rfl rfl) rfl ?_;refine AL.q (by exact h_alloc rfl) rfl ?_;refine zs ?_;refine za ?_;refine AL.nil (th_n (AC.seq (AC.region ?_)));refine zm ?_;refine AL.nil (th_n ?_);refine AC.condT rfl ?_;refine AC.seq (AC.region ?_);refine AL.p (by exact g_load_ptrN rfl rfl rfl rfl rfl) rfl ?_;refine zs ?_;refine AL.nil (th_n (AC.ret (ib_r (th_r (bq_r ?_)))));have e : s = (grS3, p.2) := by rw [hS, if_neg h0, if_neg h1, if_neg h2, if_pos h3]
  exact retN [(1, _), (2, _)] rfl (by rw [e]; repeat (first | exact rfl | exact DLead.same | refine ⟨_, _, rfl, ?_, ?_⟩ | refine ⟨_, rfl, ?_⟩)) (by rw [e]; repeat (first | exact True.intro | refine And.intro ?_ ?_ | exact DLead.same | exact rfl | refine ⟨_, _, rfl, rfl, ?_⟩ | refine ⟨_, rfl, ?_⟩ | refine ⟨_, _, rfl, ?_, ?_⟩)) rfl rfl
 refine AC.seq (AC.region ?_);refine zc ?_;refine za ?_;refine AL.nil (th_n ?_);refine AC.condD rfl (fun h4 => ?_) (fun h4 => ?_)
 ·refine AC.seq (AC.region ?_);refine AL.q (by exact h_fun (cs := []) en_l2Build rfl rfl (by repeat (first | exact rfl | exact DLead.same | refine ⟨_, _, rfl, ?_, ?_⟩)) (by repeat (exact True.intro)) grS4_spec rfl rfl rfl rfl) rfl ?_;refine AL.weak (Weak.freezeA (i := 28) (k := 1) rfl rfl rfl (ownl _ _) (ownt _ _)) ?_;refine zs ?_;refine AL.nil (th_n (AC.ret (ib_r (th_r (bq_r ?_)))));have e : s = (grS4, p.2) := by rw [hS, if_neg h0, if_neg h1, if_neg h2, if_neg h3, if_pos h4]
  exact retN [(1, _), (2, _)] rfl (by rw [e]; repeat (first | exact rfl | exact DLead.same | refine ⟨_, _, rfl, ?_, ?_⟩ | refine ⟨_, rfl, ?_⟩)) (by rw [e]; repeat (first | exact True.intro | refine And.intro ?_ ?_ | exact DLead.same | exact rfl | refine ⟨_, _, rfl, rfl, ?_⟩ | refine ⟨_, rfl, ?_⟩ | refine ⟨_, _, rfl, ?_, ?_⟩)) rfl rfl
 refine AC.skip (ib_n (th_n (AC.seq (AC.region ?_))));refine AL.p (by exact mv3 rfl) rfl ?_;refine AL.q (by exact h_fun (cs := [0]) en_l2Plain rfl rfl (by repeat (first | exact rfl | refine ⟨_, _, rfl, ?_, ?_⟩ | refine ⟨_, rfl, ?_⟩)) (by repeat (first | exact True.intro | refine And.intro ?_ ?_ | exact DLead.same | exact rfl | refine ⟨_, _, rfl, rfl, ?_⟩ | refine ⟨_, rfl, ?_⟩ | refine ⟨_, _, rfl, ?_, ?_⟩)) hP rfl rfl rfl rfl) rfl ?_;refine AL.weak (Weak.freezeA (i := 30) (k := 1) rfl rfl rfl (ownl _ _) (ownt _ _)) ?_;refine zs ?_;refine AL.nil (th_n (AC.ret (bq_r ?_)));have e : s = (pp, (p.2.pick 7).2) := by rw [hS, if_neg h0, if_neg h1, if_neg h2, if_neg h3, if_neg h4]
 exact retN [(1, _), (2, _)] rfl (by rw [e]; repeat (first | exact rfl | exact DLead.same | refine ⟨_, _, rfl, ?_, ?_⟩ | refine ⟨_, rfl, ?_⟩)) (by rw [e]; repeat (first | exact True.intro | refine And.intro ?_ ?_ | exact DLead.same | exact rfl | refine ⟨_, _, rfl, rfl, ?_⟩ | refine ⟨_, rfl, ?_⟩ | refine ⟨_, _, rfl, ?_, ?_⟩)) rfl rfl
theorem en_stg : Enters Tryz.prog 191 := enters_of Tryz.func191 rfl rfl
structure SgS (k : Nat) (c : SG) : Prop where
 sg : c.sigs.length ≤ 8
 sn : ∀ x, x ∈ c.sigs → x.name.length ≤ 10
 n0 : 1 ≤ c.codes.length
 n : c.codes.length ≤ 300 + k
 cl : ∀ w, w ∈ c.codes → w.length ≤ 8 + 10 * k
 a : c.arcs.length ≤ 4000 + k
theorem SgS.L {k : Nat} {c : SG} (h : SgS k c) (hk : k ≤ 10) : SgL c := ⟨by have := h.sg; omega, fun t ht => by have := h.sn t ht; omega, by have := h.n; omega, fun w hw => by have := h.cl w hw; omega, by have := h.a; omega⟩
theorem SgS.mono {k j : Nat} {c : SG} (h : SgS k c) (hk : k ≤ j) : SgS j c := ⟨h.sg, h.sn, h.n0, by have := h.n; omega, fun w hw => by have := h.cl w hw; omega, by have := h.a; omega⟩
theorem codeS_S {s : Stg} (hs : StgS s) (h : (codeS s).2 = true) : SgS 0 (codeS s).1 := by
 have hp := codeS_pos h;have hin := explS_in s;unfold codeS at h hp ⊢
 split
 ·rename_i q;rw [if_pos q] at hp;refine ⟨hs.sl, hs.sn, hp, ?_, fun w hw => ?_, ?_⟩
  ·show (mixC _ _ _ _).length ≤ _;rw [mixC_len]; omega
  ·have hw : w ∈ mixC s (explS s).1 s.sigs.length 0 := hw;unfold mixC at hw;obtain ⟨a, _, rfl⟩ := List.mem_map.1 hw;rw [if_neg (Nat.not_lt_zero _), codeC_len];have := hs.sl; omega
  show (arcsOf _ _).length ≤ _;rw [arcsOf_len]; exact q.2.2
 rename_i q; rw [if_neg q] at h; cases h
theorem plS1_code : (codeS plS1).2 = true := by decide +kernel
def SgO (k pos : Nat) : AV → List (Nat × Chunk) → Prop := fun r chs => ∃ (g : SG) (c : Cur), (SgS k g ∧ c.pos ≤ pos) ∧ r = .agg [.d (vSigs g.sigs), .own 1 g.codes.length, .own 2 g.arcs.length] ∧ chs = [(0, curC c), (1, .arr 9 1 (tsX g.codes)), (2, .arr 75 4 (arL g.arcs))]
def SgE0 (k : Nat) : AV → List (Nat × Chunk) → Prop := fun r chs => ∃ (g : SG), SgS k g ∧ r = sgA g ∧ chs = []
set_option maxHeartbeats 8000000 in
theorem coded_spec (c : Cur) (hp : c.pos ≤ 100000) : ASpec Tryz.prog 202 [.ptr 0 0] [(0, curC c)] (SgO 0 (c.pos + 20)) := by
 have hB1 := sBuild_spec plS1 (okS_S plS1_ok).1.B;have hS1 := codeS_S (okS_S plS1_ok).1 plS1_code;obtain ⟨P, hP⟩ : ∃ P, P = codeS plS1 := ⟨_, rfl⟩;rw [← hP] at hB1 hS1;clear hP;refine ASpec.of Tryz.func202 rfl rfl fun C hC => ?_
 refine AC.seq (AC.region ?_);refine AL.q (by exact h_alloc rfl) rfl ?_;refine AL.nil (th_n (AC.seq (AC.seq (AC.region ?_))));refine za ?_;refine AL.nil (th_n (AC.block ?_));refine AC.loop (ι := Nat × Cur) (fun y => ⟨26, 300, [(0, .ptr 0 0), (2, .ptr 201 0), (3, aI y.1)], [(0, some (curC y.2)), (201, some (.cells 68 zSG))]⟩) (fun y => y.1 ≤ 4 ∧ y.2.pos ≤ c.pos + 4 * y.1) (fun y => 4 - y.1) ((0, c)) ?_ (⟨Nat.zero_le _, Nat.le_refl _⟩) ?_
 ·exact zw [(201, _)] hC
 rintro ⟨k, e⟩ ⟨hk, he⟩;dsimp only at hk he ⊢;refine AC.seq (AC.seq (AC.region ?_));refine zm ?_;refine zc ?_;refine AL.nil (th_n ?_);refine AC.condD rfl (fun h0 => ?_) (fun h0 => ?_)
 ·refine AC.skip (th_n (AC.seq (AC.block (AC.seq ?_))));have hk1 : k < 4 := by omega
  have hS := stg_spec e (by omega);have hSi := stgI_in e;obtain ⟨A, hAA⟩ : ∃ A, A = stgI e := ⟨_, rfl⟩;rw [← hAA] at hS hSi;have hBd := sBuild_spec A.1 (okS_S hSi.1).1.B;have hCS := fun h : (codeS A.1).2 = true => codeS_S (okS_S hSi.1).1 h
  obtain ⟨⟨G, ok⟩, hG⟩ : ∃ G, G = codeS A.1 := ⟨_, rfl⟩;rw [← hG] at hBd hCS;dsimp only at hBd hCS;clear hG hAA;refine AC.region ?_;refine AL.p (by exact mv3 rfl) rfl ?_;refine AL.q (by exact h_fun (cs := [0]) en_stg rfl rfl (by repeat (first | exact rfl | refine ⟨_, _, rfl, ?_, ?_⟩ | refine ⟨_, rfl, ?_⟩)) (by repeat (first | exact True.intro | refine And.intro ?_ ?_ | exact DLead.same | exact rfl | refine ⟨_, _, rfl, rfl, ?_⟩ | refine ⟨_, rfl, ?_⟩ | refine ⟨_, _, rfl, ?_, ?_⟩)) hS rfl rfl rfl rfl) rfl ?_;refine AL.weak (Weak.freezeA (i := 14) (k := 2) rfl rfl rfl (ownl _ _) (ownt _ _)) ?_;refine AL.weak (Weak.freezeA (i := 14) (k := 3) rfl rfl rfl (ownl _ _) (ownt _ _)) ?_;refine AL.weak (t := ⟨26, 308, [(0, .ptr 0 0), (2, .ptr 201 0), (3, aI k), (14, stgA A.1)], [(0, some (curC A.2)), (201, some (.cells 68 zSG))]⟩) (zw [(201, 201)] hC) ?_;refine AL.q (by exact h_fun (cs := []) en_sBuild rfl rfl (by repeat (first | exact rfl | exact DLead.same | refine ⟨_, _, rfl, ?_, ?_⟩ | refine ⟨_, rfl, ?_⟩)) (by repeat (exact True.intro)) hBd rfl rfl rfl rfl) rfl ?_;refine AL.p (by exact mv5 rfl) rfl ?_;refine AL.p (by exact g_extract (r := .agg _) rfl rfl) rfl ?_;refine AL.p (by exact g_extract (r := .d _) rfl rfl) rfl ?_;refine AL.q (by exact h_alloc rfl) rfl ?_;refine zs ?_;refine za ?_;refine AL.nil (th_n (AC.seq ?_));refine AC.weak (t := ⟨26, 500, [(0, .ptr 0 0), (2, .ptr 201 0), (3, aI k), (4, .ptr 200 0), (5, aT ok)], [(0, some (curC A.2)), (201, some (.cells 68 zSG)), (200, some (.cells 68 [.d (vSigs G.sigs), .own 101 G.codes.length, .own 102 G.arcs.length])), (101, some (.arr 9 1 (tsX G.codes))), (102, some (.arr 75 4 (arL G.arcs)))]⟩) (zw [(201, 201), (200, _), (101, _), (102, _)] hC) ?_;refine AC.region ?_;refine zm ?_;refine AL.nil (th_n ?_);refine AC.condB rfl (fun h1 => ?_) (fun h1 => ?_)
  ·refine AC.seq (AC.region ?_);refine AL.p (by exact g_load_ptrN rfl rfl rfl rfl rfl) rfl ?_;refine zs ?_;refine AL.nil (th_n (AC.ret (ib_r (th_r (th_r (ib_r (th_r (bq_r ?_))))))));have hok : ok = true := ‹ok = true›;exact retX [(1, 101), (2, 102)] rfl ⟨G, A.2, ⟨hCS hok, by omega⟩, rfl, rfl⟩ (by repeat (first | exact DLead.same | exact rfl | refine ⟨_, rfl, ?_⟩ | refine ⟨_, _, rfl, ?_, ?_⟩)) (by repeat (first | exact True.intro | refine And.intro ?_ ?_ | exact DLead.same | exact rfl | refine ⟨_, _, rfl, rfl, ?_⟩ | refine ⟨_, rfl, ?_⟩ | refine ⟨_, _, rfl, ?_, ?_⟩)) rfl rfl
  refine AC.skip (ib_n (th_n (AC.region ?_)));refine zm ?_;refine zA ?_;refine za ?_;refine AL.nil (th_n ?_);exact ⟨(k + 1, A.2), ⟨by dsimp only; omega, by dsimp only; omega⟩, by dsimp only; omega, zw [(201, 201)] hC⟩
 refine AC.exit (th_e (th_e (ib_y (th_n (AC.seq (AC.region ?_))))));refine AL.q (by exact h_fun (cs := []) en_l2Build rfl rfl (by repeat (first | exact rfl | exact DLead.same | refine ⟨_, _, rfl, ?_, ?_⟩)) (by repeat (exact True.intro)) plS1_spec rfl rfl rfl rfl) rfl ?_;refine AL.weak (Weak.freezeA3 21 rfl rfl rfl rfl rfl rfl rfl (ownl _ _) (ownl _ _) (ownl _ _) (ownt _ _) (ownt _ _) (ownt _ _)) ?_;refine AL.weak (t := ⟨26, 400, [(0, .ptr 0 0), (2, .ptr 201 0), (21, stgA plS1)], [(0, some (curC e)), (201, some (.cells 68 zSG))]⟩) (zw [(201, 201)] hC) ?_;refine AL.q (by exact h_fun (cs := []) en_sBuild rfl rfl (by repeat (first | exact rfl | exact DLead.same | refine ⟨_, _, rfl, ?_, ?_⟩ | refine ⟨_, rfl, ?_⟩)) (by repeat (exact True.intro)) hB1 rfl rfl rfl rfl) rfl ?_;refine AL.p (by exact mv5 rfl) rfl ?_;refine AL.p (by exact g_extract (r := .agg _) rfl rfl) rfl ?_;refine AL.p (by exact g_extract (r := .d _) rfl rfl) rfl ?_;refine AL.q (by exact h_alloc rfl) rfl ?_;refine zs ?_;refine za ?_;refine AL.nil (th_n (AC.seq ?_));refine AC.weak (t := ⟨26, 500, [(2, .ptr 201 0), (6, .ptr 200 0)], [(0, some (curC e)), (201, some (.cells 68 zSG)), (200, some (.cells 68 [.d (vSigs P.1.sigs), .own 101 P.1.codes.length, .own 102 P.1.arcs.length])), (101, some (.arr 9 1 (tsX P.1.codes))), (102, some (.arr 75 4 (arL P.1.arcs)))]⟩) (zw [(201, 201), (200, _), (101, _), (102, _)] hC) ?_;refine AC.region ?_;refine AL.p (by exact g_load_ptrN rfl rfl rfl rfl rfl) rfl ?_;refine zs ?_;refine AL.nil (th_n (AC.ret (bq_r ?_)));exact retX [(1, 101), (2, 102)] rfl ⟨P.1, e, ⟨hS1, by omega⟩, rfl, rfl⟩ (by repeat (first | exact DLead.same | exact rfl | refine ⟨_, rfl, ?_⟩ | refine ⟨_, _, rfl, ?_, ?_⟩)) (by repeat (first | exact True.intro | refine And.intro ?_ ?_ | exact DLead.same | exact rfl | refine ⟨_, _, rfl, rfl, ?_⟩ | refine ⟨_, rfl, ?_⟩ | refine ⟨_, _, rfl, ?_, ?_⟩)) rfl rfl
theorem en_coded : Enters Tryz.prog 202 := enters_of Tryz.func202 rfl rfl
theorem arL_set0 {l : List Ar} (h : 0 < l.length) (a : Ar) : (arL l).set 0 (arD a) = arL (l.set 0 a) := by unfold arL; rw [List.map_set]
theorem tsX_set0 {l : List (List UInt8)} (w : List UInt8) : (tsX l).set 0 [dS (bstr w)] = tsX (l.set 0 w) := by unfold tsX; rw [List.map_set]
theorem en_anyCoded : Enters Tryz.prog 143 := enters_of Tryz.func143 rfl rfl
set_option maxHeartbeats 1000000 in
theorem ifAr_spec (l : List Ar) (hl : l.length ≤ 1000000) (g : FuncId) (ds : List DV) (hen : Enters Tryz.prog g) (p : Ar → Bool) (hp : ∀ t, t ∈ l → ASpec Tryz.prog g (arA t :: ds.map .d) [] (Pure1 (aT (p t)))) : ASpec Tryz.prog 251 [.d (vArs l), .clo g (ds.map .d)] [] (Pure1 (aI (findI p l))) := by
 refine ASpec.of Tryz.func251 rfl rfl fun C hC => ?_
 refine AC.seq (AC.region ?_);refine za ?_;refine AL.nil (th_n (AC.seq (AC.seq (AC.region ?_))));refine zm ?_;refine AL.p (by exact g_len_view rfl rfl (by exact List.length_map _)) rfl ?_;refine zm ?_;refine AL.nil (th_n (AC.block ?_));refine AC.loop (ι := Nat) (fun k => ⟨19, 0, [(0, .d (vArs l)), (1, .clo g (ds.map .d)), (6, .d (vArs l)), (7, aI l.length), (8, aI k)], []⟩) (fun k => k ≤ l.length ∧ ∀ j (hj : j < l.length), j < k → p l[j] = false) (fun k => l.length - k) (0) ?_ (⟨Nat.zero_le _, fun j _ hj => by omega⟩) ?_
 ·refine Weak.ren _ [] hC rfl ⟨.same, ⟨_, rfl, leadsL_data _ ds⟩, ?_⟩ trivial rfl rfl rfl; repeat (first | exact True.intro | refine And.intro ?_ ?_ | exact DLead.same)
 intro k ⟨hk, hall⟩;refine AC.seq (AC.region ?_);refine zc ?_;refine AL.nil (th_n (AC.seq ?_));refine AC.condD rfl (fun h0 => ?_) (fun h0 => ?_)
 ·refine AC.skip (th_n (AC.seq (AC.block (AC.seq ?_))));have hk1 : k < l.length := by omega
  have hget := arL_get hk1;refine AC.region ?_;refine zm ?_;refine za ?_;refine AL.nil (th_n (AC.seq (AC.region ?_)));refine AL.p (by exact mv6 rfl) rfl ?_;refine zm ?_;refine zm ?_;refine AL.p (by exact g_ia_view rfl rfl rfl rfl rfl (by rfl) (by assumption)) rfl ?_;refine AL.p (by exact g_load_refN rfl rfl rfl rfl) rfl ?_;refine AL.q (by exact h_pure hen rfl rfl (by exact ⟨_, _, rfl, ⟨_, rfl, _, _, rfl, .same, _, _, rfl, .same, _, _, rfl, .same, _, _, rfl, .same, rfl⟩, leadsL_data _ ds⟩) (hp l[k] (List.getElem_mem hk1)) rfl) rfl ?_;refine AL.nil (th_n ?_);refine AC.condB rfl (fun h1 => ?_) (fun h1 => ?_)
  ·refine AC.seq (AC.region ?_);refine zm ?_;refine za ?_;refine AL.nil (th_n (AC.ret (ib_r (th_r (th_r (ib_r (th_r (bq_r ?_))))))));exact ret1 rfl (by rw [findI_at hk1 h1 (fun j hj => hall j (by omega) hj)])
  refine AC.skip (ib_n (th_n (AC.region ?_)));refine zA ?_;refine zm ?_;refine AL.nil (th_n ?_);exact ⟨k + 1, ⟨by omega, fun j hj hj2 => by rcases Nat.lt_succ_iff_lt_or_eq.1 hj2 with h | rfl; exact hall j hj h; exact h1⟩, by omega, Weak.ren _ [] hC rfl ⟨.same, ⟨_, rfl, leadsL_data _ ds⟩, by repeat (first | exact True.intro | refine And.intro ?_ ?_ | exact DLead.same)⟩ trivial rfl rfl rfl⟩
 refine AC.exit (th_e (th_e (ib_y (th_n (AC.seq (AC.region ?_))))));refine za ?_;refine AL.nil (th_n (AC.ret (bq_r ?_)));exact ret1 rfl (by rw [findI_none (fun j hj => hall j hj (by omega))])
theorem en_ifAr : Enters Tryz.prog 251 := enters_of Tryz.func251 rfl rfl
set_option maxHeartbeats 1000000 in
theorem cfAr_spec (l : List Ar) (hl : l.length ≤ 1000000) (g : FuncId) (ds : List DV) (hen : Enters Tryz.prog g) (p : Ar → Bool) (hp : ∀ t, t ∈ l → ASpec Tryz.prog g (arA t :: ds.map .d) [] (Pure1 (aT (p t)))) : ASpec Tryz.prog 214 [.d (vArs l), .clo g (ds.map .d)] [] (Pure1 (aT (l.any p))) := by
 refine ASpec.of Tryz.func214 rfl rfl fun C hC => ?_
 refine AC.seq (AC.region ?_);refine za ?_;refine AL.nil (th_n (AC.seq (AC.region ?_)));refine zm ?_;refine AL.p (by exact mv6 rfl) rfl ?_;refine AL.q (by exact h_pure en_ifAr rfl rfl (by exact ⟨_, _, rfl, .same, _, _, rfl, ⟨_, rfl, leadsL_data _ ds⟩, rfl⟩) (ifAr_spec l hl g ds hen p hp) rfl) rfl ?_;refine zc ?_;refine za ?_;refine AL.nil (th_n (AC.ret (bq_r ?_)));exact ret1 rfl (by rw [findI_any])
theorem en_cfAr : Enters Tryz.prog 214 := enters_of Tryz.func214 rfl rfl
def excB (c : SG) (k g : Int) : Bool := c.arcs.any fun v => decide (v.from_ = k) && decide (v.sig = g)
theorem exc_no {c : SG} {k g : Int} (h : ∀ j (hj : j < c.arcs.length), ¬ (c.arcs[j].from_ = k ∧ c.arcs[j].sig = g)) : excB c k g = false := by
 refine List.any_eq_false.2 fun a ha => ?_
 obtain ⟨j, hj, rfl⟩ := List.getElem_of_mem ha;rw [Bool.and_eq_true, decide_eq_true_eq, decide_eq_true_eq]; exact h j hj
theorem exc_yes {c : SG} {k g : Int} {j : Nat} (hj : j < c.arcs.length) (h : c.arcs[j].from_ = k ∧ c.arcs[j].sig = g) : excB c k g = true := List.any_eq_true.2 ⟨_, List.getElem_mem hj, by rw [Bool.and_eq_true, decide_eq_true_eq, decide_eq_true_eq]; exact h⟩
set_option maxHeartbeats 2000000 in
theorem l5Exc_spec (c : SG) (k g : Int) (hl : c.arcs.length ≤ 1000000) : ASpec Tryz.prog 170 [sgA c, aI k, aI g] [] (Pure1 (aT (excB c k g))) := by
 refine ASpec.of Tryz.func170 rfl rfl fun C hC => ?_
 refine AC.seq (AC.region ?_);refine AL.q (by exact h_boxF rfl rfl) rfl ?_;refine za ?_;refine AL.nil (th_n (AC.seq (AC.seq (AC.region ?_))));refine zf ?_;refine zr ?_;refine AL.p (by exact g_len_view (k := c.arcs.length) rfl rfl (arL_len _)) rfl ?_;refine zm ?_;refine AL.nil (th_n (AC.block ?_));refine AC.loop (ι := Nat) (fun j => ⟨27, 300, [(1, aI k), (2, aI g), (10, .d (vArs c.arcs)), (11, aI c.arcs.length), (12, aI j)], []⟩) (fun j => j ≤ c.arcs.length ∧ ∀ i (hi : i < c.arcs.length), i < j → ¬ (c.arcs[i].from_ = k ∧ c.arcs[i].sig = g)) (fun j => c.arcs.length - j) (0) ?_ (⟨Nat.zero_le _, fun i _ hi => absurd hi (Nat.not_lt_zero _)⟩) ?_
 ·exact Weak.ren _ [] hC rfl (by repeat (first | exact True.intro | refine And.intro ?_ ?_ | exact DLead.same)) (by repeat (exact True.intro)) rfl rfl rfl
 rintro j ⟨hj, hall⟩;refine AC.seq (AC.region ?_);refine zc ?_;refine AL.nil (th_n (AC.seq ?_));refine AC.condD rfl (fun h0 => ?_) (fun h0 => ?_)
 ·refine AC.skip (th_n (AC.seq (AC.block (AC.seq ?_))));have hj1 : j < c.arcs.length := by omega
  have hget := arL_get hj1;have hy := exc_yes (k := k) (g := g) hj1;have hnx : ¬ (c.arcs[j].from_ = k ∧ c.arcs[j].sig = g) → ∀ i (hi : i < c.arcs.length), i < j + 1 → ¬ (c.arcs[i].from_ = k ∧ c.arcs[i].sig = g) := fun q i hi h2 => by rcases Nat.lt_succ_iff_lt_or_eq.1 h2 with h | rfl; exact hall i hi h; exact q
  obtain ⟨v, hv⟩ : ∃ v, v = c.arcs[j] := ⟨_, rfl⟩;rw [← hv] at hget hy hnx;clear hv;refine AC.region ?_;refine AL.p (by exact g_ia_view rfl rfl rfl rfl rfl (by rfl) (by assumption)) rfl ?_;refine AL.p (by exact g_load_refN rfl rfl rfl rfl) rfl ?_;refine AL.q (by exact h_alloc rfl) rfl ?_;refine zs ?_;refine AL.nil (th_n (AC.seq (AC.region ?_)));refine zF ?_;refine zl ?_;refine zm ?_;refine zc ?_;refine zm ?_;refine AL.caseG rfl rfl (fun h1 => ?_) (fun h1 => ?_)
  ·refine zy ?_;refine zF ?_;refine zy ?_;refine zl ?_;refine zy ?_;refine zm ?_;refine zy ?_;refine zc ?_;refine zQ ?_;refine AL.nil (th_n ?_);refine AC.condD rfl (fun h2 => ?_) (fun h2 => ?_)
   ·refine AC.seq (AC.region ?_);refine za ?_;refine AL.nil (th_n (AC.ret (ib_r (th_r (th_r (ib_r (th_r (bq_r ?_))))))));exact ret1 rfl (by rw [hy ⟨‹v.from_ = k›, ‹v.sig = g›⟩])
   refine AC.skip (ib_n (th_n (AC.region ?_)));refine zA ?_;refine zm ?_;refine AL.nil (th_n ?_);exact ⟨j + 1, ⟨by omega, hnx (by rintro ⟨q1, q2⟩; exact absurd q2 (by assumption))⟩, by omega, Weak.ren _ [] hC rfl (by repeat (first | exact True.intro | refine And.intro ?_ ?_ | exact DLead.same)) (by repeat (exact True.intro)) rfl rfl rfl⟩
  refine zn ?_;refine zn ?_;refine zn ?_;refine zn ?_;refine zP ?_;refine AL.nil (th_n ?_);refine AC.condF rfl ?_;refine AC.skip (ib_n (th_n (AC.region ?_)));refine zA ?_;refine zm ?_;refine AL.nil (th_n ?_);exact ⟨j + 1, ⟨by omega, hnx (by rintro ⟨q1, q2⟩; exact absurd q1 (by assumption))⟩, by omega, Weak.ren _ [] hC rfl (by repeat (first | exact True.intro | refine And.intro ?_ ?_ | exact DLead.same)) (by repeat (exact True.intro)) rfl rfl rfl⟩
 refine AC.exit (th_e (th_e (ib_y (th_n (AC.seq (AC.region ?_))))));refine za ?_;refine AL.nil (th_n (AC.ret (bq_r ?_)));exact ret1 rfl (by rw [exc_no fun i hi => hall i hi (by omega)])
theorem en_l5Exc : Enters Tryz.prog 170 := enters_of Tryz.func170 rfl rfl
theorem ofI64 {a : Nat} (ha : a < 1048576) : (BitVec.ofInt IntKind.i64.bits (a : Int)).toNat = a := by
 show (BitVec.ofInt 64 (a : Int)).toNat = a;rw [BitVec.ofInt_natCast, BitVec.toNat_ofNat];exact Nat.mod_eq_of_lt (by omega)
theorem bits_or {a b : Nat} (ha : a < 1048576) (hb : b < 1048576) : bitsOf .i64 .or (a : Int) (b : Int) = some ((a ||| b : Nat) : Int) := by
 have h : a ||| b < 2 ^ 20 := Nat.or_lt_two_pow ha hb
 simp only [bitsOf, BitVec.toNat_or, ofI64 ha, ofI64 hb];exact congrArg some (wrap_i64 (by omega))
theorem bits_and {a b : Nat} (ha : a < 1048576) (hb : b < 1048576) : bitsOf .i64 .and (a : Int) (b : Int) = some ((a &&& b : Nat) : Int) := by
 have h : a &&& b < 2 ^ 20 := Nat.and_lt_two_pow a hb;simp only [bitsOf, BitVec.toNat_and, ofI64 ha, ofI64 hb];exact congrArg some (wrap_i64 (by omega))
theorem shr_nat {a e : Nat} (he : e < 64) : Int.fdiv (a : Int) (2 ^ (min ((e : Nat) : Int).toNat IntKind.i64.bits)) = ((a >>> e : Nat) : Int) := by
 rw [Int.toNat_natCast, show IntKind.i64.bits = 64 from rfl, Nat.min_eq_left (by omega), Nat.shiftRight_eq_div_pow, Int.natCast_ediv];have : ((2 ^ e : Nat) : Int) = (2 : Int) ^ e := by simp
 rw [this, Int.fdiv_eq_ediv_of_nonneg _ (Int.le_of_lt (Int.pow_pos (by decide)))]
theorem shl_nat {a e : Nat} (ha : a ≤ 2) (he : e ≤ 18) : IntKind.i64.wrap ((a : Int) * 2 ^ (min ((e : Nat) : Int).toNat IntKind.i64.bits)) = ((a * 2 ^ e : Nat) : Int) := by
 rw [Int.toNat_natCast, show IntKind.i64.bits = 64 from rfl, Nat.min_eq_left (by omega)];have h2 : 2 ^ e ≤ 2 ^ 18 := Nat.pow_le_pow_right (by decide) he;have h3 : a * 2 ^ e ≤ 2 * 2 ^ 18 := Nat.mul_le_mul ha h2;have : ((2 ^ e : Nat) : Int) = (2 : Int) ^ e := by simp
 rw [← this, ← Int.natCast_mul];exact wrap_i64 (by omega)
theorem low2 {m g : Nat} : ((m >>> g) &&& 3 = 0) ↔ (m.testBit g = false ∧ m.testBit (g + 1) = false) := by
 have h1 : (m >>> g) &&& 3 = (m >>> g) % 4 := Nat.and_two_pow_sub_one_eq_mod (m >>> g) 2;have h2 : m.testBit g = (m >>> g).testBit 0 := by rw [Nat.testBit_shiftRight]; rfl
 have h3 : m.testBit (g + 1) = (m >>> g).testBit 1 := by rw [Nat.testBit_shiftRight]
 rw [h1, h2, h3, Nat.testBit_succ, Nat.testBit_zero, Nat.testBit_zero];simp only [decide_eq_false_iff_not];omega
def labM (a : Ar) : Nat := 2 ^ (2 * a.sig.toNat + bif a.up then 1 else 0)
def mskS (k : Int) (m : Nat) (a : Ar) : Nat := if 0 ≤ a.sig ∧ a.from_ = k then m ||| labM a else m
def mskN (L : List Ar) (k : Int) : Nat := L.foldl (mskS k) 0
theorem mskN_snoc (L : List Ar) (a : Ar) (k : Int) : mskN (L ++ [a]) k = mskS k (mskN L k) a := by unfold mskN; rw [List.foldl_append]; rfl
theorem msk_bit (k : Int) (i : Nat) : ∀ (L : List Ar) (m : Nat), (L.foldl (mskS k) m).testBit i = (m.testBit i || L.any fun a => (decide (0 ≤ a.sig) && decide (a.from_ = k)) && decide (2 * a.sig.toNat + (bif a.up then 1 else 0) = i))
 | [], m => by simp
 | a :: L, m => by
  rw [List.foldl_cons, msk_bit k i L, List.any_cons, ← Bool.or_assoc];congr 1;unfold mskS labM
  split
  ·rename_i q;rw [Nat.testBit_or, Nat.testBit_two_pow]; simp [q.1, q.2]
  rename_i q
  by_cases h1 : 0 ≤ a.sig
  ·have h2 : ¬ a.from_ = k := fun h => q ⟨h1, h⟩
   simp [h2]
  simp [h1]
theorem labM_lt {a : Ar} (h : a.sig < 8) : labM a < 65536 := by
 unfold labM;have h1 : 2 * a.sig.toNat + (bif a.up then 1 else 0) ≤ 15 := by cases a.up <;> simp <;> omega
 have h2 : 2 ^ (2 * a.sig.toNat + (bif a.up then 1 else 0)) ≤ 2 ^ 15 := Nat.pow_le_pow_right (by decide) h1;omega
theorem mskS_lt {a : Ar} {k : Int} {m : Nat} (h : a.sig < 8) (hm : m < 65536) : mskS k m a < 65536 := by
 unfold mskS
 split
 ·exact Nat.or_lt_two_pow (n := 16) hm (labM_lt h)
 exact hm
theorem msk_lt (k : Int) : ∀ (L : List Ar) (m : Nat), (∀ a, a ∈ L → a.sig < 8) → m < 65536 → L.foldl (mskS k) m < 65536
 | [], m, _, hm => hm
 | a :: L, m, h, hm => by
  rw [List.foldl_cons];exact msk_lt k L _ (fun b hb => h b (List.mem_cons_of_mem _ hb)) (mskS_lt (h a (List.mem_cons_self ..)) hm)
theorem mskN_lt {L : List Ar} (h : ∀ a, a ∈ L → a.sig < 8) (k : Int) : mskN L k < 65536 := msk_lt k L 0 h (by decide)
theorem msk_exc (c : SG) (k : Int) (g : Nat) : ((mskN c.arcs k >>> (2 * g)) &&& 3 = 0) ↔ excB c k g = false := by
 rw [low2];unfold mskN;rw [msk_bit, msk_bit, Nat.zero_testBit, Nat.zero_testBit, Bool.false_or, Bool.false_or];unfold excB;simp only [List.any_eq_false, Bool.and_eq_true, decide_eq_true_eq];constructor
 ·rintro ⟨h1, h2⟩ a ha ⟨e1, e2⟩;cases hu : a.up with
  | false => exact h1 a ha ⟨⟨by omega, e1⟩, by rw [hu]; show 2 * a.sig.toNat + 0 = _; omega⟩
  | true => exact h2 a ha ⟨⟨by omega, e1⟩, by rw [hu]; show 2 * a.sig.toNat + 1 = _; omega⟩
 intro h;constructor
 ·rintro a ha ⟨⟨e0, e1⟩, e2⟩;refine h a ha ⟨e1, ?_⟩;cases hu : a.up with
  | false => rw [hu] at e2; simp only [cond_false] at e2; omega
  | true => rw [hu] at e2; simp only [cond_true] at e2; omega
 rintro a ha ⟨⟨e0, e1⟩, e2⟩;refine h a ha ⟨e1, ?_⟩;cases hu : a.up with
 | false => rw [hu] at e2; simp only [cond_false] at e2; omega
 | true => rw [hu] at e2; simp only [cond_true] at e2; omega
def arAt (L : List Ar) (i : Nat) : Ar := L.getD i ⟨0, 0, false, 0⟩
theorem arAt_nat {L : List Ar} {i : Nat} (h : i < L.length) : arAt L i = L[i] := by unfold arAt; rw [List.getD_eq_getElem?_getD, List.getElem?_eq_getElem h]; rfl
theorem arAt_get {L : List Ar} {i : Nat} (h : i < L.length) : (arL L)[i]? = some (arD (arAt L i)) := by rw [arAt_nat h]; exact arL_get h
def mskF (L : List Ar) (n : Nat) : List Int := (List.range n).map fun (k : Nat) => ((mskN L (k : Int) : Nat) : Int)
theorem mskF_len (L : List Ar) (n : Nat) : (mskF L n).length = n := by unfold mskF; simp
theorem mskF_get {L : List Ar} {n k : Nat} (h : k < n) : (ints (mskF L n))[k]? = some [dI ((mskN L (k : Int) : Nat) : Int)] := by
 unfold mskF;rw [List.getElem?_map, List.getElem?_map, List.getElem?_range h]; rfl
theorem mskF_zero (n : Nat) : mskF [] n = List.replicate n 0 := by
 refine List.ext_getElem? fun i => ?_
 unfold mskF;rw [List.getElem?_map, List.getElem?_replicate];rcases Nat.lt_or_ge i n with h | h
 ·rw [List.getElem?_range h, if_pos h]; rfl
 rw [List.getElem?_eq_none (by simpa using h), if_neg (by omega)]; rfl
theorem mskF_set {L : List Ar} {n f : Nat} {a : Ar} (hs : 0 ≤ a.sig) (hf : a.from_ = (f : Int)) : (mskF L n).set f (((mskN L (f : Int) ||| labM a) : Nat) : Int) = mskF (L ++ [a]) n := by
 refine List.ext_getElem? fun i => ?_
 unfold mskF;rw [List.getElem?_set]
 by_cases e : f = i
 ·subst e;rw [if_pos rfl];rcases Nat.lt_or_ge f n with h | h
  ·rw [if_pos (by simpa using h), List.getElem?_map, List.getElem?_range h];show some (((mskN L (f : Int) ||| labM a : Nat)) : Int) = some ((mskN (L ++ [a]) (f : Int) : Nat) : Int);rw [mskN_snoc];unfold mskS;rw [if_pos ⟨hs, hf⟩]
  rw [if_neg (by simpa using h), List.getElem?_eq_none (by simpa using h)]
 rw [if_neg e, List.getElem?_map, List.getElem?_map];rcases Nat.lt_or_ge i n with h | h
 ·rw [List.getElem?_range h];show some ((mskN L (i : Int) : Nat) : Int) = some ((mskN (L ++ [a]) (i : Int) : Nat) : Int);rw [mskN_snoc];unfold mskS;rw [if_neg (by rintro ⟨_, q⟩; omega)]
 rw [List.getElem?_eq_none (by simpa using h)]; rfl
theorem mskF_no {L : List Ar} {n : Nat} {a : Ar} (hs : ¬ 0 ≤ a.sig) : mskF (L ++ [a]) n = mskF L n := by
 unfold mskF;refine List.map_congr_left fun k _ => ?_
 rw [mskN_snoc];unfold mskS;rw [if_neg (fun q => hs q.1)]
theorem two_nat (g : Nat) : (2 : Int) * (g : Int) = ((2 * g : Nat) : Int) := by omega
theorem labMask_spec (a : Ar) (h0 : 0 ≤ a.sig) (h8 : a.sig < 8) : ASpec Tryz.prog 248 [.agg [aI a.sig, aT a.up]] [] (Pure1 (aI ((labM a : Nat) : Int))) := by
 have hl : labM a = 2 ^ (2 * a.sig.toNat + bif a.up then 1 else 0) := rfl;obtain ⟨g, hg⟩ : ∃ g, g = a.sig.toNat := ⟨_, rfl⟩;have hs : a.sig = (g : Int) := by omega
 rw [← hg] at hl;rw [hs];refine ASpec.of Tryz.func248 rfl rfl fun C hC => ?_
 refine AC.seq (AC.region ?_);refine AL.q (by exact h_boxF rfl rfl) rfl ?_;refine za ?_;refine AL.nil (th_n (AC.seq (AC.seq (AC.region ?_))));refine zf ?_;refine zr ?_;refine AL.nil (th_n ?_);refine AC.condB rfl (fun h0 => ?_) (fun h0 => ?_)
 ·refine AC.seq (AC.region ?_);refine zf ?_;refine zr ?_;refine zA ?_;refine AL.p (by exact g_shl (c := ((2 * 2 ^ (2 * g) : Nat) : Int)) rfl rfl (by omega) (by rw [two_nat]; exact shl_nat (a := 2) (by decide) (by omega))) rfl ?_;refine za ?_;refine AL.nil (th_n (AC.ret (th_r (bq_r ?_))));exact ret1 rfl (by rw [hl, ‹a.up = true›]; show dI _ = dI ((2 ^ (2 * g + 1) : Nat) : Int); rw [Nat.pow_succ, Nat.mul_comm])
 refine AC.skip (th_n (AC.seq (AC.region ?_)));refine zf ?_;refine zr ?_;refine zA ?_;refine AL.p (by exact g_shl (c := ((1 * 2 ^ (2 * g) : Nat) : Int)) rfl rfl (by omega) (by rw [two_nat]; exact shl_nat (a := 1) (by decide) (by omega))) rfl ?_;refine za ?_;refine AL.nil (th_n (AC.ret (bq_r ?_)));exact ret1 rfl (by rw [hl, ‹a.up = false›]; show dI _ = dI ((2 ^ (2 * g + 0) : Nat) : Int); rw [Nat.one_mul]; rfl)
theorem en_labMask : Enters Tryz.prog 248 := enters_of Tryz.func248 rfl rfl
set_option maxHeartbeats 4000000 in
theorem labMasks_spec (c : SG) (hn : c.codes.length ≤ 100000) (hl : c.arcs.length ≤ 1000000) (hin : ∀ a, a ∈ c.arcs → ArIn c.codes.length a) (hsg : ∀ a, a ∈ c.arcs → a.sig < 8) : ASpec Tryz.prog 209 [sgA c] [] (Pure1 (.d (vI (mskF c.arcs c.codes.length)))) := by
 obtain ⟨n, hnn⟩ : ∃ n, n = c.codes.length := ⟨_, rfl⟩;rw [← hnn] at hn hin ⊢;refine ASpec.of Tryz.func209 rfl rfl fun C hC => ?_
 refine AC.seq (AC.region ?_);refine AL.q (by exact h_boxF rfl rfl) rfl ?_;refine za ?_;refine AL.nil (th_n (AC.seq (AC.region ?_)));refine zf ?_;refine zr ?_;refine AL.p (by exact g_len_view (k := n) rfl rfl (by rw [hnn]; exact tsX_len _)) rfl ?_;refine AL.q (by exact h_make (k := n) rfl rfl rfl rfl rfl rfl rfl rfl (by show 8 * n ≤ _; omega) (by omega)) rfl ?_;refine AL.p (by exact as2 rfl) rfl ?_;refine AL.nil (th_n (AC.seq (AC.seq (AC.region ?_))));refine zf ?_;refine zr ?_;refine AL.p (by exact g_len_view (k := c.arcs.length) rfl rfl (arL_len _)) rfl ?_;refine zm ?_;refine AL.nil (th_n (AC.block ?_));refine AC.loop (ι := Nat) (fun j => ⟨35, 300, [(1, .d (.ref (sgD c))), (3, .own 100 n), (11, .d (vArs c.arcs)), (12, aI c.arcs.length), (13, aI j)], [(100, some (.arr 3 1 (ints (mskF (c.arcs.take j) n))))]⟩) (fun j => j ≤ c.arcs.length) (fun j => c.arcs.length - j) (0) ?_ (Nat.zero_le _) ?_
 ·exact zw [(100, _)] hC (b := by rw [List.take_zero, mskF_zero, ← repZ]; repeat (first | exact True.intro | refine And.intro ?_ ?_ | exact rfl | refine ⟨_, _, rfl, rfl, ?_⟩))
 intro j hj;refine AC.seq (AC.region ?_);refine zc ?_;refine AL.nil (th_n (AC.seq ?_));refine AC.condD rfl (fun h0 => ?_) (fun h0 => ?_)
 ·refine AC.skip (th_n (AC.seq (AC.block (AC.seq ?_))));have hj1 : j < c.arcs.length := by omega
  have hget := arL_get hj1;have hia := hin _ (List.getElem_mem hj1);unfold ArIn at hia;have hsa := hsg _ (List.getElem_mem hj1);have htk : c.arcs.take (j + 1) = c.arcs.take j ++ [c.arcs[j]] := by rw [List.take_add_one, List.getElem?_eq_getElem hj1]; rfl
  have hlt := fun k => mskN_lt (L := c.arcs.take j) (fun a ha => hsg a (List.mem_of_mem_take ha)) k
  obtain ⟨L, hL⟩ : ∃ L, L = c.arcs.take j := ⟨_, rfl⟩;rw [← hL] at htk hlt ⊢;obtain ⟨a, ha⟩ : ∃ a, a = c.arcs[j] := ⟨_, rfl⟩;rw [← ha] at hget hia hsa htk;obtain ⟨f, hf⟩ : ∃ f, f = a.from_.toNat := ⟨_, rfl⟩;have hfe : a.from_ = (f : Int) := by omega
  rw [hfe] at hget;have hfn : f < n := by omega
  have hno := @mskF_no L n a;have hse := fun q => @mskF_set L n f a q hfe
  have hrow := mskF_get (L := L) hfn;have hltf := hlt (f : Int);have hlm := labM_lt hsa;clear ha hL hf;have hLm := fun q => labMask_spec a q hsa
  refine AC.region ?_;refine AL.p (by exact g_ia_view rfl rfl rfl rfl rfl (by rfl) (by assumption)) rfl ?_;refine AL.p (by exact g_load_refN rfl rfl rfl rfl) rfl ?_;refine AL.q (by exact h_alloc rfl) rfl ?_;refine zs ?_;refine AL.nil (th_n (AC.seq (AC.region ?_)));refine zF ?_;refine zl ?_;refine zc ?_;refine AL.nil (th_n ?_);refine AC.condD rfl (fun h1 => ?_) (fun h1 => ?_)
  ·refine AC.drawn' mixed_ok [[], [], [1], [0,1,2], [0,1,2,3], [], [5], [], [7], [5,6,7,8], [5,6,7,8,9], [0,1,2,3,4,5,6,7,8,9,10], [0,1,2,3,4,5,6,7,8,9,10,11], [0,1,2,3,4,5,6,7,8,9,10,11,12]] (by decide) ?_;refine zd 0 [] 14 (by exact mv2 rfl) ?_;refine zd 1 [] 14 (by exact g_fa_ptr rfl rfl rfl rfl rfl) ?_;refine zd 2 [1] 14 (by exact g_load_ptr rfl rfl rfl rfl rfl) ?_;refine zd 3 [0,1,2] 14 (by exact g_ia_own (i := f) (l := n) rfl rfl rfl rfl rfl rfl hfn rfl) ?_;refine zd 4 [0,1,2,3] 14 (by exact g_load_arr1 rfl rfl rfl rfl (by rw [Nat.mul_one]; exact hrow)) ?_;refine zd 5 [] 14 (by exact g_fa_ptr rfl rfl rfl rfl rfl) ?_;refine zd 6 [5] 14 (by exact g_load_ptr rfl rfl rfl rfl rfl) ?_;refine zd 7 [] 14 (by exact g_fa_ptr rfl rfl rfl rfl rfl) ?_;refine zd 8 [7] 14 (by exact g_load_ptr rfl rfl rfl rfl rfl) ?_;refine zd 9 [5,6,7,8] 14 (by exact g_build rfl rfl rfl) ?_;refine zh 10 [5,6,7,8,9] 14 (by exact h_pure en_labMask rfl rfl (by repeat (first | exact rfl | exact DLead.same | refine ⟨_, _, rfl, ?_, ?_⟩ | refine ⟨_, rfl, ?_⟩)) (hLm (by assumption)) rfl) ?_;refine zd 11 (List.range 11) 14 (by exact g_bits rfl rfl (bits_or (by omega) (by omega))) ?_;refine zd 12 (List.range 12) 14 (by exact g_ia_own (i := f) (l := n) rfl rfl rfl rfl rfl rfl hfn rfl) ?_;refine zh 13 (List.range 13) 14 (by exact h_store_arr (i := f) (j := 0) (d := dI ((mskN L (f : Int) ||| labM a : Nat) : Int)) rfl rfl rfl rfl .same rfl hrow (by decide)) ?_;refine zj 14 ?_;refine ib_n (th_n (AC.region ?_));refine zA ?_;refine zm ?_;refine AL.nil (th_n ?_)
   (have q := ‹0 ≤ a.sig›; have e := hse q; exact ⟨j + 1, by omega, by omega, zw [(100, 100)] hC (b := by rw [htk, ← e, ints_set]; repeat (first | exact True.intro | refine And.intro ?_ ?_ | exact rfl | refine ⟨_, _, rfl, rfl, ?_⟩))⟩)
  refine AC.skip (ib_n (th_n (AC.region ?_)));refine zA ?_;refine zm ?_;refine AL.nil (th_n ?_)
  (have q : ¬ 0 ≤ a.sig := (by omega); have e := hno q; exact ⟨j + 1, by omega, by omega, zw [(100, 100)] hC (b := by rw [htk, e]; repeat (first | exact True.intro | refine And.intro ?_ ?_ | exact rfl | refine ⟨_, _, rfl, rfl, ?_⟩))⟩)
 refine AC.exit (th_e (th_e (ib_y (th_n (AC.seq ?_)))));have hjj : j = c.arcs.length := by omega
 rw [hjj, List.take_length];refine AC.weak (Weak.freeze (i := 3) rfl rfl (by rw [ints_len, mskF_len]; exact Nat.le_refl _) (List.take_of_length_le (by rw [ints_len, mskF_len]; exact Nat.le_refl _))) ?_;refine AC.region ?_;refine zm ?_;refine za ?_;refine AL.nil (th_n (AC.ret (bq_r ?_)));exact ret1 rfl rfl
theorem en_labMasks : Enters Tryz.prog 209 := enters_of Tryz.func209 rfl rfl
def fromE (L : List Ar) : List (Nat × Nat) := (List.range L.length).map fun j => ((arAt L j).from_.toNat, j)
theorem fromE_len (L : List Ar) : (fromE L).length = L.length := by unfold fromE; simp
theorem fromE_take {L : List Ar} {j : Nat} (h : j < L.length) : (fromE L).take (j + 1) = (fromE L).take j ++ [(L[j].from_.toNat, j)] := by
 rw [List.take_add_one, List.getElem?_eq_getElem (by rw [fromE_len]; exact h)];unfold fromE;rw [List.getElem_map, List.getElem_range, arAt_nat h]; rfl
theorem fromE_next (L : List Ar) (k : Nat) : nextL (fromE L) k = (List.range L.length).filter fun j => decide ((arAt L j).from_.toNat = k) := by
 unfold nextL fromE;rw [List.filter_map, List.map_map];have : ((fun x : Nat × Nat => x.2) ∘ fun j => ((arAt L j).from_.toNat, j)) = id := rfl;rw [this, List.map_id]; rfl
set_option maxHeartbeats 16000000 in
theorem nextArcs_spec (c : SG) (hn : c.codes.length ≤ 100000) (hl : c.arcs.length ≤ 1000000) (hin : ∀ a, a ∈ c.arcs → ArIn c.codes.length a) : ASpec Tryz.prog 226 [sgA c] [] (Pure1 (.d (.view 39 1 (nxtR (fromE c.arcs) c.codes.length)))) := by
 have hFl := fromE_len c.arcs;have hFt := fun j (hj : j < c.arcs.length) => fromE_take hj
 obtain ⟨E, hE⟩ : ∃ E, E = fromE c.arcs := ⟨_, rfl⟩;simp only [← hE] at hFl hFt ⊢;clear hE;obtain ⟨n, hnn⟩ : ∃ n, n = c.codes.length := ⟨_, rfl⟩;rw [← hnn] at hn hin ⊢;refine ASpec.of Tryz.func226 rfl rfl fun C hC => ?_
 refine AC.seq (AC.region ?_);refine AL.q (by exact h_boxF rfl rfl) rfl ?_;refine za ?_;refine AL.nil (th_n (AC.seq (AC.region ?_)));refine zf ?_;refine zr ?_;refine AL.p (by exact g_len_view (k := n) rfl rfl (by rw [hnn]; exact tsX_len _)) rfl ?_;refine AL.q (by exact h_make (k := n) rfl rfl rfl rfl rfl rfl rfl rfl (by show 24 * n ≤ _; omega) (by omega)) rfl ?_;refine AL.p (by exact as2 rfl) rfl ?_;refine AL.nil (th_n (AC.seq (AC.seq (AC.region ?_))));refine zf ?_;refine zr ?_;refine AL.p (by exact g_len_view (k := c.arcs.length) rfl rfl (arL_len _)) rfl ?_;refine zm ?_;refine AL.nil (th_n (AC.block ?_));refine AC.loop (ι := Nat × List Value × (Nat → Prop)) (fun x => ⟨32, 600, [(1, .d (.ref (sgD c))), (3, .own 101 n), (11, .d (vArs c.arcs)), (12, aI c.arcs.length), (13, aI x.1)], [(101, some (.arr 39 1 (rowsV 1 n x.2.1))), (102, some (.pred x.2.2 fun w => TL w x.2.2 (nxtD (E.take x.1) n) x.2.1))]⟩) (fun x => x.1 ≤ c.arcs.length ∧ x.2.1.length = n) (fun x => c.arcs.length - x.1) ((0, List.replicate n (.slice none 0 0), fun _ => False)) ?_ (⟨Nat.zero_le _, by simp⟩) ?_
 ·exact (Weak.nilsT 3 1 n).trans (zw [(101, 8), (102, 16)] hC (b := by dsimp only; rw [rows1_rep, List.take_zero, nxtD_nil]; repeat (first | exact True.intro | refine And.intro ?_ ?_ | exact rfl | refine ⟨_, _, rfl, rfl, ?_⟩)))
 rintro ⟨j, V, S⟩ ⟨hj, hV⟩;dsimp only at hj hV ⊢;refine AC.seq (AC.region ?_);refine zc ?_;refine AL.nil (th_n (AC.seq ?_));refine AC.condD rfl (fun h0 => ?_) (fun h0 => ?_)
 ·refine AC.skip (th_n (AC.seq (AC.block (AC.seq ?_))));have hj1 : j < c.arcs.length := by omega
  have hget := arL_get hj1;have hia := hin _ (List.getElem_mem hj1);unfold ArIn at hia;have htk := hFt j hj1;obtain ⟨a, ha⟩ : ∃ a, a = c.arcs[j] := ⟨_, rfl⟩;rw [← ha] at hget hia htk;clear ha;obtain ⟨f, hf⟩ : ∃ f, f = a.from_.toNat := ⟨_, rfl⟩;have hfe : a.from_ = (f : Int) := by omega
  rw [hfe] at hget;rw [← hf] at htk;have hfn : f < n := by omega
  clear hf;refine AC.region ?_;refine zm ?_;refine AL.p (by exact g_ia_view rfl rfl rfl rfl rfl (by rfl) (by assumption)) rfl ?_;refine AL.p (by exact g_load_refN rfl rfl rfl rfl) rfl ?_;refine AL.q (by exact h_alloc rfl) rfl ?_;refine za ?_;refine zs ?_;refine AL.nil (th_n ?_);refine AC.weak (t := ⟨32, 700, [(1, .d (.ref (sgD c))), (3, .own 101 n), (4, aI j), (5, .ptr 103 0), (11, .d (vArs c.arcs)), (12, aI c.arcs.length), (13, aI j)], [(101, some (.arr 39 1 (rowsV 1 n V))), (102, some (.pred S fun w => TL w S (nxtD (E.take j) n) V)), (103, some (.cells 75 [aI f, aI a.sig, aT a.up, aI a.to_]))]⟩) (zw [(101, 101), (102, 102), (103, _)] hC) ?_;obtain ⟨v, hv⟩ : ∃ v, V[f]? = some v := ⟨_, List.getElem?_eq_getElem (by omega)⟩;have hrow0 := rows1_get hfn hv;refine AC.weakR (WeakR.splitT 102 f (L := nxtD (E.take j) n) (V := V) (d := vI (nI (nextL (E.take j) f))) (v := v) rfl (fun w h => h) (nxtD_get hfn) hv rfl) ?_;rintro _ ⟨S1, S2, hS, rfl⟩;refine AC.weakR (WeakR.openC 700 (e := 3) (sz := 1) (els := ints (nI (nextL (E.take j) f))) (v := v) rfl (fun w h => h) rfl rfl) ?_;rintro _ ⟨p, V', S', ⟨hv', hp, hVl, hrow, hSS, hx⟩, rfl⟩;rw [rows1_ints hVl hx];have hll := nextL_len (E.take j) f;rw [List.length_take] at hll;rw [ints_len] at hv' hp;have hDs := nxtD_snoc (E := E.take j) (n := n) (f := f) (t := j);rw [← htk] at hDs;have hDl := nxtD_len (E.take j) n;obtain ⟨l, hl⟩ : ∃ l, l = nI (nextL (E.take j) f) := ⟨_, rfl⟩;have hnl : l.length ≤ j := by rw [hl, nI_len]; omega
  rw [← hl] at hv' hp hDs ⊢;clear hl hVl hrow hx hSS;refine AC.drawnE mixed_ok [[], [], [1], [], [], [4], [3,4,5], [3,4,5,6], [], [8], [3,4,5,6,7,8,9], [0,1,2,3,4,5,6,7,8,9,10], [0,1,2,3,4,5,6,7,8,9,10,11]] (by decide) ?_;refine DE.op 0 [] 13 rfl rfl rfl (.free rfl (NOp.of (by exact mv2 rfl))) rfl ?_;refine DE.op 1 [] 13 rfl rfl rfl (.free rfl (NOp.of (by exact g_fa_ptr rfl rfl rfl rfl rfl))) rfl ?_;refine DE.op 2 [1] 13 rfl rfl rfl (.free rfl (NOp.of (by exact g_load_ptr rfl rfl rfl rfl rfl))) rfl ?_;refine DE.op 3 [] 13 rfl rfl rfl (.free rfl (NOp.of (by exact mv2 rfl))) rfl ?_;refine DE.op 4 [] 13 rfl rfl rfl (.free rfl (NOp.of (by exact g_fa_ptr rfl rfl rfl rfl rfl))) rfl ?_;refine DE.op 5 [4] 13 rfl rfl rfl (.free rfl (NOp.of (by exact g_load_ptr rfl rfl rfl rfl rfl))) rfl ?_;refine DE.op 6 [3,4,5] 13 rfl rfl rfl (.free rfl (NOp.of (by exact g_ia_own (i := f) (l := n) rfl rfl rfl rfl rfl rfl hfn rfl))) rfl ?_;refine DE.op 7 [3,4,5,6] 13 rfl rfl rfl (.free rfl (NOp.of (by exact g_load_lock (il := 709) (ia := 708) (p := p) (i := f) (j := 0) rfl rfl rfl rfl rfl hrow0 rfl rfl hv' hp))) rfl ?_;refine DE.op 8 [] 13 rfl rfl rfl (.free rfl (NOp.of (by exact mv1 rfl))) rfl ?_;refine DE.op 9 [8] 13 rfl rfl rfl (.free rfl (by exact h_litF rfl rfl rfl rfl rfl rfl rfl rfl)) rfl ?_;refine DE.op 10 [3,4,5,6,7,8,9] 13 rfl rfl rfl (.free rfl (by exact h_appendI l [(j : Int)] (.own rfl rfl (ints_len _).symm) (.view rfl) (by rw [List.length_append]; simp only [List.length_cons, List.length_nil]; omega) (by simp))) rfl ?_;refine DE.op 11 [0,1,2,3,4,5,6,7,8,9,10] 13 rfl rfl rfl (.free rfl (NOp.of (by exact g_ia_own (i := f) (l := n) rfl rfl rfl rfl rfl rfl hfn rfl))) rfl ?_;refine DE.opX 12 [0,1,2,3,4,5,6,7,8,9,10,11] 13 ((Value.int .i64 0, fun _ => False)) rfl rfl rfl rfl (h_storeRaw (i := f) (j := 0) rfl rfl rfl rfl rfl rfl (Nat.le_of_eq (ints_len _).symm) (List.take_of_length_le (Nat.le_of_eq (ints_len _))) (ints_fl _) rfl hrow0 (by decide) rfl) rfl (by decide) ?_;rintro ⟨v2, S3⟩;refine DE.fin (ps := [(0,1),(0,2),(0,3),(0,4),(0,5),(0,6),(0,7),(0,8),(0,9),(0,10),(1,0),(1,3),(1,4),(1,5),(1,6),(1,7),(1,8),(1,9),(1,10),(2,0),(2,3),(2,4),(2,5),(2,6),(2,7),(2,8),(2,9),(2,10),(3,0),(3,1),(3,2),(3,4),(3,5),(3,8),(3,9),(4,0),(4,1),(4,2),(4,3),(4,8),(4,9),(5,0),(5,1),(5,2),(5,3),(5,8),(5,9),(6,0),(6,1),(6,2),(6,8),(6,9),(7,0),(7,1),(7,2),(7,8),(7,9),(8,0),(8,1),(8,2),(8,3),(8,4),(8,5),(8,6),(8,7),(9,0),(9,1),(9,2),(9,3),(9,4),(9,5),(9,6),(9,7),(10,0),(10,1),(10,2)]) 13 rfl rfl (by decide +kernel) (by decide +kernel) (by rfl) ?_;refine ib_n (th_n (AC.region ?_));refine zA ?_;refine zm ?_;refine AL.nil (th_n ?_);have hsv := rows1_set (v := v2) hV hfn;exact ⟨(j + 1, V.set f v2, fun k => S2 k ∨ S3 k), ⟨hj1, by rw [List.length_set]; exact hV⟩, by dsimp only; omega, (Weak.cons 102 (fun w => TX w S2 f (nxtD (E.take j) n) (V.set f v2)) rfl (fun w h => h.setV v2) (fun w w' hk h => h.turn hk)).trans ((Weak.joinT 102 812 f (S := fun k => S2 k ∨ S3 k) rfl rfl (fun w h => h) (fun k => Iff.rfl) (by rw [hDl]; exact hfn) (by rw [List.getElem?_set_self (by omega)]) rfl).trans (zw [(101, 101), (102, 102)] hC (b := by rw [hDs, ← hsv]; repeat (first | exact True.intro | refine And.intro ?_ ?_ | exact rfl | refine ⟨_, _, rfl, rfl, ?_⟩))))⟩
 refine AC.exit (th_e (th_e (ib_y (th_n (AC.seq ?_)))));have hjj : j = E.length := by omega
 rw [hjj, List.take_length];refine AC.weakR (WeakR.closeN (els := nxtR E n) (V := V) 3 102 101 rfl (by simp) rfl (fun w h => by rw [nxtR_flat]; exact h) rfl (by simp) (nxtR_row E n) rfl) ?_;rintro _ ⟨v0, S0, rfl⟩;refine AC.weak (Weak.thaw 3 102 (x := .view 39 1 (nxtR E n)) rfl rfl (fun w h => h)) ?_;refine AC.region ?_;refine zm ?_;refine za ?_;refine AL.nil (th_n (AC.ret (bq_r ?_)));exact ret1 rfl rfl
theorem en_nextArcs : Enters Tryz.prog 226 := enters_of Tryz.func226 rfl rfl
def ownS (s : List Sig) (g : Int) : Bool := if g < 0 then true else !decide ((sAt s g.toNat).kind = 1)
theorem isInput_spec (c : SG) (g : Int) (hg : g < c.sigs.length) : ASpec Tryz.prog 227 [sgA c, aI g] [] (Pure1 (aT (!ownS c.sigs g))) := by
 have hI : ¬ g < 0 → g = ((g.toNat : Nat) : Int) := by omega
 have hget : ¬ g < 0 → (sigsL c.sigs)[g.toNat]? = some (sigD (sAt c.sigs g.toNat)) := by intro h; have h2 : g.toNat < c.sigs.length := by { omega }; rw [sAt_nat h2]; exact sigsL_get h2
 have hR : ownS c.sigs g = if g < 0 then true else !decide ((sAt c.sigs g.toNat).kind = 1) := rfl
 obtain ⟨R, hRR⟩ : ∃ R, R = ownS c.sigs g := ⟨_, rfl⟩;rw [← hRR] at hR ⊢;clear hRR;refine ASpec.of Tryz.func227 rfl rfl fun C hC => ?_
 refine AC.seq (AC.region ?_);refine AL.q (by exact h_boxF rfl rfl) rfl ?_;refine za ?_;refine AL.nil (th_n (AC.seq (AC.region ?_)));refine zm ?_;refine zc ?_;refine zm ?_;refine AL.caseG rfl rfl (fun h0 => ?_) (fun h0 => ?_)
 ·refine zy ?_;have hI1 := hI (by omega);have hget1 := hget (by omega);refine zf ?_;refine zy ?_;refine zr ?_;refine zy ?_;refine zm ?_;refine zy ?_;refine AL.p (by exact g_ia_view rfl rfl rfl rfl rfl (by assumption) (by assumption)) rfl ?_;refine zy ?_;refine zf ?_;refine zy ?_;refine zr ?_;refine zy ?_;refine zc ?_;refine zQ ?_;refine za ?_;refine AL.nil (th_n (AC.ret (bq_r ?_)));exact ret1 rfl (by rw [hR, if_neg (by omega), Bool.not_not])
 refine zn ?_;refine zn ?_;refine zn ?_;refine zn ?_;refine zn ?_;refine zn ?_;refine zn ?_;refine zP ?_;refine za ?_;refine AL.nil (th_n (AC.ret (bq_r ?_)))
 (have q := ‹¬ 0 ≤ g›; exact ret1 rfl (by rw [hR, if_pos (by omega)]; rfl))
theorem en_isInput : Enters Tryz.prog 227 := enters_of Tryz.func227 rfl rfl
theorem l6Own_spec (c : SG) (g : Int) (hg : g < c.sigs.length) : ASpec Tryz.prog 228 [sgA c, aI g] [] (Pure1 (aT (ownS c.sigs g))) := by
 have hI : ¬ g < 0 → g = ((g.toNat : Nat) : Int) := by omega
 have hget : ¬ g < 0 → (sigsL c.sigs)[g.toNat]? = some (sigD (sAt c.sigs g.toNat)) := by intro h; have h2 : g.toNat < c.sigs.length := by { omega }; rw [sAt_nat h2]; exact sigsL_get h2
 have hR : ownS c.sigs g = if g < 0 then true else !decide ((sAt c.sigs g.toNat).kind = 1) := rfl
 obtain ⟨R, hRR⟩ : ∃ R, R = ownS c.sigs g := ⟨_, rfl⟩;rw [← hRR] at hR ⊢;clear hRR;refine ASpec.of Tryz.func228 rfl rfl fun C hC => ?_
 refine AC.seq (AC.region ?_);refine AL.q (by exact h_boxF rfl rfl) rfl ?_;refine za ?_;refine AL.nil (th_n (AC.seq (AC.region ?_)));refine zm ?_;refine zc ?_;refine zm ?_;refine AL.caseG rfl rfl (fun h0 => ?_) (fun h0 => ?_)
 ·refine zn ?_;refine zn ?_;refine zn ?_;refine zn ?_;refine zn ?_;refine zn ?_;refine zn ?_;refine zQ ?_;refine za ?_;refine AL.nil (th_n (AC.ret (bq_r ?_)))
  (have q := ‹g < 0›; exact ret1 rfl (by rw [hR, if_pos (by omega)]))
 refine zy ?_;have hI1 := hI (by omega);have hget1 := hget (by omega);refine zf ?_;refine zy ?_;refine zr ?_;refine zy ?_;refine zm ?_;refine zy ?_;refine AL.p (by exact g_ia_view rfl rfl rfl rfl rfl (by assumption) (by assumption)) rfl ?_;refine zy ?_;refine zf ?_;refine zy ?_;refine zr ?_;refine zy ?_;refine zc ?_;refine zP ?_;refine za ?_;refine AL.nil (th_n (AC.ret (bq_r ?_)));exact ret1 rfl (by rw [hR, if_neg (by omega)])
theorem en_l6Own : Enters Tryz.prog 228 := enters_of Tryz.func228 rfl rfl
def ownL (s : List Sig) (n : Nat) : List Int := nI ((List.range n).filter fun i => ownS s (i : Int))
theorem ownL_succ (s : List Sig) (n : Nat) : ownL s (n + 1) = ownL s n ++ (if ownS s (n : Int) = true then [(n : Int)] else []) := by
 unfold ownL nI;rw [List.range_succ, List.filter_append, List.map_append];congr 1
 by_cases h : ownS s (n : Int) = true <;> simp [h]
theorem ownL_len (s : List Sig) (n : Nat) : (ownL s n).length ≤ n := by
 unfold ownL;rw [nI_len];have := List.length_filter_le (fun i => ownS s ((i : Nat) : Int)) (List.range n)
 rwa [List.length_range] at this
theorem ownS_nat (s : List Sig) {i : Nat} (h : i < s.length) : ownS s (i : Int) = !decide (s[i].kind = 1) := by
 unfold ownS;rw [if_neg (by omega), Int.toNat_natCast, sAt_nat h]
set_option maxHeartbeats 2000000 in
theorem outputs_spec (c : SG) (hl : c.sigs.length ≤ 1000000) : ASpec Tryz.prog 175 [sgA c] [] (Pure1 (.d (vI (ownL c.sigs c.sigs.length)))) := by
 have hS := ownL_succ c.sigs;have hLl := ownL_len c.sigs;refine ASpec.of Tryz.func175 rfl rfl fun C hC => ?_
 refine AC.seq (AC.region ?_);refine AL.q (by exact h_boxF rfl rfl) rfl ?_;refine za ?_;refine AL.nil (th_n (AC.seq (AC.region ?_)));refine AL.q (by exact h_lit rfl rfl rfl rfl rfl rfl rfl rfl) rfl ?_;refine AL.p (by exact as2 rfl) rfl ?_;refine AL.nil (th_n (AC.seq (AC.seq (AC.region ?_))));refine zf ?_;refine zr ?_;refine AL.p (by exact g_len_view (k := c.sigs.length) rfl rfl (List.length_map _)) rfl ?_;refine zm ?_;refine AL.nil (th_n (AC.block ?_));refine AC.loop (ι := Nat) (fun k => ⟨24, 300, [(1, .d (.ref (sgD c))), (3, .own 100 (ownL c.sigs k).length), (8, .d (vSigs c.sigs)), (9, aI c.sigs.length), (10, aI k)], [(100, some (.arr 3 1 (ints (ownL c.sigs k))))]⟩) (fun k => k ≤ c.sigs.length) (fun k => c.sigs.length - k) (0) ?_ (Nat.zero_le _) ?_
 ·exact zw [(100, _)] hC
 intro k hk;refine AC.seq (AC.region ?_);refine zc ?_;refine AL.nil (th_n (AC.seq ?_));refine AC.condD rfl (fun h0 => ?_) (fun h0 => ?_)
 ·refine AC.skip (th_n (AC.seq (AC.block (AC.seq ?_))));have hk1 : k < c.sigs.length := by omega
  have hget := sigsL_get hk1;have hSk := hS k;have hO := ownS_nat c.sigs hk1;rw [hO] at hSk;have hl2 := hLl k;obtain ⟨x, hx⟩ : ∃ x, x = c.sigs[k] := ⟨_, rfl⟩;rw [← hx] at hget hSk;clear hx hO;refine AC.region ?_;refine zm ?_;refine AL.p (by exact g_ia_view rfl rfl rfl rfl rfl (by rfl) (by assumption)) rfl ?_;refine AL.p (by exact g_load_refN rfl rfl rfl rfl) rfl ?_;refine AL.q (by exact h_alloc rfl) rfl ?_;refine za ?_;refine zs ?_;refine AL.nil (th_n (AC.seq (AC.region ?_)));refine zF ?_;refine zl ?_;refine zc ?_;refine AL.nil (th_n ?_);refine AC.condND rfl (fun h1 => ?_) (fun h1 => ?_)
  ·refine AC.region ?_;refine AL.p (by exact mv2 rfl) rfl ?_;refine zm ?_;refine AL.q (by exact h_litF rfl rfl rfl rfl rfl rfl rfl rfl) rfl ?_;refine AL.q (by exact h_appendI (ownL c.sigs k) [(k : Int)] (.own rfl rfl (ints_len _).symm) (.view rfl) (by rw [List.length_append]; simp only [List.length_cons, List.length_nil]; omega) (by simp)) rfl ?_;refine AL.p (by exact as2 rfl) rfl ?_;refine AL.nil (ib_n (th_n (AC.region ?_)));refine zA ?_;refine zm ?_;refine AL.nil (th_n ?_)
   (have q := ‹¬ x.kind = 1›; rw [decide_eq_false q, Bool.not_false, if_pos rfl] at hSk; exact ⟨k + 1, by omega, by omega, zw [(100, _)] hC (by rw [hSk]; repeat (first | exact True.intro | refine And.intro ?_ ?_ | exact DLead.same | exact rfl | refine ⟨_, rfl, ?_⟩)) (by rw [hSk]; repeat (first | exact True.intro | refine And.intro ?_ ?_ | exact rfl | refine ⟨_, _, rfl, rfl, ?_⟩))⟩)
  refine AC.skip (ib_n (th_n (AC.region ?_)));refine zA ?_;refine zm ?_;refine AL.nil (th_n ?_)
  (have q := ‹x.kind = 1›; rw [decide_eq_true q, Bool.not_true, if_neg (by decide), List.append_nil] at hSk; exact ⟨k + 1, by omega, by omega, zw [(100, 100)] hC (by rw [hSk]; repeat (first | exact True.intro | refine And.intro ?_ ?_ | exact DLead.same | exact rfl | refine ⟨_, rfl, ?_⟩)) (by rw [hSk]; repeat (first | exact True.intro | refine And.intro ?_ ?_ | exact rfl | refine ⟨_, _, rfl, rfl, ?_⟩))⟩)
 refine AC.exit (th_e (th_e (ib_y (th_n (AC.seq ?_)))));have hkk : k = c.sigs.length := by omega
 rw [hkk];refine AC.weak (Weak.freeze (i := 3) rfl rfl (Nat.le_of_eq (ints_len _).symm) (List.take_of_length_le (Nat.le_of_eq (ints_len _)))) ?_;refine AC.region ?_;refine zm ?_;refine za ?_;refine AL.nil (th_n (AC.ret (bq_r ?_)));exact ret1 rfl rfl
theorem en_outputs : Enters Tryz.prog 175 := enters_of Tryz.func175 rfl rfl
set_option maxHeartbeats 2000000 in
theorem l6Owned_spec (c : SG) (hl : c.sigs.length ≤ 1000000) : ASpec Tryz.prog 176 [sgA c] [] (Pure1 (.d (vI (ownL c.sigs c.sigs.length)))) := by
 have hS := ownL_succ c.sigs;have hLl := ownL_len c.sigs;refine ASpec.of Tryz.func176 rfl rfl fun C hC => ?_
 refine AC.seq (AC.region ?_);refine AL.q (by exact h_boxF rfl rfl) rfl ?_;refine za ?_;refine AL.nil (th_n (AC.seq (AC.region ?_)));refine za ?_;refine AL.nil (th_n (AC.seq (AC.seq (AC.region ?_))));refine zf ?_;refine zr ?_;refine AL.p (by exact g_len_view (k := c.sigs.length) rfl rfl (List.length_map _)) rfl ?_;refine zm ?_;refine AL.nil (th_n (AC.block ?_));refine AC.loop (ι := Nat) (fun k => ⟨20, 300, [(1, .d (.ref (sgD c))), (3, .own 100 (ownL c.sigs k).length), (7, aI c.sigs.length), (8, aI k)], [(100, some (.arr 3 1 (ints (ownL c.sigs k))))]⟩) (fun k => k ≤ c.sigs.length) (fun k => c.sigs.length - k) (0) ?_ (Nat.zero_le _) ?_
 ·exact (Weak.nilOwn (i := 3) (e := 3) (sz := 1) rfl (by decide)).trans (zw [(100, _)] hC)
 intro k hk;refine AC.seq (AC.region ?_);refine zc ?_;refine AL.nil (th_n (AC.seq ?_));refine AC.condD rfl (fun h0 => ?_) (fun h0 => ?_)
 ·refine AC.skip (th_n (AC.seq (AC.block (AC.seq ?_))));have hk1 : k < c.sigs.length := by omega
  have hSk := hS k;have hO := l6Own_spec c (k : Int) (by omega);have hl2 := hLl k;obtain ⟨b, hb⟩ : ∃ b, b = ownS c.sigs (k : Int) := ⟨_, rfl⟩;rw [← hb] at hO hSk;clear hb;refine AC.region ?_;refine zm ?_;refine za ?_;refine AL.nil (th_n (AC.seq (AC.region ?_)));refine AL.p (by exact g_load_refN rfl rfl rfl rfl) rfl ?_;refine zm ?_;refine AL.q (by exact h_pure en_l6Own rfl rfl (by repeat (first | exact rfl | exact DLead.same | refine ⟨_, _, rfl, ?_, ?_⟩ | refine ⟨_, rfl, ?_⟩)) hO rfl) rfl ?_;refine AL.nil (th_n ?_);refine AC.condB rfl (fun h1 => ?_) (fun h1 => ?_)
  ·refine AC.region ?_;refine AL.p (by exact mv2 rfl) rfl ?_;refine zm ?_;refine AL.q (by exact h_litF rfl rfl rfl rfl rfl rfl rfl rfl) rfl ?_;refine AL.q (by exact h_appendI (ownL c.sigs k) [(k : Int)] (.own rfl rfl (ints_len _).symm) (.view rfl) (by rw [List.length_append]; simp only [List.length_cons, List.length_nil]; omega) (by simp)) rfl ?_;refine AL.p (by exact as2 rfl) rfl ?_;refine AL.nil (ib_n (th_n (AC.region ?_)));refine zA ?_;refine zm ?_;refine AL.nil (th_n ?_)
   (have q := ‹b = true›; rw [if_pos q] at hSk; exact ⟨k + 1, by omega, by omega, zw [(100, _)] hC (by rw [hSk]; repeat (first | exact True.intro | refine And.intro ?_ ?_ | exact DLead.same | exact rfl | refine ⟨_, rfl, ?_⟩)) (by rw [hSk]; repeat (first | exact True.intro | refine And.intro ?_ ?_ | exact rfl | refine ⟨_, _, rfl, rfl, ?_⟩))⟩)
  refine AC.skip (ib_n (th_n (AC.region ?_)));refine zA ?_;refine zm ?_;refine AL.nil (th_n ?_)
  (have q := ‹b = false›; rw [q, if_neg (by decide), List.append_nil] at hSk; exact ⟨k + 1, by omega, by omega, zw [(100, 100)] hC (by rw [hSk]; repeat (first | exact True.intro | refine And.intro ?_ ?_ | exact DLead.same | exact rfl | refine ⟨_, rfl, ?_⟩)) (by rw [hSk]; repeat (first | exact True.intro | refine And.intro ?_ ?_ | exact rfl | refine ⟨_, _, rfl, rfl, ?_⟩))⟩)
 refine AC.exit (th_e (th_e (ib_y (th_n (AC.seq ?_)))));have hkk : k = c.sigs.length := by omega
 rw [hkk];refine AC.weak (Weak.freeze (i := 3) rfl rfl (Nat.le_of_eq (ints_len _).symm) (List.take_of_length_le (Nat.le_of_eq (ints_len _)))) ?_;refine AC.region ?_;refine zm ?_;refine za ?_;refine AL.nil (th_n (AC.ret (bq_r ?_)));exact ret1 rfl rfl
theorem en_l6Owned : Enters Tryz.prog 176 := enters_of Tryz.func176 rfl rfl
theorem validC_at {c : SG} (h : validC c = true) : (1 ≤ c.codes.length ∧ c.codes.length ≤ 300) ∧ c.arcs.length ≤ 4000 ∧ (∀ a, a ∈ c.arcs → ArIn c.codes.length a) ∧ ∀ v, v < c.codes.length → 0 ≤ oa (distF (arcE c.arcs) c.codes.length 0) v := by
 unfold validC at h;simp only [Bool.and_eq_true, decide_eq_true_eq, List.all_eq_true] at h;obtain ⟨⟨⟨⟨⟨_, h2⟩, h3⟩, _⟩, h5⟩, h6⟩ := h;refine ⟨by omega, h3, fun a ha => arcG_in (h5 a ha), fun v hv => ?_⟩;unfold allU at h6;have := List.all_eq_true.1 h6 v (List.mem_range.2 hv);exact of_decide_eq_true this
inductive Chn (L : List Ar) : List Ar → Nat → Prop
 | nil : Chn L [] 0
 | snoc {p : List Ar} {f : Nat} {a : Ar} {v : Nat} : Chn L p f → a ∈ L → a.from_ = (f : Int) → a.to_ = (v : Int) → Chn L (p ++ [a]) v
def atP (p : List Ar) (j : Nat) : Int := match j with | 0 => 0 | j + 1 => (arAt p j).to_
theorem Chn.facts {L p : List Ar} {v : Nat} (h : Chn L p v) : (∀ j (hj : j < p.length), p[j] ∈ L ∧ p[j].from_ = atP p j) ∧ atP p p.length = (v : Int) := by
 induction h with
 | nil => exact ⟨fun j hj => by simp at hj, rfl⟩
 | snoc h ha hf ht ih =>
  rename_i p f a v;obtain ⟨h1, h2⟩ := ih
  have hat : ∀ j, j ≤ p.length → atP (p ++ [a]) j = atP p j := by
   intro j hj;cases j with
   | zero => rfl
   | succ j => show (arAt (p ++ [a]) j).to_ = (arAt p j).to_; rw [arAt_nat (by simp; omega), arAt_nat (by omega), List.getElem_append_left (by omega)]
  refine ⟨fun j hj => ?_, ?_⟩
  ·rw [List.length_append] at hj;simp only [List.length_cons, List.length_nil] at hj;rw [hat j (by omega)];rcases Nat.lt_or_ge j p.length with g | g
   ·have := h1 j g;rw [List.getElem_append_left g];exact ⟨this.1, this.2⟩
   obtain rfl : j = p.length := by omega
   rw [List.getElem_concat_length rfl, h2];exact ⟨ha, hf⟩
  rw [List.length_append];show (arAt (p ++ [a]) p.length).to_ = _;rw [arAt_nat (by simp), List.getElem_concat_length rfl, ht]
theorem validC_arc {c : SG} (h : validC c = true) {a : Ar} (ha : a ∈ c.arcs) : ((0 ≤ a.from_ ∧ a.from_ < c.codes.length) ∧ 0 ≤ a.to_ ∧ a.to_ < c.codes.length) ∧ labOk ⟨a.sig, a.up⟩ c.sigs.length = true ∧ fitS a (cAtS c a.from_.toNat) (cAtS c a.to_.toNat) = true := by
 obtain ⟨_, _, hin, _⟩ := validC_at h;unfold validC at h;simp only [Bool.and_eq_true, List.all_eq_true] at h;obtain ⟨⟨_, h5⟩, _⟩ := h;have := h5 a ha;unfold arcG at this;simp only [Bool.and_eq_true] at this;exact ⟨hin a ha, this.1.2, this.2⟩
structure SigOk (s : List Sig) : Prop where
 l : 1 ≤ s.length ∧ s.length ≤ 8
 n : ∀ x, x ∈ s → 1 ≤ x.name.length ∧ x.name.length ≤ 6
theorem SigOk.of {s : List Sig} (h : sigsB s = true) : SigOk s := by
 unfold sigsB at h;rw [Bool.and_eq_true] at h;have hl := inI_iff.1 h.2;refine ⟨by omega, fun x hx => ?_⟩;obtain ⟨j, hj, rfl⟩ := List.getElem_of_mem hx;have := allK_iff.1 h.1 j hj;unfold sigK at this;rw [sAt_nat hj, Bool.and_eq_true] at this;have h1 := this.1;unfold nameB at h1;rw [Bool.and_eq_true] at h1;have := inI_iff.1 h1.2;omega
theorem sig_names {c : SG} (h : validC c = true) : (1 ≤ c.sigs.length ∧ c.sigs.length ≤ 8) ∧ ∀ t, t ∈ c.sigs → t.name.length ≤ 1000 := by
 unfold validC at h;simp only [Bool.and_eq_true] at h;have hs := SigOk.of h.1.1.1.1.1;exact ⟨hs.l, fun t ht => by have := hs.n t ht; omega⟩
theorem arc_sig {c : SG} (h : validC c = true) {a : Ar} (ha : a ∈ c.arcs) : a.sig < c.sigs.length ∧ a.sig < 8 ∧ -1 ≤ a.sig := by
 have := (validC_arc h ha).2.1;have h8 := (sig_names h).1;unfold labOk at this;simp only [Bool.or_eq_true, Bool.and_eq_true, decide_eq_true_eq] at this;omega
end Go.Proofs.YthafkkgmekgmoaaGreat
