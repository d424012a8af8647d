/- Contracts of the functions of the program and of the reference, each proved by a walk through its code. -/
import Derived.Test.YtbofmbjefbpnaaaGreatGRa10
set_option linter.all false
set_option maxRecDepth 20000
namespace Go.Proofs.YtbofmbjefbpnaaaGreat
open Go.RowKit
theorem iDisA_spec (c : SG) (g : Int) (hc : SgL c) : ASpec Tryz.prog 32 [sgA c, aI g] [] (Pure1 (.tup [.d (vI (disR c g).1), aT (disR c g).2])) := by
 have hH := hasSignal_spec c g hc;have hD := fun (h : sigQ c g = true) => disabling_spec c g.toNat (sigQ_of h).1 (by have := (sigQ_of h).2; omega)
 have hI : sigQ c g = true → ((g.toNat : Nat) : Int) = g := fun h => Int.toNat_of_nonneg (sigQ_of h).2.1
 have hR : disR c g = if sigQ c g = true then (disL c g.toNat c.arcs.length, true) else ([], false) := rfl
 obtain ⟨b, e⟩ := eqx (sigQ c g);rw [← e] at hH hR hD hI;obtain ⟨R, hRR⟩ := eqx (disR c g);rw [← hRR] at hR ⊢;obtain ⟨L, hL⟩ := eqx (disL c g.toNat c.arcs.length);rw [← hL] at hD hR;clear e hRR hL;refine ASpec.of Tryz.func32 rfl rfl fun C hC => ?_
 refine AC.seq (AC.region ?_);refine kD ?_;refine za ?_;refine za ?_;refine AL.nil (th_n (AC.seq (AC.seq (AC.region ?_))));refine kG ?_;refine zm ?_;refine kV en_hasSignal hH ?_;refine kC ?_;refine AL.nil (th_n ?_);refine AC.condB rfl (fun h0 => ?_) (fun h0 => ?_)
 ·refine AC.seq (AC.region ?_);refine za ?_;refine za ?_;refine AL.nil (th_n (AC.ret (th_r (bq_r ?_))));have e : R = ([], false) := hR.trans (if_neg (by simpa using ‹(!b) = true›));exact ret0 rfl (by rw [e]; show AV.leads _ (.tup [.d (vI []), aT false]) _; repeat (first | exact DLead.same | exact DLead.nil | exact rfl | refine ⟨_, rfl, ?_⟩ | refine ⟨_, _, rfl, ?_, ?_⟩))
 refine AC.skip (th_n (AC.seq ?_));have hb1 : b = true := by simpa using ‹(!b) = false›
 have hD1 := hD hb1;rw [hI hb1] at hD1;refine AC.region ?_;refine kG ?_;refine zm ?_;refine kV en_disabling hD1 ?_;refine za ?_;refine za ?_;refine AL.nil (th_n (AC.ret (bq_r ?_)));have e : R = (L, true) := hR.trans (if_pos hb1);exact ret0 rfl (by rw [e]; show AV.leads _ (.tup [.d (vI L), aT true]) _; repeat (first | exact DLead.same | exact rfl | refine ⟨_, rfl, ?_⟩ | refine ⟨_, _, rfl, ?_, ?_⟩))
theorem en_iDisA : Enters Tryz.prog 32 := enters_of Tryz.func32 rfl rfl
def disU (c : SG) (g : Nat) (u : Bool) (a : Ar) : Bool := !decide (a.sig = (g : Int)) && (exU c g u a.from_ && !exU c g u a.to_)
def uLi (c : SG) (g : Nat) (u : Bool) (j : Nat) : List Int := nI ((List.range j).filter fun i => disU c g u (arAt c.arcs i))
def xPu (c : SG) (g : Nat) : Nat → List Int
 | 0 => []
 | p + 1 => (uLi c g (decide (p = 1)) c.arcs.length).foldl putI (xPu c g p)
def xPj (c : SG) (g p j : Nat) : List Int := (uLi c g (decide (p = 1)) j).foldl putI (xPu c g p)
theorem xPj_succ (c : SG) (g p j : Nat) : xPj c g p (j + 1) = if disU c g (decide (p = 1)) (arAt c.arcs j) = true then putI (xPj c g p j) (j : Int) else xPj c g p j := by
 have e : uLi c g (decide (p = 1)) (j + 1) = uLi c g (decide (p = 1)) j ++ (if disU c g (decide (p = 1)) (arAt c.arcs j) = true then [(j : Int)] else []) := by
  unfold uLi nI;rw [List.range_succ, List.filter_append, List.map_append];congr 1;cases h : disU c g (decide (p = 1)) (arAt c.arcs j) <;> simp [h]
 unfold xPj;rw [e, List.foldl_append]
 split <;> rfl
theorem uLi_len (c : SG) (g : Nat) (u : Bool) (j : Nat) : (uLi c g u j).length ≤ j := by
 unfold uLi;rw [nI_len];have := List.length_filter_le (fun i => disU c g u (arAt c.arcs i)) (List.range j)
 rwa [List.length_range] at this
theorem xPu_len (c : SG) (g : Nat) : ∀ p, (xPu c g p).length ≤ c.arcs.length * p
 | 0 => Nat.zero_le _
 | p + 1 => by
  have h1 := putF_len (uLi c g (decide (p = 1)) c.arcs.length) (xPu c g p);have h2 := uLi_len c g (decide (p = 1)) c.arcs.length;have h3 := xPu_len c g p;rw [Nat.mul_succ];show (List.foldl putI _ _).length ≤ _;omega
theorem xPj_len (c : SG) (g p j : Nat) : (xPj c g p j).length ≤ c.arcs.length * p + j := by
 have h1 := putF_len (uLi c g (decide (p = 1)) j) (xPu c g p);have h2 := uLi_len c g (decide (p = 1)) j;have h3 := xPu_len c g p;unfold xPj;omega
theorem xPu_srtd (c : SG) (g : Nat) : ∀ p, srtd (xPu c g p)
 | 0 => List.Pairwise.nil
 | p + 1 => (setF_srtd _ _ (xPu_srtd c g p)).1
theorem xPu_two (c : SG) (g : Nat) : xPu c g 2 = disL c g c.arcs.length := by
 refine srtd_ext (xPu_srtd c g 2) (List.Pairwise.sublist (List.Sublist.map _ (List.filter_sublist (l := List.range c.arcs.length))) (range_srtd c.arcs.length)) fun x => ?_
 have h0 := setF_srtd (uLi c g false c.arcs.length) [] List.Pairwise.nil;have h1 := setF_srtd (uLi c g true c.arcs.length) _ h0.1;have e1 : xPu c g 2 = (uLi c g true c.arcs.length).foldl putI ((uLi c g false c.arcs.length).foldl putI []) := rfl;rw [e1, h1.2, h0.2];unfold uLi nI;simp only [List.mem_map, List.mem_filter, List.mem_range, List.not_mem_nil, false_or];have hd : ∀ a, disB c g a = (disU c g false a || disU c g true a) := fun a => by unfold disB disU; rw [Bool.and_or_distrib_left]
 constructor
 ·rintro (⟨i, ⟨h1, h2⟩, rfl⟩ | ⟨i, ⟨h1, h2⟩, rfl⟩)
  ·exact List.mem_map.2 ⟨i, List.mem_filter.2 ⟨List.mem_range.2 h1, by rw [hd, h2]; rfl⟩, rfl⟩
  exact List.mem_map.2 ⟨i, List.mem_filter.2 ⟨List.mem_range.2 h1, by rw [hd, h2, Bool.or_true]⟩, rfl⟩
 intro hx;obtain ⟨i, hi, rfl⟩ := List.mem_map.1 hx;rw [List.mem_filter, List.mem_range, hd, Bool.or_eq_true] at hi;rcases hi.2 with q | q
 ·exact .inl ⟨i, ⟨hi.1, q⟩, rfl⟩
 exact .inr ⟨i, ⟨hi.1, q⟩, rfl⟩
set_option maxHeartbeats 16000000 in
theorem sDisA_spec (c : SG) (g : Int) (hc : SgL c) : ASpec Tryz.prog 33 [sgA c, aI g] [] (Pure1 (.tup [.d (vI (disR c g).1), aT (disR c g).2])) := by
 have hH := l10Asked_spec c g hc;have hQ := @sigQ_of c g;have hl := hc.a;have hE := fun u => l10Excited_spec c g u hc.a
 have hR : disR c g = if sigQ c g = true then (disL c g.toNat c.arcs.length, true) else ([], false) := rfl
 obtain ⟨b0, e⟩ := eqx (sigQ c g);rw [← e] at hH hR hQ;obtain ⟨R, hRR⟩ := eqx (disR c g);rw [← hRR] at hR ⊢;clear e hRR;refine ASpec.of Tryz.func33 rfl rfl fun C hC => ?_
 refine AC.seq (AC.region ?_);refine kD ?_;refine za ?_;refine za ?_;refine AL.nil (th_n (AC.seq (AC.seq (AC.region ?_))));refine kG ?_;refine zm ?_;refine kV en_l10Asked hH ?_;refine kC ?_;refine AL.nil (th_n ?_);refine AC.condB rfl (fun h0 => ?_) (fun h0 => ?_)
 ·refine AC.seq (AC.region ?_);refine za ?_;refine za ?_;refine AL.nil (th_n (AC.ret (th_r (bq_r ?_))));have e : R = ([], false) := hR.trans (if_neg (by simpa using ‹(!b0) = true›));exact ret0 rfl (by rw [e]; show AV.leads _ (.tup [.d (vI []), aT false]) _; repeat (first | exact DLead.same | exact DLead.nil | exact rfl | refine ⟨_, rfl, ?_⟩ | refine ⟨_, _, rfl, ?_, ?_⟩))
 refine AC.skip (th_n (AC.seq ?_));have hb1 : b0 = true := by simpa using ‹(!b0) = false›
 obtain ⟨hv, hg0, hg1⟩ := hQ hb1;obtain ⟨q, hq⟩ : ∃ q : Nat, g = (q : Int) := ⟨g.toNat, by omega⟩;subst hq;rw [if_pos hb1, Int.toNat_natCast, ← xPu_two] at hR;have hal := (validC_at hv).2.1;have hXs : ∀ p, xPu c q (p + 1) = xPj c q p c.arcs.length := fun _ => rfl
 have hX0 : ∀ p, xPj c q p 0 = xPu c q p := fun _ => rfl
 have hXj := xPj_succ c q;have hXl := xPj_len c q;have hXlu := xPu_len c q;have hEl : ∀ u, (exFL c ⟨(q : Int), u⟩).length ≤ 1000000 := fun u => by have := exFL_len c ⟨(q : Int), u⟩; omega
 refine AC.region ?_;refine za ?_;refine AL.nil (th_n (AC.seq (AC.seq (AC.region ?_))));refine AL.q (by exact h_litF rfl rfl rfl rfl rfl rfl rfl rfl) rfl ?_;refine AL.p (by exact g_len_view (k := 2) rfl rfl rfl) rfl ?_;refine zm ?_;refine AL.nil (th_n (AC.block ?_));refine AC.loop (ι := Nat) (fun p => ⟨57, 300, [(1, aI q), (2, .d (.ref (sgD c))), (6, .d (vI (xPu c q p))), (16, .d (.view 4 1 [[dT false], [dT true]])), (17, aI 2), (18, aI p)], []⟩) (fun p => p ≤ 2) (fun p => 2 - p) (0) ?_ (Nat.zero_le _) ?_
 ·exact Weak.ren _ [] hC rfl (by repeat (first | exact True.intro | refine And.intro ?_ ?_ | exact DLead.same | exact DLead.nil)) (by repeat (exact True.intro)) rfl rfl rfl
 intro p hp;refine AC.seq (AC.region ?_);refine zc ?_;refine AL.nil (th_n (AC.seq ?_));refine AC.condD rfl (fun h1 => ?_) (fun h1 => ?_)
 ·refine AC.skip (th_n (AC.seq (AC.block (AC.seq ?_))));have hp1 : p < 2 := by omega
  have hgb : ([[dT false], [dT true]] : List (List DV))[p]? = some [dT (decide (p = 1))] := by have : p = 0 ∨ p = 1 := by { omega }; rcases this with rfl | rfl <;> rfl
  have hXsp := hXs p;have hX0p := hX0 p;have hXjp := hXj p;have hXlp := hXl p;have hcp : c.arcs.length * p ≤ 8000 := Nat.le_trans (Nat.mul_le_mul hal hp) (by decide);obtain ⟨u, hu⟩ := eqx (decide (p = 1));rw [← hu] at hgb hXjp;have hEu := hE u;have hEsd := fun k => exU_sd c q u k
  have hElu := hEl u;have hUd : ∀ a, disU c q u a = (!decide (a.sig = (q : Int)) && (exU c q u a.from_ && !exU c q u a.to_)) := fun _ => rfl
  obtain ⟨Xl, hXe⟩ := eqx (exFL c ⟨(q : Int), u⟩);rw [← hXe] at hEu hEsd hElu;clear hu hXe;obtain ⟨J, hJ⟩ := eqx (xPj c q p);rw [← hJ] at hXsp hX0p hXjp hXlp;have hXjp : ∀ j, J (j + 1) = if disU c q u (arAt c.arcs j) = true then putI (J j) (j : Int) else J j := hXjp
  clear hJ;refine AC.region ?_;refine AL.p (by exact g_ia_view (i := p) rfl rfl rfl rfl rfl rfl hgb) rfl ?_;refine zr ?_;refine za ?_;refine AL.nil (th_n (AC.seq (AC.region ?_)));refine kG ?_;refine zm ?_;refine zm ?_;refine kV en_l10Excited hEu ?_;refine za ?_;refine AL.nil (th_n (AC.seq (AC.region ?_)));refine zf ?_;refine zr ?_;refine kI c.arcs.length (arL_len _) ?_;refine zm ?_;refine AL.nil (th_n (AC.block ?_));refine AC.loop (ι := Nat) (fun j => ⟨57, 600, [(1, aI q), (2, .d (.ref (sgD c))), (6, .d (vI (J j))), (9, .d (vI Xl)), (16, .d (.view 4 1 [[dT false], [dT true]])), (17, aI 2), (18, aI p), (27, .d (vArs c.arcs)), (28, aI c.arcs.length), (29, aI j)], []⟩) (fun j => j ≤ c.arcs.length) (fun j => c.arcs.length - j) (0) ?_ (Nat.zero_le _) ?_
  ·exact Weak.ren _ [] hC rfl (by rw [hX0p]; repeat (first | exact True.intro | refine And.intro ?_ ?_ | exact DLead.same)) (by repeat (exact True.intro)) rfl rfl rfl
  intro j hj;refine AC.seq (AC.region ?_);refine zc ?_;refine AL.nil (th_n (AC.seq ?_));refine AC.condD rfl (fun h2 => ?_) (fun h2 => ?_)
  ·refine AC.skip (th_n (AC.seq (AC.block (AC.seq ?_))));have hj1 : j < c.arcs.length := by omega
   have hget := arL_get hj1;have hJj := hXjp j;have hJl := hXlp j;rw [arAt_nat hj1] at hJj;obtain ⟨a, ha⟩ := eqx (c.arcs[j]);rw [← ha] at hget hJj;clear ha;rw [hUd a] at hJj;have hHf := l1Has_spec Xl a.from_ hElu;have hHt := l1Has_spec Xl a.to_ hElu;rw [hasI_dec, hEsd] at hHf hHt;obtain ⟨b1, m1⟩ := eqx (exU c q u a.from_);obtain ⟨b2, m2⟩ := eqx (exU c q u a.to_);rw [← m1] at hHf hJj;rw [← m2] at hHt hJj;obtain ⟨s, hs⟩ : ∃ s, s = !decide (a.sig = (q : Int)) := ⟨_, rfl⟩;rw [← hs] at hJj;obtain ⟨X, hX⟩ := eqx (J j);rw [← hX] at hJj hJl ⊢;clear m1 m2 hX;refine AC.region ?_;refine zm ?_;refine AL.p (by exact g_ia_view rfl rfl rfl rfl rfl (by rfl) (by assumption)) rfl ?_;refine kG ?_;refine kE ?_;refine za ?_;refine zs ?_;refine AL.nil (th_n (AC.seq (AC.region ?_)));refine zF ?_;refine zl ?_;refine zm ?_;refine AL.p (by exact g_cmp (r := s) rfl rfl (congrArg some hs.symm)) rfl ?_;refine zm ?_;refine AL.caseGB rfl rfl (fun h3 => ?_) (fun h3 => ?_)
   ·refine zy ?_;refine zm ?_;refine zy ?_;refine zF ?_;refine zy ?_;refine zl ?_;refine zy ?_;refine kV en_l1Has hHf ?_;refine zQ ?_;refine zm ?_;refine AL.caseGB rfl rfl (fun h4 => ?_) (fun h4 => ?_)
    ·refine zy ?_;refine zm ?_;refine zy ?_;refine zF ?_;refine zy ?_;refine zl ?_;refine zy ?_;refine kV en_l1Has hHt ?_;refine zy ?_;refine kC ?_;refine zQ ?_;refine AL.nil (th_n ?_);refine AC.condB rfl (fun h5 => ?_) (fun h5 => ?_)
     ·refine AC.region ?_;refine zm ?_;refine zm ?_;refine AL.q (by exact h_pure en_l1Put rfl rfl (by repeat (first | exact rfl | exact DLead.same | refine ⟨_, _, rfl, ?_, ?_⟩)) (l1Put_spec X (j : Int) (by omega)) rfl) rfl ?_;refine za ?_;refine AL.nil (ib_n (th_n (AC.region ?_)));refine zA ?_;refine zm ?_;refine AL.nil (th_n ?_)
      (have q1 := ‹s = true›; have q2 := ‹b1 = true›; have q3 := ‹(!b2) = true›; rw [q1, q2, q3, if_pos (by rfl)] at hJj; exact ⟨j + 1, by omega, by omega, Weak.ren _ [] hC rfl (by rw [hJj]; repeat (first | exact True.intro | refine And.intro ?_ ?_ | exact DLead.same)) (by repeat (exact True.intro)) rfl rfl rfl⟩)
     refine AC.skip (ib_n (th_n (AC.region ?_)));refine zA ?_;refine zm ?_;refine AL.nil (th_n ?_)
     (have q1 : (s && (b1 && !b2)) = false := (by (rw [‹(!b2) = false›, Bool.and_false, Bool.and_false])); rw [q1, if_neg (by decide)] at hJj; exact ⟨j + 1, by omega, by omega, Weak.ren _ [] hC rfl (by rw [hJj]; repeat (first | exact True.intro | refine And.intro ?_ ?_ | exact DLead.same)) (by repeat (exact True.intro)) rfl rfl rfl⟩)
    refine zn ?_;refine zn ?_;refine zn ?_;refine zn ?_;refine zn ?_;refine zP ?_;refine AL.nil (th_n ?_);refine AC.condF rfl ?_;refine AC.skip (ib_n (th_n (AC.region ?_)));refine zA ?_;refine zm ?_;refine AL.nil (th_n ?_)
    (have q1 : (s && (b1 && !b2)) = false := (by (rw [‹b1 = false›, Bool.false_and, Bool.and_false])); rw [q1, if_neg (by decide)] at hJj; exact ⟨j + 1, by omega, by omega, Weak.ren _ [] hC rfl (by rw [hJj]; repeat (first | exact True.intro | refine And.intro ?_ ?_ | exact DLead.same)) (by repeat (exact True.intro)) rfl rfl rfl⟩)
   refine zn ?_;refine zn ?_;refine zn ?_;refine zn ?_;refine zP ?_;refine zm ?_;refine zn ?_;refine zn ?_;refine zn ?_;refine zn ?_;refine zn ?_;refine zP ?_;refine AL.nil (th_n ?_);refine AC.condF rfl ?_;refine AC.skip (ib_n (th_n (AC.region ?_)));refine zA ?_;refine zm ?_;refine AL.nil (th_n ?_)
   (have q1 : (s && (b1 && !b2)) = false := (by (rw [‹s = false›]; rfl)); rw [q1, if_neg (by decide)] at hJj; exact ⟨j + 1, by omega, by omega, Weak.ren _ [] hC rfl (by rw [hJj]; repeat (first | exact True.intro | refine And.intro ?_ ?_ | exact DLead.same)) (by repeat (exact True.intro)) rfl rfl rfl⟩)
  refine AC.exit (th_e (th_e (ib_y (ib_n (th_n (AC.region ?_))))));refine zA ?_;refine zm ?_;refine AL.nil (th_n ?_);have hjj : j = c.arcs.length := by omega
  exact ⟨p + 1, by omega, by omega, Weak.ren _ [] hC rfl (by rw [hXsp, hjj]; repeat (first | exact True.intro | refine And.intro ?_ ?_ | exact DLead.same)) (by repeat (exact True.intro)) rfl rfl rfl⟩
 refine AC.exit (th_e (th_e (ib_y (th_n (AC.seq ?_)))));have hp2 : p = 2 := by omega
 rw [hp2];refine AC.region ?_;refine zm ?_;refine za ?_;refine za ?_;refine AL.nil (th_n (AC.ret (bq_r ?_)));exact ret0 rfl (by rw [hR]; show AV.leads _ (.tup [.d (vI (xPu c q 2)), aT true]) _; repeat (first | exact DLead.same | exact rfl | refine ⟨_, rfl, ?_⟩ | refine ⟨_, _, rfl, ?_, ?_⟩))
theorem en_sDisA : Enters Tryz.prog 33 := enters_of Tryz.func33 rfl rfl
noncomputable def setQ (c : SG) (s : List Int) : Bool := rising s 0 ((c.codes.length : Int) - 1) && validC c
theorem isStateSet_spec (c : SG) (s : List Int) (hl : s.length ≤ 2000000) (hc : SgL c) : ASpec Tryz.prog 71 [sgA c, .d (vI s)] [] (Pure1 (aT (setQ c s))) := by
 have hn := hc.n;have hI := isIncreasing_spec s (c.codes.length : Int) hl (by omega);have hV := iValidSg_spec c hc;have hR : setQ c s = (rising s 0 ((c.codes.length : Int) - 1) && validC c) := rfl;obtain ⟨b1, e1⟩ := eqx (rising s 0 ((c.codes.length : Int) - 1));obtain ⟨b2, e2⟩ := eqx (validC c);rw [← e1] at hI hR;rw [← e2] at hV hR;rw [hR];clear e1 e2 hR;refine ASpec.of Tryz.func71 rfl rfl fun C hC => ?_
 refine AC.seq (AC.region ?_);refine kD ?_;refine za ?_;refine AL.nil (th_n (AC.seq (AC.region ?_)));refine zm ?_;refine zf ?_;refine zr ?_;refine kI c.codes.length (tsX_len _) ?_;refine kV en_isIncreasing hI ?_;refine zm ?_;refine AL.caseGB rfl rfl (fun h0 => ?_) (fun h0 => ?_)
 ·refine zy ?_;refine kG ?_;refine zy ?_;refine kV en_iValidSg hV ?_;refine zQ ?_;refine za ?_;refine AL.nil (th_n (AC.ret (bq_r ?_)))
  (have q := ‹b1 = true›; exact ret1 rfl (by rw [q, Bool.true_and]))
 refine zn ?_;refine zn ?_;refine zP ?_;refine za ?_;refine AL.nil (th_n (AC.ret (bq_r ?_)))
 (have q := ‹b1 = false›; exact ret1 rfl (by rw [q]; rfl))
theorem en_isStateSet : Enters Tryz.prog 71 := enters_of Tryz.func71 rfl rfl
theorem l10Set_spec (c : SG) (s : List Int) (hl : s.length ≤ 2000000) (hc : SgL c) : ASpec Tryz.prog 75 [sgA c, .d (vI s)] [] (Pure1 (aT (setQ c s))) := by
 have hn := hc.n;have hI := l1Rising_spec s 0 ((c.codes.length : Int) - 1) hl;have hV := l5Good_spec c hc;have hR : setQ c s = (rising s 0 ((c.codes.length : Int) - 1) && validC c) := rfl;obtain ⟨b1, e1⟩ := eqx (rising s 0 ((c.codes.length : Int) - 1));obtain ⟨b2, e2⟩ := eqx (validC c);rw [← e1] at hI hR;rw [← e2] at hV hR;rw [hR];clear e1 e2 hR;refine ASpec.of Tryz.func75 rfl rfl fun C hC => ?_
 refine AC.seq (AC.region ?_);refine kD ?_;refine za ?_;refine AL.nil (th_n (AC.seq (AC.region ?_)));refine kG ?_;refine kV en_l5Good hV ?_;refine zm ?_;refine AL.caseGB rfl rfl (fun h0 => ?_) (fun h0 => ?_)
 ·refine zy ?_;refine zm ?_;refine zy ?_;refine zf ?_;refine zy ?_;refine zr ?_;refine zy ?_;refine kI c.codes.length (tsX_len _) ?_;refine zy ?_;refine zA ?_;refine zy ?_;refine kV en_l1Rising hI ?_;refine zQ ?_;refine za ?_;refine AL.nil (th_n (AC.ret (bq_r ?_)))
  (have q := ‹b2 = true›; exact ret1 rfl (by rw [q, Bool.and_true]))
 refine zn ?_;refine zn ?_;refine zn ?_;refine zn ?_;refine zn ?_;refine zn ?_;refine zP ?_;refine za ?_;refine AL.nil (th_n (AC.ret (bq_r ?_)))
 (have q := ‹b2 = false›; exact ret1 rfl (by rw [q, Bool.and_false]))
theorem en_l10Set : Enters Tryz.prog 75 := enters_of Tryz.func75 rfl rfl
def entB (s : List Int) (a : Ar) : Bool := !sdB s a.from_ && sdB s a.to_
def exiB (s : List Int) (a : Ar) : Bool := sdB s a.from_ && !sdB s a.to_
theorem enters_spec (a : Ar) (s : List Int) (hl : s.length ≤ 2000000) : ASpec Tryz.prog 74 [arA a, .d (vI s)] [] (Pure1 (aT (entB s a))) := by
 have h1 := ContainsB_spec s hl a.from_;have h2 := ContainsB_spec s hl a.to_;have hR : entB s a = (!sdB s a.from_ && sdB s a.to_) := rfl;obtain ⟨b1, e1⟩ := eqx (sdB s a.from_);obtain ⟨b2, e2⟩ := eqx (sdB s a.to_);rw [← e1] at h1 hR;rw [← e2] at h2 hR;rw [hR];have hH1 := h1;have hH2 := h2;clear e1 e2 hR h1 h2;refine ASpec.of Tryz.func74 rfl rfl fun C hC => ?_
 refine AC.seq (AC.region ?_);refine kD ?_;refine za ?_;refine AL.nil (th_n (AC.seq (AC.region ?_)));refine zm ?_;refine zf ?_;refine zr ?_;refine kV en_Contains hH1 ?_;refine kC ?_;refine zm ?_;refine AL.caseGB rfl rfl (fun h0 => ?_) (fun h0 => ?_)
 ·refine zy ?_;refine zm ?_;refine zy ?_;refine zf ?_;refine zy ?_;refine zr ?_;refine zy ?_;refine kV en_Contains hH2 ?_;refine zQ ?_;refine za ?_;refine AL.nil (th_n (AC.ret (bq_r ?_)))
  (have q := ‹(!b1) = true›; exact ret1 rfl (by rw [q, Bool.true_and]))
 refine zn ?_;refine zn ?_;refine zn ?_;refine zn ?_;refine zP ?_;refine za ?_;refine AL.nil (th_n (AC.ret (bq_r ?_)))
 (have q := ‹(!b1) = false›; exact ret1 rfl (by rw [q]; rfl))
theorem en_enters : Enters Tryz.prog 74 := enters_of Tryz.func74 rfl rfl
theorem leaves_spec (a : Ar) (s : List Int) (hl : s.length ≤ 2000000) : ASpec Tryz.prog 78 [arA a, .d (vI s)] [] (Pure1 (aT (exiB s a))) := by
 have h1 := ContainsB_spec s hl a.from_;have h2 := ContainsB_spec s hl a.to_;have hR : exiB s a = (sdB s a.from_ && !sdB s a.to_) := rfl;obtain ⟨b1, e1⟩ := eqx (sdB s a.from_);obtain ⟨b2, e2⟩ := eqx (sdB s a.to_);rw [← e1] at h1 hR;rw [← e2] at h2 hR;rw [hR];have hH1 := h1;have hH2 := h2;clear e1 e2 hR h1 h2;refine ASpec.of Tryz.func78 rfl rfl fun C hC => ?_
 refine AC.seq (AC.region ?_);refine kD ?_;refine za ?_;refine AL.nil (th_n (AC.seq (AC.region ?_)));refine zm ?_;refine zf ?_;refine zr ?_;refine kV en_Contains hH1 ?_;refine zm ?_;refine AL.caseGB rfl rfl (fun h0 => ?_) (fun h0 => ?_)
 ·refine zy ?_;refine zm ?_;refine zy ?_;refine zf ?_;refine zy ?_;refine zr ?_;refine zy ?_;refine kV en_Contains hH2 ?_;refine zy ?_;refine kC ?_;refine zQ ?_;refine za ?_;refine AL.nil (th_n (AC.ret (bq_r ?_)))
  (have q := ‹b1 = true›; exact ret1 rfl (by rw [q, Bool.true_and]))
 refine zn ?_;refine zn ?_;refine zn ?_;refine zn ?_;refine zn ?_;refine zP ?_;refine za ?_;refine AL.nil (th_n (AC.ret (bq_r ?_)))
 (have q := ‹b1 = false›; exact ret1 rfl (by rw [q]; rfl))
theorem en_leaves : Enters Tryz.prog 78 := enters_of Tryz.func78 rfl rfl
theorem entL1_spec (a : Ar) (s : List Int) (hl : s.length ≤ 2000000) : ASpec Tryz.prog 73 [arA a, .d (.ref [vI s])] [] (Pure1 (aT (entB s a))) := by
 have hE := enters_spec a s hl;refine ASpec.of Tryz.func73 rfl rfl fun C hC => ?_
 refine AC.seq (AC.region ?_);refine kD ?_;refine za ?_;refine AL.nil (th_n (AC.seq (AC.region ?_)));refine kG ?_;refine zr ?_;refine kV en_enters hE ?_;refine za ?_;refine AL.nil (th_n (AC.ret (bq_r ?_)));exact ret1 rfl rfl
theorem en_entL1 : Enters Tryz.prog 73 := enters_of Tryz.func73 rfl rfl
theorem exiL1_spec (a : Ar) (s : List Int) (hl : s.length ≤ 2000000) : ASpec Tryz.prog 77 [arA a, .d (.ref [vI s])] [] (Pure1 (aT (exiB s a))) := by
 have hE := leaves_spec a s hl;refine ASpec.of Tryz.func77 rfl rfl fun C hC => ?_
 refine AC.seq (AC.region ?_);refine kD ?_;refine za ?_;refine AL.nil (th_n (AC.seq (AC.region ?_)));refine kG ?_;refine zr ?_;refine kV en_leaves hE ?_;refine za ?_;refine AL.nil (th_n (AC.ret (bq_r ?_)));exact ret1 rfl rfl
theorem en_exiL1 : Enters Tryz.prog 77 := enters_of Tryz.func77 rfl rfl
def lbK (x : Lab) : Int := 2 * x.sig + (bif x.up then 1 else 0)
def kLb (z : Int) : Lab := ⟨z / 2, decide (z % 2 = 1)⟩
theorem kLb_lbK (x : Lab) : kLb (lbK x) = x := by
 obtain ⟨s, u⟩ := x;unfold kLb lbK;cases u
 ·simp only [cond_false];rw [show (2 * s + 0) / 2 = s by omega, decide_eq_false (by omega)]
 simp only [cond_true];rw [show (2 * s + 1) / 2 = s by omega, decide_eq_true (by omega)]
theorem lbK_kLb (z : Int) : lbK (kLb z) = z := by
 unfold kLb lbK
 by_cases h : z % 2 = 1
 ·rw [decide_eq_true h]; simp only [cond_true]; omega
 rw [decide_eq_false h]; simp only [cond_false]; omega
theorem l10Before_spec (x y : Lab) : ASpec Tryz.prog 175 [labA x, labA y] [] (Pure1 (aT (decide (lbK x < lbK y)))) := by
 obtain ⟨s, u⟩ := x;obtain ⟨t, v⟩ := y
 have hR : decide (lbK ⟨s, u⟩ < lbK ⟨t, v⟩) = (decide (s < t) || ((decide (s = t) && !u) && v)) := by
  rw [Bool.eq_iff_iff];unfold lbK;cases u <;> cases v <;> simp <;> omega
 rw [hR];clear hR;refine ASpec.of Tryz.func175 rfl rfl fun C hC => ?_
 refine AC.seq (AC.region ?_);refine kD ?_;refine kD ?_;refine za ?_;refine AL.nil (th_n (AC.seq (AC.region ?_)));refine zf ?_;refine zr ?_;refine zf ?_;refine zr ?_;refine zc ?_;refine zm ?_;refine AL.caseG rfl rfl (fun h0 => ?_) (fun h0 => ?_)
 ·refine zn ?_;refine zn ?_;refine zn ?_;refine zn ?_;refine zn ?_;refine zn ?_;refine AL.notU rfl rfl rfl ?_;refine AL.notU rfl rfl rfl ?_;refine AL.notU rfl rfl rfl ?_;refine zn ?_;refine zn ?_;refine AL.notU rfl rfl rfl ?_;refine AL.notU rfl rfl rfl ?_;refine zn ?_;refine zQ ?_;refine za ?_;refine AL.nil (th_n (AC.ret (bq_r ?_)))
  (have q := ‹s < t›; exact ret1 rfl (by rw [decide_eq_true q]; rfl))
 refine zy ?_;refine zf ?_;refine zy ?_;refine zr ?_;refine zy ?_;refine zf ?_;refine zy ?_;refine zr ?_;refine zy ?_;refine zc ?_;refine zy ?_;refine zm ?_;refine AL.caseG rfl rfl (fun h1 => ?_) (fun h1 => ?_)
 ·refine zy ?_;refine zf ?_;refine zy ?_;refine zr ?_;refine zy ?_;refine kC ?_;refine zy ?_;refine zQ ?_;refine zy ?_;refine zm ?_;refine AL.caseGB rfl rfl (fun h2 => ?_) (fun h2 => ?_)
  ·refine zy ?_;refine zf ?_;refine zy ?_;refine zr ?_;refine zy ?_;refine zQ ?_;refine zP ?_;refine za ?_;refine AL.nil (th_n (AC.ret (bq_r ?_)))
   (have q := ‹¬ s < t›; rw [decide_eq_false q]; (have q2 := ‹s = t›; rw [decide_eq_true q2]; (have q3 := ‹(!u) = true›; exact ret1 rfl (by rw [q3]; cases v <;> rfl))))
  refine zn ?_;refine zn ?_;refine zy ?_;refine zP ?_;refine zP ?_;refine za ?_;refine AL.nil (th_n (AC.ret (bq_r ?_)))
  (have q := ‹¬ s < t›; rw [decide_eq_false q]; (have q2 := ‹s = t›; rw [decide_eq_true q2]; (have q3 := ‹(!u) = false›; exact ret1 rfl (by rw [q3]; rfl))))
 refine zn ?_;refine zn ?_;refine zn ?_;refine zy ?_;refine zP ?_;refine zy ?_;refine zm ?_;refine zn ?_;refine zn ?_;refine zy ?_;refine zP ?_;refine zP ?_;refine za ?_;refine AL.nil (th_n (AC.ret (bq_r ?_)))
 (have q := ‹¬ s < t›; rw [decide_eq_false q]; (have q2 := ‹¬ s = t›; exact ret1 rfl (by rw [decide_eq_false q2]; rfl)))
theorem en_l10Before : Enters Tryz.prog 175 := enters_of Tryz.func175 rfl rfl
abbrev vKL (K : List Int) : DV := vLabs (K.map kLb)
theorem kL_len (K : List Int) : (labsL (K.map kLb)).length = K.length := by rw [labsL_len, List.length_map]
theorem kL_at (K : List Int) {k : Nat} (h : k < K.length) : K.getD k 0 = K[k] := by rw [List.getD_eq_getElem?_getD, List.getElem?_eq_getElem h]; rfl
theorem kL_get {K : List Int} {k : Nat} (h : k < K.length) : (labsL (K.map kLb))[k]? = some (labD (kLb (K.getD k 0))) := by
 unfold labsL;rw [List.getElem?_map, List.getElem?_map, List.getElem?_eq_getElem h, kL_at K h]; rfl
set_option maxHeartbeats 8000000 in
theorem l10Put_spec (K : List Int) (x : Lab) (hl : K.length ≤ 1000000) : ASpec Tryz.prog 135 [.d (vKL K), labA x] [] (Pure1 (.d (vKL (putI K (lbK x))))) := by
 have hx := kLb_lbK x;obtain ⟨z, hz⟩ := eqx (lbK x);rw [← hz] at hx ⊢;have hB := fun k => l10Before_spec (kLb (K.getD k 0)) x
 simp only [lbK_kLb, ← hz] at hB;refine ASpec.of Tryz.func135 rfl rfl fun C hC => ?_
 refine AC.seq (AC.region ?_);refine kD ?_;refine za ?_;refine AL.nil (th_n (AC.seq (AC.region ?_)));refine za ?_;refine AL.nil (th_n ?_);refine AC.cut (fun (k : Nat) => ⟨49, 600, [(0, .d (vKL K)), (3, .d (.ref [dI x.sig, dT x.up])), (5, aI k)], []⟩) (fun k => k ≤ K.length ∧ K.findIdx (fun y => decide (z ≤ y)) = k) ?_ ?_
 ·refine AC.block ?_;refine AC.loop (ι := Nat) (fun k => ⟨49, 300, [(0, .d (vKL K)), (3, .d (.ref [dI x.sig, dT x.up])), (5, aI k)], []⟩) (fun k => k ≤ K.length ∧ ∀ j (hj : j < K.length), j < k → K[j] < z) (fun k => K.length - k) (0) ?_ (⟨Nat.zero_le _, fun j _ hj => by omega⟩) ?_
  ·exact Weak.ren _ [] hC rfl (by repeat (first | exact True.intro | refine And.intro ?_ ?_ | exact DLead.same)) (by repeat (exact True.intro)) rfl rfl rfl
  rintro k ⟨hk, hall⟩;refine AC.seq (AC.seq ?_);refine AC.drawn' mixed_ok [[], [], [1], [0,1,2], [0,1,2,3], [0,1,2,3,4], [0,1,2,3,4], [0,1,2,3,4,5,6], [0,1,2,3,4,5,6,7], [0,1,2,3,4], [0,1,2,3,4,5,6,7,8,9], [0,1,2,3,4,5,6,7,8,9,10]] (by decide) ?_;refine zd 0 [] 12 (by exact mv1 rfl) ?_;refine zd 1 [] 12 (by exact mv1 rfl) ?_;refine zd 2 [1] 12 (by exact g_len_view (k := K.length) rfl rfl (kL_len _)) ?_;refine zd 3 [0,1,2] 12 (by exact g_cmp rfl rfl rfl) ?_;refine zd 4 [0,1,2,3] 12 (by exact mv1 rfl) ?_;refine DF.caseD 4 rfl (fun h0 => ?_) (fun h0 => ?_)
  ·refine ze 5 [0,1,2,3,4] 12 (by exact mv1 rfl) ?_;refine ze 6 [0,1,2,3,4] 12 (by exact mv1 rfl) ?_;refine ze 7 [0,1,2,3,4,5,6] 12 (by exact g_ia_view (i := k) rfl rfl rfl rfl rfl rfl (kL_get (by omega))) ?_;refine ze 8 [0,1,2,3,4,5,6,7] 12 (by exact g_load_refN rfl rfl rfl rfl) ?_;refine ze 9 [0,1,2,3,4] 12 (by exact g_load_refN rfl rfl rfl rfl) ?_;refine zi 10 (List.range 10) 12 (by exact h_pure en_l10Before rfl rfl (by repeat (first | exact rfl | exact DLead.same | refine ⟨_, _, rfl, ?_, ?_⟩ | refine ⟨_, rfl, ?_⟩)) (hB k) rfl) ?_;refine zd 11 (List.range 11) 12 (by exact g_pickT (r := .d _) rfl rfl) ?_;refine zj 12 ?_;refine th_n ?_;refine AC.condD rfl (fun h1 => ?_) (fun h1 => ?_)
   ·refine AC.skip (th_n (AC.block (AC.region ?_)));refine zm ?_;refine zA ?_;refine za ?_;refine AL.nil (ib_n (th_n ?_));have hk1 : k < K.length := by omega
    have h7 : K[k] < z := by rw [← kL_at K hk1]; assumption
    exact ⟨k + 1, ⟨by omega, fun j hj hj2 => by rcases Nat.lt_succ_iff_lt_or_eq.1 hj2 with h | rfl; (exact hall j hj h); exact h7⟩, by omega, Weak.ren _ [] hC rfl (by repeat (first | exact True.intro | refine And.intro ?_ ?_ | exact DLead.same)) (by repeat (exact True.intro)) rfl rfl rfl⟩
   refine AC.exit (th_e (th_e (ib_y (th_n ?_))))
   (have hk1 : k < K.length := (by omega); have h9 : ¬ K[k] < z := (by rw [← kL_at K hk1]; assumption); exact ⟨k, ⟨hk, idx_at hk1 h9 (fun j hj => hall j (by omega) hj)⟩, Weak.ren _ [] hC rfl (by repeat (first | exact True.intro | refine And.intro ?_ ?_ | exact DLead.same)) (by repeat (exact True.intro)) rfl rfl rfl⟩)
  refine zg 5 [0,1,2,3,4] 12 ?_;refine zg 6 [0,1,2,3,4] 12 ?_;refine zg 7 [0,1,2,3,4,5,6] 12 ?_;refine zg 8 [0,1,2,3,4,5,6,7] 12 ?_;refine zg 9 [0,1,2,3,4] 12 ?_;refine zg 10 (List.range 10) 12 ?_;refine zd 11 (List.range 11) 12 (by exact g_pickF (r := .d _) rfl rfl) ?_;refine zj 12 ?_;refine th_n ?_;refine AC.condF rfl ?_;refine AC.exit (th_e (th_e (ib_y (th_n ?_))));exact ⟨k, ⟨hk, idx_end (fun j hj => hall j hj (by omega)) (by omega)⟩, Weak.ren _ [] hC rfl (by repeat (first | exact True.intro | refine And.intro ?_ ?_ | exact DLead.same)) (by repeat (exact True.intro)) rfl rfl rfl⟩
 rintro k ⟨hk, hidx⟩;refine AC.seq (AC.seq ?_);refine AC.drawn' mixed_ok [[], [], [1], [0,1,2], [0,1,2,3], [0,1,2,3,4], [0,1,2,3,4], [0,1,2,3,4,5,6], [0,1,2,3,4,5,6,7], [0,1,2,3,4], [0,1,2,3,4,5,6,7,8,9], [0,1,2,3,4,5,6,7,8,9,10]] (by decide) ?_;refine zd 0 [] 12 (by exact mv1 rfl) ?_;refine zd 1 [] 12 (by exact mv1 rfl) ?_;refine zd 2 [1] 12 (by exact g_len_view (k := K.length) rfl rfl (kL_len _)) ?_;refine zd 3 [0,1,2] 12 (by exact g_cmp rfl rfl rfl) ?_;refine zd 4 [0,1,2,3] 12 (by exact mv1 rfl) ?_;refine DF.caseD 4 rfl (fun h0 => ?_) (fun h0 => ?_)
 ·refine ze 5 [0,1,2,3,4] 12 (by exact mv1 rfl) ?_;refine ze 6 [0,1,2,3,4] 12 (by exact mv1 rfl) ?_;refine ze 7 [0,1,2,3,4,5,6] 12 (by exact g_ia_view (i := k) rfl rfl rfl rfl rfl rfl (kL_get (by omega))) ?_;refine ze 8 [0,1,2,3,4,5,6,7] 12 (by exact g_load_refN rfl rfl rfl rfl) ?_;refine ze 9 [0,1,2,3,4] 12 (by exact g_load_refN rfl rfl rfl rfl) ?_;refine ze 10 (List.range 10) 12 (by exact g_eqIB (r := decide ((kLb (K.getD k 0)).sig = x.sig ∧ (kLb (K.getD k 0)).up = x.up)) (by decide +kernel) rfl rfl rfl) ?_;refine zd 11 (List.range 11) 12 (by exact g_pickT (r := .d _) rfl rfl) ?_;refine zj 12 ?_;refine th_n ?_;refine AC.condD rfl (fun h1 => ?_) (fun h1 => ?_)
  ·refine AC.seq (AC.region ?_);refine zm ?_;refine za ?_;refine AL.nil (th_n (AC.ret (th_r (bq_r ?_))));have hk1 : k < K.length := by omega
   have e1 : kLb K[k] = x := by rw [← kL_at K hk1]; have q := ‹(kLb (K.getD k 0)).sig = x.sig ∧ (kLb (K.getD k 0)).up = x.up›; obtain ⟨xs, xu⟩ := x; dsimp only at q; exact (Lab.mk.injEq ..).mpr q
   have e2 : K[k] = z := by rw [hz, ← e1, lbK_kLb]
   exact ret1 rfl (by rw [putI_same hidx hk1 e2])
  refine AC.skip (th_n (AC.seq ?_));have e : putI K z = K.take k ++ [z] ++ K.drop k := by (have hk1 : k < K.length := (by omega); refine putI_at hidx hk1 (fun h9 => ?_); have q := ‹¬ ((kLb (K.getD k 0)).sig = x.sig ∧ (kLb (K.getD k 0)).up = x.up)›; rw [kL_at K hk1, h9, hx] at q; exact q ⟨rfl, rfl⟩)
  refine AC.region ?_;refine AL.q (by exact h_lit rfl rfl rfl rfl rfl rfl rfl rfl) rfl ?_;refine zm ?_;refine zm ?_;refine AL.p (by exact g_slice_view (r := labsL ((K.drop k).map kLb)) rfl rfl rfl rfl (.some rfl rfl) .none (by rw [kL_len]; exact hk) (Nat.le_refl _) (by rw [List.take_length, List.map_drop]; unfold labsL; rw [List.map_drop])) rfl ?_;refine AL.q (by exact h_appendLx [] ((K.drop k).map kLb) (.own rfl rfl rfl) (.view rfl) (by simp; omega) (by simp)) rfl ?_;refine AL.p (by exact as2 rfl) rfl ?_;refine AL.nil (th_n (AC.seq ?_));refine AC.weak (Weak.freeze (i := 6) rfl rfl (Nat.le_of_eq (labsL_len _).symm) (List.take_of_length_le (Nat.le_of_eq (labsL_len _)))) ?_;refine AC.weak (t := ⟨49, 900, [(0, .d (vKL K)), (3, .d (.ref [dI x.sig, dT x.up])), (5, aI k), (6, .d (vKL (K.drop k)))], []⟩) (Weak.ren _ [] hC rfl (by repeat (first | exact True.intro | refine And.intro ?_ ?_ | exact DLead.same)) (by repeat (exact True.intro)) rfl rfl rfl) ?_;refine AC.drawn' mixed_ok [[], [], [], [1,2], [0,1,2,3], [], [5], [0,1,2,3,4,5,6], [], [0,1,2,3,4,5,6,7,8], [0,1,2,3,4,5,6,7,8,9]] (by decide) ?_;refine zh 0 [] 11 (by exact h_lit rfl rfl rfl rfl rfl rfl rfl rfl) ?_;refine zd 1 [] 11 (by exact mv1 rfl) ?_;refine zd 2 [] 11 (by exact mv1 rfl) ?_;refine zd 3 [1,2] 11 (by exact g_slice_view (r := labsL ((K.take k).map kLb)) rfl rfl rfl rfl .none (.some rfl rfl) (Nat.zero_le _) (by rw [kL_len]; exact hk) (by rw [List.map_take]; unfold labsL; rw [List.map_take]; simp)) ?_;refine zh 4 [0,1,2,3] 11 (by exact h_appendLx [] ((K.take k).map kLb) (.own rfl rfl rfl) (.view rfl) (by simp; omega) (by simp)) ?_;refine zd 5 [] 11 (by exact g_load_refN rfl rfl rfl rfl) ?_;refine zh 6 [5] 11 (by exact h_litF rfl rfl rfl rfl rfl rfl rfl rfl) ?_;refine zh 7 [0,1,2,3,4,5,6] 11 (by exact h_appendLx ([] ++ (K.take k).map kLb) [x] (.own rfl rfl (labsL_len _).symm) (.view rfl) (by simp; omega) (by simp)) ?_;refine zd 8 [] 11 (by exact mv1 rfl) ?_;refine zh 9 (List.range 9) 11 (by exact h_appendLx ([] ++ (K.take k).map kLb ++ [x]) ((K.drop k).map kLb) (.own rfl rfl (labsL_len _).symm) (.view rfl) (by simp; omega) (by simp)) ?_;refine zd 10 (List.range 10) 11 (by exact as2 rfl) ?_;refine zj 11 ?_;refine th_n ?_;refine AC.weak (Weak.freeze (i := 4) rfl rfl (Nat.le_of_eq (labsL_len _).symm) (List.take_of_length_le (Nat.le_of_eq (labsL_len _)))) ?_;refine AC.ret (bq_r ?_);exact ret1 rfl (by rw [e]; show _ = DV.view 64 2 (labsL ((K.take k ++ [z] ++ K.drop k).map kLb)); rw [List.map_append, List.map_append, List.map_singleton, hx]; rfl)
 refine zg 5 [0,1,2,3,4] 12 ?_;refine zg 6 [0,1,2,3,4] 12 ?_;refine zg 7 [0,1,2,3,4,5,6] 12 ?_;refine zg 8 [0,1,2,3,4,5,6,7] 12 ?_;refine zg 9 [0,1,2,3,4] 12 ?_;refine zg 10 (List.range 10) 12 ?_;refine zd 11 (List.range 11) 12 (by exact g_pickF (r := .d _) rfl rfl) ?_;refine zj 12 ?_;refine th_n ?_;refine AC.condF rfl ?_;refine AC.skip (th_n (AC.seq ?_));have e : putI K z = K.take k ++ [z] ++ K.drop k := by exact putI_end hidx (by omega)
 refine AC.region ?_;refine AL.q (by exact h_lit rfl rfl rfl rfl rfl rfl rfl rfl) rfl ?_;refine zm ?_;refine zm ?_;refine AL.p (by exact g_slice_view (r := labsL ((K.drop k).map kLb)) rfl rfl rfl rfl (.some rfl rfl) .none (by rw [kL_len]; exact hk) (Nat.le_refl _) (by rw [List.take_length, List.map_drop]; unfold labsL; rw [List.map_drop])) rfl ?_;refine AL.q (by exact h_appendLx [] ((K.drop k).map kLb) (.own rfl rfl rfl) (.view rfl) (by simp; omega) (by simp)) rfl ?_;refine AL.p (by exact as2 rfl) rfl ?_;refine AL.nil (th_n (AC.seq ?_));refine AC.weak (Weak.freeze (i := 6) rfl rfl (Nat.le_of_eq (labsL_len _).symm) (List.take_of_length_le (Nat.le_of_eq (labsL_len _)))) ?_;refine AC.weak (t := ⟨49, 900, [(0, .d (vKL K)), (3, .d (.ref [dI x.sig, dT x.up])), (5, aI k), (6, .d (vKL (K.drop k)))], []⟩) (Weak.ren _ [] hC rfl (by repeat (first | exact True.intro | refine And.intro ?_ ?_ | exact DLead.same)) (by repeat (exact True.intro)) rfl rfl rfl) ?_;refine AC.drawn' mixed_ok [[], [], [], [1,2], [0,1,2,3], [], [5], [0,1,2,3,4,5,6], [], [0,1,2,3,4,5,6,7,8], [0,1,2,3,4,5,6,7,8,9]] (by decide) ?_;refine zh 0 [] 11 (by exact h_lit rfl rfl rfl rfl rfl rfl rfl rfl) ?_;refine zd 1 [] 11 (by exact mv1 rfl) ?_;refine zd 2 [] 11 (by exact mv1 rfl) ?_;refine zd 3 [1,2] 11 (by exact g_slice_view (r := labsL ((K.take k).map kLb)) rfl rfl rfl rfl .none (.some rfl rfl) (Nat.zero_le _) (by rw [kL_len]; exact hk) (by rw [List.map_take]; unfold labsL; rw [List.map_take]; simp)) ?_;refine zh 4 [0,1,2,3] 11 (by exact h_appendLx [] ((K.take k).map kLb) (.own rfl rfl rfl) (.view rfl) (by simp; omega) (by simp)) ?_;refine zd 5 [] 11 (by exact g_load_refN rfl rfl rfl rfl) ?_;refine zh 6 [5] 11 (by exact h_litF rfl rfl rfl rfl rfl rfl rfl rfl) ?_;refine zh 7 [0,1,2,3,4,5,6] 11 (by exact h_appendLx ([] ++ (K.take k).map kLb) [x] (.own rfl rfl (labsL_len _).symm) (.view rfl) (by simp; omega) (by simp)) ?_;refine zd 8 [] 11 (by exact mv1 rfl) ?_;refine zh 9 (List.range 9) 11 (by exact h_appendLx ([] ++ (K.take k).map kLb ++ [x]) ((K.drop k).map kLb) (.own rfl rfl (labsL_len _).symm) (.view rfl) (by simp; omega) (by simp)) ?_;refine zd 10 (List.range 10) 11 (by exact as2 rfl) ?_;refine zj 11 ?_;refine th_n ?_;refine AC.weak (Weak.freeze (i := 4) rfl rfl (Nat.le_of_eq (labsL_len _).symm) (List.take_of_length_le (Nat.le_of_eq (labsL_len _)))) ?_;refine AC.ret (bq_r ?_);exact ret1 rfl (by rw [e]; show _ = DV.view 64 2 (labsL ((K.take k ++ [z] ++ K.drop k).map kLb)); rw [List.map_append, List.map_append, List.map_singleton, hx]; rfl)
theorem en_l10Put : Enters Tryz.prog 135 := enters_of Tryz.func135 rfl rfl
def brB (o : Bool) (s : List Int) (a : Ar) : Bool := ((!o && !sdB s a.from_) && sdB s a.to_) || ((o && sdB s a.from_) && !sdB s a.to_)
def brK (c : SG) (o : Bool) (s : List Int) (j : Nat) : List Int := ((c.arcs.take j).filter (brB o s)).map fun a => lbK ⟨a.sig, a.up⟩
def brP (c : SG) (o : Bool) (s : List Int) (j : Nat) : List Int := setP (brK c o s j)
theorem brK_succ {c : SG} {o : Bool} {s : List Int} {j : Nat} (hj : j < c.arcs.length) : brK c o s (j + 1) = brK c o s j ++ (if brB o s c.arcs[j] = true then [lbK ⟨c.arcs[j].sig, c.arcs[j].up⟩] else []) := by
 unfold brK;rw [filter_snoc _ hj, List.map_append];congr 1
 split <;> rfl
theorem brK_len (c : SG) (o : Bool) (s : List Int) (j : Nat) : (brK c o s j).length ≤ j := by
 unfold brK;rw [List.length_map];have := List.length_filter_le (brB o s) (c.arcs.take j);rw [List.length_take] at this;omega
theorem brP_succ {c : SG} {o : Bool} {s : List Int} {j : Nat} (hj : j < c.arcs.length) : brP c o s (j + 1) = if brB o s c.arcs[j] = true then putI (brP c o s j) (lbK ⟨c.arcs[j].sig, c.arcs[j].up⟩) else brP c o s j := by
 unfold brP;rw [brK_succ hj]
 split
 ·unfold setP; rw [List.foldl_append]; rfl
 rw [List.append_nil]
theorem brP_len (c : SG) (o : Bool) (s : List Int) (j : Nat) : (brP c o s j).length ≤ j := Nat.le_trans (setP_len _) (brK_len c o s j)
noncomputable def brR (c : SG) (o : Bool) (s : List Int) : List Int × Bool := if setQ c s = true then (brP c o s c.arcs.length, true) else ([], false)
set_option maxHeartbeats 8000000 in
theorem l10Into_spec (c : SG) (s : List Int) (o : Bool) (hl : c.arcs.length ≤ 1000000) (hs : s.length ≤ 1000000) : ASpec Tryz.prog 76 [sgA c, .d (vI s), aT o] [] (Pure1 (.d (vKL (brP c o s c.arcs.length)))) := by
 have hT := fun j (hj : j < c.arcs.length) => brP_succ (o := o) (s := s) hj
 have hTl := brP_len c o s;have ht0 : brP c o s 0 = [] := rfl;have hH := fun x => l1Has_spec s x hs
 have hB : ∀ a, brB o s a = (((!o && !sdB s a.from_) && sdB s a.to_) || ((o && sdB s a.from_) && !sdB s a.to_)) := fun _ => rfl
 obtain ⟨P, hP⟩ := eqx (brP c o s);rw [← hP] at hT hTl ht0 ⊢;have hT : ∀ j (hj : j < c.arcs.length), P (j + 1) = if brB o s c.arcs[j] = true then putI (P j) (lbK ⟨c.arcs[j].sig, c.arcs[j].up⟩) else P j := hT
 clear hP;refine ASpec.of Tryz.func76 rfl rfl fun C hC => ?_
 refine AC.seq (AC.region ?_);refine kD ?_;refine za ?_;refine AL.nil (th_n (AC.seq (AC.region ?_)));refine za ?_;refine AL.nil (th_n (AC.seq (AC.seq (AC.region ?_))));refine zf ?_;refine zr ?_;refine kI c.arcs.length (arL_len _) ?_;refine zm ?_;refine AL.nil (th_n (AC.block ?_));refine AC.loop (ι := Nat) (fun j => ⟨55, 300, [(1, .d (vI s)), (2, aT o), (7, .d (vKL (P j))), (13, .d (vArs c.arcs)), (14, aI c.arcs.length), (15, aI j)], []⟩) (fun j => j ≤ c.arcs.length) (fun j => c.arcs.length - j) (0) ?_ (Nat.zero_le _) ?_
 ·exact Weak.ren _ [] hC rfl (by rw [ht0]; repeat (first | exact True.intro | refine And.intro ?_ ?_ | exact DLead.same | exact DLead.nil)) (by repeat (exact True.intro)) rfl rfl rfl
 intro j hj;refine AC.seq (AC.region ?_);refine zc ?_;refine AL.nil (th_n (AC.seq ?_));refine AC.condD rfl (fun h0 => ?_) (fun h0 => ?_)
 ·refine AC.skip (th_n (AC.seq (AC.block (AC.seq ?_))));have hj1 : j < c.arcs.length := by omega
  have hget := arL_get hj1;have hTj := hT j hj1;have hTlj := hTl j;obtain ⟨a, ha⟩ := eqx (c.arcs[j]);rw [← ha] at hget hTj;clear ha;rw [hB a] at hTj;have hHf := hH a.from_;have hHt := hH a.to_;rw [hasI_dec] at hHf hHt;obtain ⟨b1, m1⟩ := eqx (sdB s a.from_);obtain ⟨b2, m2⟩ := eqx (sdB s a.to_);rw [← m1] at hHf hTj;rw [← m2] at hHt hTj;obtain ⟨X, hX⟩ := eqx (P j);rw [← hX] at hTj hTlj ⊢;have hPt := l10Put_spec X ⟨a.sig, a.up⟩ (by omega);clear hX m1 m2;refine AC.region ?_;refine AL.p (by exact g_ia_view rfl rfl rfl rfl rfl (by rfl) (by assumption)) rfl ?_;refine kG ?_;refine kE ?_;refine zs ?_;refine AL.nil (th_n (AC.seq ?_));refine AC.drawn' mixed_ok [[], [], [1], [0,1,2], [], [], [5], [0,1,2,3,4,5,6], [0,1,2,3,4,5,6,7], [0,1,2,3,4,5,6,7,8]] (by decide) ?_;refine zd 0 [] 10 (by exact mv1 rfl) ?_;refine zd 1 [] 10 (by exact g_fa_ptr rfl rfl rfl rfl rfl) ?_;refine zd 2 [1] 10 (by exact g_load_ptr rfl rfl rfl rfl rfl) ?_;refine zh 3 [0,1,2] 10 (by exact h_pure en_l1Has rfl rfl (by repeat (first | exact rfl | exact DLead.same | refine ⟨_, _, rfl, ?_, ?_⟩)) hHf rfl) ?_;refine zd 4 [] 10 (by exact mv1 rfl) ?_;refine zd 5 [] 10 (by exact g_fa_ptr rfl rfl rfl rfl rfl) ?_;refine zd 6 [5] 10 (by exact g_load_ptr rfl rfl rfl rfl rfl) ?_;refine zh 7 [0,1,2,3,4,5,6] 10 (by exact h_pure en_l1Has rfl rfl (by repeat (first | exact rfl | exact DLead.same | refine ⟨_, _, rfl, ?_, ?_⟩)) hHt rfl) ?_;refine zd 8 [0,1,2,3,4,5,6,7] 10 (by exact as1 rfl) ?_;refine zd 9 (List.range 9) 10 (by exact as1 rfl) ?_;refine zj 10 ?_;refine th_n (AC.seq (AC.region ?_));refine zm ?_;refine kC ?_;refine zm ?_;refine AL.caseGB rfl rfl (fun h1 => ?_) (fun h1 => ?_)
  ·refine zy ?_;refine zm ?_;refine zy ?_;refine kC ?_;refine zQ ?_;refine zm ?_;refine AL.caseGB rfl rfl (fun h2 => ?_) (fun h2 => ?_)
   ·refine zy ?_;refine zm ?_;refine zQ ?_;refine zm ?_;refine AL.caseGB rfl rfl (fun h3 => ?_) (fun h3 => ?_)
    ·refine zn ?_;refine zn ?_;refine AL.notU rfl rfl rfl ?_;refine zn ?_;refine zn ?_;refine AL.notU rfl rfl rfl ?_;refine AL.notU rfl rfl rfl ?_;refine zn ?_;refine zQ ?_;refine AL.nil (th_n ?_);refine AC.condT rfl ?_;refine AC.region ?_;refine zm ?_;refine zF ?_;refine zl ?_;refine zF ?_;refine zl ?_;refine AL.p (by exact g_build rfl rfl rfl) rfl ?_;refine kV en_l10Put hPt ?_;refine za ?_;refine AL.nil (ib_n (th_n (AC.region ?_)));refine zA ?_;refine zm ?_;refine AL.nil (th_n ?_)
     (have q0 := ‹(!o) = true›; have q1 := ‹(!b1) = true›; have q2 := ‹b2 = true›; rw [q0, q1, q2, if_pos (by rfl)] at hTj; exact ⟨j + 1, by omega, by omega, Weak.ren _ [] hC rfl (by rw [hTj]; repeat (first | exact True.intro | refine And.intro ?_ ?_ | exact DLead.same)) (by repeat (exact True.intro)) rfl rfl rfl⟩)
    refine zy ?_;refine zm ?_;refine zy ?_;refine zm ?_;refine AL.caseGB rfl rfl (fun h4 => ?_) (fun h4 => ?_)
    ·refine zy ?_;refine zm ?_;refine zy ?_;refine zQ ?_;refine zy ?_;refine zm ?_;refine AL.caseGB rfl rfl (fun h5 => ?_) (fun h5 => ?_)
     ·refine zy ?_;refine zm ?_;refine zy ?_;refine kC ?_;refine zy ?_;refine zQ ?_;refine zP ?_;refine AL.nil (th_n ?_);refine AC.condB rfl (fun h6 => ?_) (fun h6 => ?_)
      ·refine AC.region ?_;refine zm ?_;refine zF ?_;refine zl ?_;refine zF ?_;refine zl ?_;refine AL.p (by exact g_build rfl rfl rfl) rfl ?_;refine kV en_l10Put hPt ?_;refine za ?_;refine AL.nil (ib_n (th_n (AC.region ?_)));refine zA ?_;refine zm ?_;refine AL.nil (th_n ?_)
       (have q0 := ‹o = true›; have q1 := ‹b1 = true›; have q2 := ‹(!b2) = true›; rw [q0, q1, q2, if_pos (by simp)] at hTj; exact ⟨j + 1, by omega, by omega, Weak.ren _ [] hC rfl (by rw [hTj]; repeat (first | exact True.intro | refine And.intro ?_ ?_ | exact DLead.same)) (by repeat (exact True.intro)) rfl rfl rfl⟩)
      refine AC.skip (ib_n (th_n (AC.region ?_)));refine zA ?_;refine zm ?_;refine AL.nil (th_n ?_)
      (rw [if_neg (by clear hH hHf hHt hPt hTj hT; cases o <;> cases b1 <;> cases b2 <;> first | decide | (exfalso; exact absurd ‹(!true) = true› (by decide)))] at hTj; exact ⟨j + 1, by omega, by omega, Weak.ren _ [] hC rfl (by rw [hTj]; repeat (first | exact True.intro | refine And.intro ?_ ?_ | exact DLead.same)) (by repeat (exact True.intro)) rfl rfl rfl⟩)
     refine zn ?_;refine zn ?_;refine zy ?_;refine zP ?_;refine zP ?_;refine AL.nil (th_n ?_);refine AC.condF rfl ?_;refine AC.skip (ib_n (th_n (AC.region ?_)));refine zA ?_;refine zm ?_;refine AL.nil (th_n ?_)
     (rw [if_neg (by clear hH hHf hHt hPt hTj hT; cases o <;> cases b1 <;> cases b2 <;> first | decide | (exfalso; exact absurd ‹(!true) = true› (by decide)))] at hTj; exact ⟨j + 1, by omega, by omega, Weak.ren _ [] hC rfl (by rw [hTj]; repeat (first | exact True.intro | refine And.intro ?_ ?_ | exact DLead.same)) (by repeat (exact True.intro)) rfl rfl rfl⟩)
    refine zn ?_;refine zy ?_;refine zP ?_;refine zy ?_;refine zm ?_;refine zn ?_;refine zn ?_;refine zy ?_;refine zP ?_;refine zP ?_;refine AL.nil (th_n ?_);refine AC.condF rfl ?_;refine AC.skip (ib_n (th_n (AC.region ?_)));refine zA ?_;refine zm ?_;refine AL.nil (th_n ?_)
    (rw [if_neg (by clear hH hHf hHt hPt hTj hT; cases o <;> cases b1 <;> cases b2 <;> first | decide | (exfalso; first | exact absurd ‹(!true) = true› (by decide) | exact absurd ‹(!false) = false› (by decide)))] at hTj; exact ⟨j + 1, by omega, by omega, Weak.ren _ [] hC rfl (by rw [hTj]; repeat (first | exact True.intro | refine And.intro ?_ ?_ | exact DLead.same)) (by repeat (exact True.intro)) rfl rfl rfl⟩)
   refine zn ?_;refine zP ?_;refine zm ?_;refine zy ?_;refine zm ?_;refine zy ?_;refine zm ?_;refine AL.caseGB rfl rfl (fun h3 => ?_) (fun h3 => ?_)
   ·refine zy ?_;refine zm ?_;refine zy ?_;refine zQ ?_;refine zy ?_;refine zm ?_;refine AL.caseGB rfl rfl (fun h4 => ?_) (fun h4 => ?_)
    ·refine zy ?_;refine zm ?_;refine zy ?_;refine kC ?_;refine zy ?_;refine zQ ?_;refine zP ?_;refine AL.nil (th_n ?_);refine AC.condB rfl (fun h5 => ?_) (fun h5 => ?_)
     ·refine AC.region ?_;refine zm ?_;refine zF ?_;refine zl ?_;refine zF ?_;refine zl ?_;refine AL.p (by exact g_build rfl rfl rfl) rfl ?_;refine kV en_l10Put hPt ?_;refine za ?_;refine AL.nil (ib_n (th_n (AC.region ?_)));refine zA ?_;refine zm ?_;refine AL.nil (th_n ?_)
      (have q0 := ‹o = true›; have q1 := ‹b1 = true›; have q2 := ‹(!b2) = true›; rw [q0, q1, q2, if_pos (by simp)] at hTj; exact ⟨j + 1, by omega, by omega, Weak.ren _ [] hC rfl (by rw [hTj]; repeat (first | exact True.intro | refine And.intro ?_ ?_ | exact DLead.same)) (by repeat (exact True.intro)) rfl rfl rfl⟩)
     refine AC.skip (ib_n (th_n (AC.region ?_)));refine zA ?_;refine zm ?_;refine AL.nil (th_n ?_)
     (rw [if_neg (by clear hH hHf hHt hPt hTj hT; cases o <;> cases b1 <;> cases b2 <;> first | decide | (exfalso; exact absurd ‹(!true) = true› (by decide)))] at hTj; exact ⟨j + 1, by omega, by omega, Weak.ren _ [] hC rfl (by rw [hTj]; repeat (first | exact True.intro | refine And.intro ?_ ?_ | exact DLead.same)) (by repeat (exact True.intro)) rfl rfl rfl⟩)
    refine zn ?_;refine zn ?_;refine zy ?_;refine zP ?_;refine zP ?_;refine AL.nil (th_n ?_);refine AC.condF rfl ?_;refine AC.skip (ib_n (th_n (AC.region ?_)));refine zA ?_;refine zm ?_;refine AL.nil (th_n ?_)
    (rw [if_neg (by clear hH hHf hHt hPt hTj hT; cases o <;> cases b1 <;> cases b2 <;> first | decide | (exfalso; exact absurd ‹(!true) = true› (by decide)))] at hTj; exact ⟨j + 1, by omega, by omega, Weak.ren _ [] hC rfl (by rw [hTj]; repeat (first | exact True.intro | refine And.intro ?_ ?_ | exact DLead.same)) (by repeat (exact True.intro)) rfl rfl rfl⟩)
   refine zn ?_;refine zy ?_;refine zP ?_;refine zy ?_;refine zm ?_;refine zn ?_;refine zn ?_;refine zy ?_;refine zP ?_;refine zP ?_;refine AL.nil (th_n ?_);refine AC.condF rfl ?_;refine AC.skip (ib_n (th_n (AC.region ?_)));refine zA ?_;refine zm ?_;refine AL.nil (th_n ?_)
   (rw [if_neg (by clear hH hHf hHt hPt hTj hT; cases o <;> cases b1 <;> cases b2 <;> first | decide | (exfalso; first | exact absurd ‹(!true) = true› (by decide) | exact absurd ‹(!false) = false› (by decide)))] at hTj; exact ⟨j + 1, by omega, by omega, Weak.ren _ [] hC rfl (by rw [hTj]; repeat (first | exact True.intro | refine And.intro ?_ ?_ | exact DLead.same)) (by repeat (exact True.intro)) rfl rfl rfl⟩)
  refine zn ?_;refine zn ?_;refine zP ?_;refine zm ?_;refine zn ?_;refine zP ?_;refine zm ?_;refine zy ?_;refine zm ?_;refine zy ?_;refine zm ?_;refine AL.caseGB rfl rfl (fun h2 => ?_) (fun h2 => ?_)
  ·refine zy ?_;refine zm ?_;refine zy ?_;refine zQ ?_;refine zy ?_;refine zm ?_;refine AL.caseGB rfl rfl (fun h3 => ?_) (fun h3 => ?_)
   ·refine zy ?_;refine zm ?_;refine zy ?_;refine kC ?_;refine zy ?_;refine zQ ?_;refine zP ?_;refine AL.nil (th_n ?_);refine AC.condB rfl (fun h4 => ?_) (fun h4 => ?_)
    ·refine AC.region ?_;refine zm ?_;refine zF ?_;refine zl ?_;refine zF ?_;refine zl ?_;refine AL.p (by exact g_build rfl rfl rfl) rfl ?_;refine kV en_l10Put hPt ?_;refine za ?_;refine AL.nil (ib_n (th_n (AC.region ?_)));refine zA ?_;refine zm ?_;refine AL.nil (th_n ?_)
     (have q0 := ‹o = true›; have q1 := ‹b1 = true›; have q2 := ‹(!b2) = true›; rw [q0, q1, q2, if_pos (by simp)] at hTj; exact ⟨j + 1, by omega, by omega, Weak.ren _ [] hC rfl (by rw [hTj]; repeat (first | exact True.intro | refine And.intro ?_ ?_ | exact DLead.same)) (by repeat (exact True.intro)) rfl rfl rfl⟩)
    refine AC.skip (ib_n (th_n (AC.region ?_)));refine zA ?_;refine zm ?_;refine AL.nil (th_n ?_)
    (rw [if_neg (by clear hH hHf hHt hPt hTj hT; cases o <;> cases b1 <;> cases b2 <;> first | decide | (exfalso; first | exact absurd ‹(!true) = true› (by decide) | exact absurd ‹(!false) = false› (by decide)))] at hTj; exact ⟨j + 1, by omega, by omega, Weak.ren _ [] hC rfl (by rw [hTj]; repeat (first | exact True.intro | refine And.intro ?_ ?_ | exact DLead.same)) (by repeat (exact True.intro)) rfl rfl rfl⟩)
   refine zn ?_;refine zn ?_;refine zy ?_;refine zP ?_;refine zP ?_;refine AL.nil (th_n ?_);refine AC.condF rfl ?_;refine AC.skip (ib_n (th_n (AC.region ?_)));refine zA ?_;refine zm ?_;refine AL.nil (th_n ?_)
   (rw [if_neg (by clear hH hHf hHt hPt hTj hT; cases o <;> cases b1 <;> cases b2 <;> first | decide | (exfalso; first | exact absurd ‹(!true) = true› (by decide) | exact absurd ‹(!false) = false› (by decide)))] at hTj; exact ⟨j + 1, by omega, by omega, Weak.ren _ [] hC rfl (by rw [hTj]; repeat (first | exact True.intro | refine And.intro ?_ ?_ | exact DLead.same)) (by repeat (exact True.intro)) rfl rfl rfl⟩)
  refine zn ?_;refine zy ?_;refine zP ?_;refine zy ?_;refine zm ?_;refine zn ?_;refine zn ?_;refine zy ?_;refine zP ?_;refine zP ?_;refine AL.nil (th_n ?_);refine AC.condF rfl ?_;refine AC.skip (ib_n (th_n (AC.region ?_)));refine zA ?_;refine zm ?_;refine AL.nil (th_n ?_)
  (rw [if_neg (by clear hH hHf hHt hPt hTj hT; cases o <;> cases b1 <;> cases b2 <;> first | decide | (exfalso; exact absurd ‹(!false) = false› (by decide)))] at hTj; exact ⟨j + 1, by omega, by omega, Weak.ren _ [] hC rfl (by rw [hTj]; repeat (first | exact True.intro | refine And.intro ?_ ?_ | exact DLead.same)) (by repeat (exact True.intro)) rfl rfl rfl⟩)
 refine AC.exit (th_e (th_e (ib_y (th_n (AC.seq ?_)))));have hjj : j = c.arcs.length := by omega
 rw [hjj];refine AC.region ?_;refine zm ?_;refine za ?_;refine AL.nil (th_n (AC.ret (bq_r ?_)));exact ret1 rfl rfl
theorem en_l10Into : Enters Tryz.prog 76 := enters_of Tryz.func76 rfl rfl
theorem sEntL_spec (c : SG) (s : List Int) (hs : s.length ≤ 1000000) (hc : SgL c) : ASpec Tryz.prog 23 [sgA c, .d (vI s)] [] (Pure1 (.tup [.d (vKL (brR c false s).1), aT (brR c false s).2])) := by
 have hH := l10Set_spec c s (by omega) hc;have hE := l10Into_spec c s false hc.a hs;have hR : brR c false s = if setQ c s = true then (brP c false s c.arcs.length, true) else ([], false) := rfl
 obtain ⟨b, e⟩ := eqx (setQ c s);rw [← e] at hH hR;obtain ⟨R, hRR⟩ := eqx (brR c false s);rw [← hRR] at hR ⊢;obtain ⟨L, hL⟩ := eqx (brP c false s c.arcs.length);rw [← hL] at hE hR;clear e hRR hL;refine ASpec.of Tryz.func23 rfl rfl fun C hC => ?_
 refine AC.seq (AC.region ?_);refine kD ?_;refine za ?_;refine za ?_;refine AL.nil (th_n (AC.seq (AC.seq (AC.region ?_))));refine kG ?_;refine zm ?_;refine kV en_l10Set hH ?_;refine kC ?_;refine AL.nil (th_n ?_);refine AC.condB rfl (fun h0 => ?_) (fun h0 => ?_)
 ·refine AC.seq (AC.region ?_);refine za ?_;refine za ?_;refine AL.nil (th_n (AC.ret (th_r (bq_r ?_))));have e : R = ([], false) := hR.trans (if_neg (by simpa using ‹(!b) = true›));exact ret0 rfl (by rw [e]; show AV.leads _ (.tup [.d (vKL []), aT false]) _; repeat (first | exact DLead.same | exact DLead.nil | exact rfl | refine ⟨_, rfl, ?_⟩ | refine ⟨_, _, rfl, ?_, ?_⟩))
 refine AC.skip (th_n (AC.seq (AC.region ?_)));refine kG ?_;refine zm ?_;refine kV en_l10Into hE ?_;refine za ?_;refine za ?_;refine AL.nil (th_n (AC.ret (bq_r ?_)));have e : R = (L, true) := hR.trans (if_pos (by simpa using ‹(!b) = false›));exact ret0 rfl (by rw [e]; show AV.leads _ (.tup [.d (vKL L), aT true]) _; repeat (first | exact DLead.same | exact rfl | refine ⟨_, rfl, ?_⟩ | refine ⟨_, _, rfl, ?_, ?_⟩))
theorem en_sEntL : Enters Tryz.prog 23 := enters_of Tryz.func23 rfl rfl
theorem sExiL_spec (c : SG) (s : List Int) (hs : s.length ≤ 1000000) (hc : SgL c) : ASpec Tryz.prog 25 [sgA c, .d (vI s)] [] (Pure1 (.tup [.d (vKL (brR c true s).1), aT (brR c true s).2])) := by
 have hH := l10Set_spec c s (by omega) hc;have hE := l10Into_spec c s true hc.a hs;have hR : brR c true s = if setQ c s = true then (brP c true s c.arcs.length, true) else ([], false) := rfl
 obtain ⟨b, e⟩ := eqx (setQ c s);rw [← e] at hH hR;obtain ⟨R, hRR⟩ := eqx (brR c true s);rw [← hRR] at hR ⊢;obtain ⟨L, hL⟩ := eqx (brP c true s c.arcs.length);rw [← hL] at hE hR;clear e hRR hL;refine ASpec.of Tryz.func25 rfl rfl fun C hC => ?_
 refine AC.seq (AC.region ?_);refine kD ?_;refine za ?_;refine za ?_;refine AL.nil (th_n (AC.seq (AC.seq (AC.region ?_))));refine kG ?_;refine zm ?_;refine kV en_l10Set hH ?_;refine kC ?_;refine AL.nil (th_n ?_);refine AC.condB rfl (fun h0 => ?_) (fun h0 => ?_)
 ·refine AC.seq (AC.region ?_);refine za ?_;refine za ?_;refine AL.nil (th_n (AC.ret (th_r (bq_r ?_))));have e : R = ([], false) := hR.trans (if_neg (by simpa using ‹(!b) = true›));exact ret0 rfl (by rw [e]; show AV.leads _ (.tup [.d (vKL []), aT false]) _; repeat (first | exact DLead.same | exact DLead.nil | exact rfl | refine ⟨_, rfl, ?_⟩ | refine ⟨_, _, rfl, ?_, ?_⟩))
 refine AC.skip (th_n (AC.seq (AC.region ?_)));refine kG ?_;refine zm ?_;refine kV en_l10Into hE ?_;refine za ?_;refine za ?_;refine AL.nil (th_n (AC.ret (bq_r ?_)));have e : R = (L, true) := hR.trans (if_pos (by simpa using ‹(!b) = false›));exact ret0 rfl (by rw [e]; show AV.leads _ (.tup [.d (vKL L), aT true]) _; repeat (first | exact DLead.same | exact rfl | refine ⟨_, rfl, ?_⟩ | refine ⟨_, _, rfl, ?_, ?_⟩))
theorem en_sExiL : Enters Tryz.prog 25 := enters_of Tryz.func25 rfl rfl
def crA (s : List Int) (a : Ar) : Int := crV (sdB s a.from_) (sdB s a.to_)
def rgnB (s : List Int) (a b : Ar) : Bool := (decide (0 ≤ a.sig) && isLb ⟨a.sig, a.up⟩ b) && !decide (crA s a = crA s b)
def rgnA (c : SG) (s : List Int) : Bool := (List.range c.arcs.length).all fun i => (List.range i).all fun j => !rgnB s (arAt c.arcs i) (arAt c.arcs j)
noncomputable def rgnR (c : SG) (s : List Int) : Bool × Bool := if setQ c s = true then (rgnA c s, true) else (false, false)
theorem rgnA_iff {c : SG} {s : List Int} : rgnA c s = true ↔ ∀ i j, i < c.arcs.length → j < i → rgnB s (arAt c.arcs i) (arAt c.arcs j) = false := by
 unfold rgnA;simp only [List.all_eq_true, List.mem_range, Bool.not_eq_true'];exact ⟨fun h i j hi hj => h i hi j hj, fun h i hi j hj => h i j hi hj⟩
set_option maxHeartbeats 8000000 in
theorem sIsR_spec (c : SG) (s : List Int) (hs : s.length ≤ 1000000) (hc : SgL c) : ASpec Tryz.prog 28 [sgA c, .d (vI s)] [] (Pure1 (.tup [aT (rgnR c s).1, aT (rgnR c s).2])) := by
 have hH := l10Set_spec c s (by omega) hc;have hl := hc.a;have hCr := fun a => l10Cross_spec a s hs
 have hI := @rgnA_iff c s;have hR : rgnR c s = if setQ c s = true then (rgnA c s, true) else (false, false) := rfl
 obtain ⟨b0, e⟩ := eqx (setQ c s);rw [← e] at hH hR;obtain ⟨R, hRR⟩ := eqx (rgnR c s);rw [← hRR] at hR ⊢;clear e hRR;have hC1 : ∀ a b, rgnB s a b = ((decide (0 ≤ a.sig) && isLb ⟨a.sig, a.up⟩ b) && !decide (crA s a = crA s b)) := fun _ _ => rfl
 refine ASpec.of Tryz.func28 rfl rfl fun C hC => ?_
 refine AC.seq (AC.region ?_);refine kD ?_;refine za ?_;refine za ?_;refine AL.nil (th_n (AC.seq (AC.seq (AC.region ?_))));refine kG ?_;refine zm ?_;refine kV en_l10Set hH ?_;refine kC ?_;refine AL.nil (th_n ?_);refine AC.condB rfl (fun h0 => ?_) (fun h0 => ?_)
 ·refine AC.seq (AC.region ?_);refine za ?_;refine za ?_;refine AL.nil (th_n (AC.ret (th_r (bq_r ?_))));have e : R = (false, false) := hR.trans (if_neg (by simpa using ‹(!b0) = true›));exact ret0 rfl (by rw [e]; show AV.leads _ (.tup [aT false, aT false]) _; repeat (first | exact DLead.same | exact rfl | refine ⟨_, rfl, ?_⟩ | refine ⟨_, _, rfl, ?_, ?_⟩))
 refine AC.skip (th_n (AC.seq (AC.seq ?_)));have hb1 : b0 = true := by simpa using ‹(!b0) = false›
 rw [if_pos hb1] at hR;refine AC.region ?_;refine zf ?_;refine zr ?_;refine kI c.arcs.length (arL_len _) ?_;refine zm ?_;refine AL.nil (th_n (AC.block ?_));refine AC.loop (ι := Nat) (fun i => ⟨53, 300, [(1, .d (vI s)), (2, .d (.ref (sgD c))), (15, .d (vArs c.arcs)), (16, aI c.arcs.length), (17, aI i)], []⟩) (fun i => i ≤ c.arcs.length ∧ ∀ p q, p < i → q < p → rgnB s (arAt c.arcs p) (arAt c.arcs q) = false) (fun i => c.arcs.length - i) (0) ?_ (⟨Nat.zero_le _, fun p q h => absurd h (Nat.not_lt_zero _)⟩) ?_
 ·exact Weak.ren _ [] hC rfl (by repeat (first | exact True.intro | refine And.intro ?_ ?_ | exact DLead.same)) (by repeat (exact True.intro)) rfl rfl rfl
 rintro i ⟨hi, hall⟩;refine AC.seq (AC.region ?_);refine zc ?_;refine AL.nil (th_n (AC.seq ?_));refine AC.condD rfl (fun h1 => ?_) (fun h1 => ?_)
 ·refine AC.skip (th_n (AC.seq (AC.block (AC.seq ?_))));have hi1 : i < c.arcs.length := by omega
  have hget := arL_get hi1;have hAi := arAt_nat hi1;obtain ⟨a, ha⟩ := eqx (c.arcs[i]);rw [← ha] at hget hAi;clear ha;have hCa := hCr a;refine AC.region ?_;refine zm ?_;refine AL.p (by exact g_ia_view rfl rfl rfl rfl rfl (by rfl) (by assumption)) rfl ?_;refine kG ?_;refine kE ?_;refine za ?_;refine zs ?_;refine AL.nil (th_n (AC.seq ?_));refine AC.weak (t := ⟨53, 600, [(1, .d (vI s)), (2, .d (.ref (sgD c))), (6, aI i), (7, .ptr 201 0), (15, .d (vArs c.arcs)), (16, aI c.arcs.length), (17, aI i)], [(201, some (.cells 73 [aI a.from_, aI a.sig, aT a.up, aI a.to_]))]⟩) (zw [(201, _)] hC) ?_;refine AC.region ?_;refine zf ?_;refine zr ?_;refine zm ?_;refine AL.p (by exact g_slice_view (r := arL (c.arcs.take i)) rfl rfl rfl rfl .none (.some rfl rfl) (Nat.zero_le _) (by rw [arL_len]; exact hi) (by unfold arL; rw [List.map_take]; simp)) rfl ?_;refine AL.p (by exact g_len_view (k := i) rfl rfl (by rw [arL_len, List.length_take]; omega)) rfl ?_;refine zm ?_;refine AL.nil (th_n (AC.block ?_));refine AC.loop (ι := Nat) (fun j => ⟨53, 900, [(1, .d (vI s)), (2, .d (.ref (sgD c))), (6, aI i), (7, .ptr 201 0), (15, .d (vArs c.arcs)), (16, aI c.arcs.length), (17, aI i), (25, .d (vArs (c.arcs.take i))), (26, aI i), (27, aI j)], [(201, some (.cells 73 [aI a.from_, aI a.sig, aT a.up, aI a.to_]))]⟩) (fun j => j ≤ i ∧ ∀ q, q < j → rgnB s a (arAt c.arcs q) = false) (fun j => i - j) (0) ?_ (⟨Nat.zero_le _, fun q h => absurd h (Nat.not_lt_zero _)⟩) ?_
  ·exact zw [(201, 201)] hC
  rintro j ⟨hj, hin⟩;refine AC.seq (AC.region ?_);refine zc ?_;refine AL.nil (th_n (AC.seq ?_));refine AC.condD rfl (fun h2 => ?_) (fun h2 => ?_)
  ·refine AC.skip (th_n (AC.seq (AC.block (AC.seq ?_))));have hj1 : j < i := by omega
   have hjc : j < c.arcs.length := by omega
   have hgj := arL_get (l := c.arcs.take i) (k := j) (by rw [List.length_take]; omega);rw [List.getElem_take] at hgj;have hAj := arAt_nat hjc;obtain ⟨d, hd⟩ := eqx (c.arcs[j]);rw [← hd] at hgj hAj;clear hd;have hCd := hCr d;have hLs := l10Is_spec d a.sig a.up;have hCl := hC1 a d;obtain ⟨b1, e1⟩ := eqx (isLb ⟨a.sig, a.up⟩ d);rw [← e1] at hLs hCl;have hCa1 := hCa;rw [show crV (sdB s a.from_) (sdB s a.to_) = crA s a from rfl] at hCa1;rw [show crV (sdB s d.from_) (sdB s d.to_) = crA s d from rfl] at hCd;obtain ⟨v1, e2⟩ := eqx (crA s a);obtain ⟨v2, e3⟩ := eqx (crA s d);rw [← e2] at hCa1 hCl;rw [← e3] at hCd hCl;obtain ⟨n1, e4⟩ := eqx (!decide (v1 = v2));obtain ⟨g1, e5⟩ := eqx (decide (0 ≤ a.sig));rw [← e4, ← e5] at hCl;clear e1 e2 e3;refine AC.region ?_;refine AL.p (by exact g_ia_view (i := j) rfl rfl rfl rfl rfl rfl hgj) rfl ?_;refine kG ?_;refine kE ?_;refine zs ?_;refine AL.nil (th_n (AC.seq ?_));refine AC.drawn' mixed_ok [[], [0], [0,1], [0,1,2], [0,1,2,3], [0,1,2,3], [0,1,2,3,5], [0,1,2,3], [0,1,2,3,7], [0,1,2,3,4,5,6,7,8], [0,1,2,3,4,5,6,7,8,9], [0,1,2,3,4,5,6,7,8,9,10], [0,1,2,3,4,5,6,7,8,9,10,11], [0,1,2,3,4,5,6,7,8,9,10,11], [0,1,2,3,4,5,6,7,8,9,10,11,12,13], [0,1,2,3,4,5,6,7,8,9,10,11], [0,1,2,3,4,5,6,7,8,9,10,11], [0,1,2,3,4,5,6,7,8,9,10,11,12,13,14,15,16], [0,1,2,3,4,5,6,7,8,9,10,11,12,13,14,15,16,17], [0,1,2,3,4,5,6,7,8,9,10,11,12,13,14,15,16,17,18]] (by decide) ?_;refine zd 0 [] 20 (by exact g_fa_ptr rfl rfl rfl rfl rfl) ?_;refine zd 1 [0] 20 (by exact g_load_ptr rfl rfl rfl rfl rfl) ?_;refine zd 2 [0,1] 20 (by exact g_cmp (r := g1) rfl rfl (congrArg some e5.symm)) ?_;refine zd 3 [0,1,2] 20 (by exact mv1 rfl) ?_;refine DF.caseB 3 rfl (fun h3 => ?_) (fun h3 => ?_)
   ·refine ze 4 [0,1,2,3] 20 (by exact g_load_ptrN rfl rfl rfl rfl rfl) ?_;refine ze 5 [0,1,2,3] 20 (by exact g_fa_ptr rfl rfl rfl rfl rfl) ?_;refine ze 6 [0,1,2,3,5] 20 (by exact g_load_ptr rfl rfl rfl rfl rfl) ?_;refine ze 7 [0,1,2,3] 20 (by exact g_fa_ptr rfl rfl rfl rfl rfl) ?_;refine ze 8 [0,1,2,3,7] 20 (by exact g_load_ptr rfl rfl rfl rfl rfl) ?_;refine zi 9 (List.range 9) 20 (by exact h_pure en_l10Is rfl rfl (by repeat (first | exact rfl | exact DLead.same | refine ⟨_, _, rfl, ?_, ?_⟩ | refine ⟨_, rfl, ?_⟩)) hLs rfl) ?_;refine zd 10 (List.range 10) 20 (by exact g_pickT (r := .d _) rfl rfl) ?_;refine zd 11 (List.range 11) 20 (by exact mv1 rfl) ?_;refine DF.caseB 11 rfl (fun h4 => ?_) (fun h4 => ?_)
    ·refine ze 12 (List.range 12) 20 (by exact g_load_ptrN rfl rfl rfl rfl rfl) ?_;refine ze 13 (List.range 12) 20 (by exact mv1 rfl) ?_;refine zi 14 (List.range 14) 20 (by exact h_pure en_l10Cross rfl rfl (by repeat (first | exact rfl | exact DLead.same | refine ⟨_, _, rfl, ?_, ?_⟩ | refine ⟨_, rfl, ?_⟩)) hCa1 rfl) ?_;refine ze 15 (List.range 12) 20 (by exact g_load_ptrN rfl rfl rfl rfl rfl) ?_;refine ze 16 (List.range 12) 20 (by exact mv1 rfl) ?_;refine zi 17 (List.range 17) 20 (by exact h_pure en_l10Cross rfl rfl (by repeat (first | exact rfl | exact DLead.same | refine ⟨_, _, rfl, ?_, ?_⟩ | refine ⟨_, rfl, ?_⟩)) hCd rfl) ?_;refine ze 18 (List.range 18) 20 (by exact g_cmp (r := n1) rfl rfl (congrArg some e4.symm)) ?_;refine zd 19 (List.range 19) 20 (by exact g_pickT (r := .d _) rfl rfl) ?_;refine zj 20 ?_;refine th_n ?_;refine AC.condB rfl (fun h5 => ?_) (fun h5 => ?_)
     ·refine AC.seq (AC.region ?_);refine za ?_;refine za ?_;refine AL.nil (th_n (AC.ret (ib_r (th_r (th_r (ib_r (ib_r (th_r (th_r (ib_r (th_r (bq_r ?_))))))))))));have q1 := ‹g1 = true›;have q2 := ‹b1 = true›;have q3 := ‹n1 = true›;have hf : rgnA c s = false := by cases h : rgnA c s with | false => rfl | true => (have h2 := hI.1 h i j hi1 hj1; rw [hAi, hAj, hCl, q1, q2, q3] at h2; cases h2)
      exact ret0 rfl (by rw [hR, hf]; show AV.leads _ (.tup [aT false, aT true]) _; repeat (first | exact DLead.same | exact rfl | refine ⟨_, rfl, ?_⟩ | refine ⟨_, _, rfl, ?_, ?_⟩))
     refine AC.skip (ib_n (th_n (AC.region ?_)));refine zA ?_;refine zm ?_;refine AL.nil (th_n ?_);have hq : rgnB s a d = false := by rw [hCl]; (rw [‹n1 = false›, Bool.and_false])
     exact ⟨j + 1, ⟨by omega, fun q h => by rcases Nat.lt_succ_iff_lt_or_eq.1 h with h | h; (exact hin q h); (rw [h, hAj]; exact hq)⟩, by omega, zw [(201, 201)] hC⟩
    refine zg 12 (List.range 12) 20 ?_;refine zg 13 (List.range 12) 20 ?_;refine zg 14 (List.range 14) 20 ?_;refine zg 15 (List.range 12) 20 ?_;refine zg 16 (List.range 12) 20 ?_;refine zg 17 (List.range 17) 20 ?_;refine zg 18 (List.range 18) 20 ?_;refine zd 19 (List.range 19) 20 (by exact g_pickF (r := .d _) rfl rfl) ?_;refine zj 20 ?_;refine th_n ?_;refine AC.condF rfl ?_;refine AC.skip (ib_n (th_n (AC.region ?_)));refine zA ?_;refine zm ?_;refine AL.nil (th_n ?_);have hq : rgnB s a d = false := by rw [hCl]; (rw [‹b1 = false›, Bool.and_false]; rfl)
    exact ⟨j + 1, ⟨by omega, fun q h => by rcases Nat.lt_succ_iff_lt_or_eq.1 h with h | h; (exact hin q h); (rw [h, hAj]; exact hq)⟩, by omega, zw [(201, 201)] hC⟩
   refine zg 4 [0,1,2,3] 20 ?_;refine zg 5 [0,1,2,3] 20 ?_;refine zg 6 [0,1,2,3,5] 20 ?_;refine zg 7 [0,1,2,3] 20 ?_;refine zg 8 [0,1,2,3,7] 20 ?_;refine zg 9 (List.range 9) 20 ?_;refine zd 10 (List.range 10) 20 (by exact g_pickF (r := .d _) rfl rfl) ?_;refine zd 11 (List.range 11) 20 (by exact mv1 rfl) ?_;refine zg 12 (List.range 12) 20 ?_;refine zg 13 (List.range 12) 20 ?_;refine zg 14 (List.range 14) 20 ?_;refine zg 15 (List.range 12) 20 ?_;refine zg 16 (List.range 12) 20 ?_;refine zg 17 (List.range 17) 20 ?_;refine zg 18 (List.range 18) 20 ?_;refine zd 19 (List.range 19) 20 (by exact g_pickF (r := .d _) rfl rfl) ?_;refine zj 20 ?_;refine th_n ?_;refine AC.condF rfl ?_;refine AC.skip (ib_n (th_n (AC.region ?_)));refine zA ?_;refine zm ?_;refine AL.nil (th_n ?_);have hq : rgnB s a d = false := by rw [hCl]; (rw [‹g1 = false›]; rfl)
   exact ⟨j + 1, ⟨by omega, fun q h => by rcases Nat.lt_succ_iff_lt_or_eq.1 h with h | h; (exact hin q h); (rw [h, hAj]; exact hq)⟩, by omega, zw [(201, 201)] hC⟩
  refine AC.exit (th_e (th_e (ib_y (ib_n (th_n (AC.region ?_))))));refine zA ?_;refine zm ?_;refine AL.nil (th_n ?_);have hji : j = i := by omega
  exact ⟨i + 1, ⟨by omega, fun p q h h2 => by rcases Nat.lt_succ_iff_lt_or_eq.1 h with h | h; (exact hall p q h h2); (rw [h] at h2 ⊢; rw [hAi]; exact hin q (by omega))⟩, by omega, Weak.ren _ [] hC rfl (by repeat (first | exact True.intro | refine And.intro ?_ ?_ | exact DLead.same)) (by repeat (exact True.intro)) rfl rfl rfl⟩
 refine AC.exit (th_e (th_e (ib_y (th_n (AC.seq ?_)))));have hii : i = c.arcs.length := by omega
 rw [hii] at hall;have ht : rgnA c s = true := hI.2 hall;refine AC.region ?_;refine za ?_;refine za ?_;refine AL.nil (th_n (AC.ret (bq_r ?_)));exact ret0 rfl (by rw [hR, ht]; show AV.leads _ (.tup [aT true, aT true]) _; repeat (first | exact DLead.same | exact rfl | refine ⟨_, rfl, ?_⟩ | refine ⟨_, _, rfl, ?_, ?_⟩))
theorem en_sIsR : Enters Tryz.prog 28 := enters_of Tryz.func28 rfl rfl
theorem mostL_spec (a b : Int) : ASpec Tryz.prog 90 [aI a, aI b] [] (Pure1 (aI (max a b))) := by
 refine ASpec.of Tryz.func90 rfl rfl fun C hC => ?_
 refine AC.seq (AC.region ?_);refine za ?_;refine AL.nil (th_n (AC.seq (AC.seq (AC.region ?_))));refine zm ?_;refine zm ?_;refine zc ?_;refine AL.nil (th_n ?_);refine AC.condD rfl (fun h0 => ?_) (fun h0 => ?_)
 ·refine AC.seq (AC.region ?_);refine zm ?_;refine za ?_;refine AL.nil (th_n (AC.ret (th_r (bq_r ?_))));exact ret1 rfl (by rw [Int.max_eq_left (by omega)])
 refine AC.skip (th_n (AC.seq (AC.region ?_)));refine zm ?_;refine za ?_;refine AL.nil (th_n (AC.ret (bq_r ?_)));exact ret1 rfl (by rw [Int.max_eq_right (by omega)])
theorem en_l1Most : Enters Tryz.prog 90 := enters_of Tryz.func90 rfl rfl
theorem en_l10Long : Enters Tryz.prog 91 := enters_of Tryz.func91 rfl rfl
def mxL (f : Int → Nat) (l : List Int) : Nat := l.foldl (fun m v => max m (1 + f v)) 0
theorem mxF_ge (f : Int → Nat) : ∀ (l : List Int) (m : Nat), m ≤ l.foldl (fun m v => max m (1 + f v)) m
 | [], m => Nat.le_refl _
 | x :: l, m => Nat.le_trans (Nat.le_max_left _ _) (mxF_ge f l _)
theorem mxF_mem (f : Int → Nat) : ∀ (l : List Int) (m : Nat) (v : Int), v ∈ l → 1 + f v ≤ l.foldl (fun m v => max m (1 + f v)) m
 | x :: l, m, v, h => by
  rcases List.mem_cons.1 h with rfl | h
  ·exact Nat.le_trans (Nat.le_max_right _ _) (mxF_ge f l _)
  exact mxF_mem f l _ v h
theorem mxF_le (f : Int → Nat) (b : Nat) : ∀ (l : List Int) (m : Nat), m ≤ b → (∀ v, v ∈ l → 1 + f v ≤ b) → l.foldl (fun m v => max m (1 + f v)) m ≤ b
 | [], m, hm, _ => hm
 | x :: l, m, hm, h => mxF_le f b l _ (Nat.max_le.2 ⟨hm, h x List.mem_cons_self⟩) fun v hv => h v (List.mem_cons_of_mem _ hv)
theorem mxL_ext {f g : Int → Nat} {l l' : List Int} (h : ∀ v, v ∈ l ↔ v ∈ l') (hf : ∀ v, v ∈ l → f v = g v) : mxL f l = mxL g l' := by
 refine Nat.le_antisymm ?_ ?_
 ·exact mxF_le f _ l 0 (Nat.zero_le _) fun v hv => by rw [hf v hv]; exact mxF_mem g l' 0 v ((h v).1 hv)
 exact mxF_le g _ l' 0 (Nat.zero_le _) fun v hv => by rw [← hf v ((h v).2 hv)]; exact mxF_mem f l 0 v ((h v).2 hv)
theorem mxL_snoc (f : Int → Nat) (l : List Int) (v : Int) : mxL f (l ++ [v]) = max (mxL f l) (1 + f v) := by unfold mxL; rw [List.foldl_append]; rfl
def lpN (L : List Ar) (set : List Int) (k : Int) (met : List Int) : List Int := ((L.filter fun a => decide (a.from_ = k)).map Ar.to_).filter fun v => sdB set v && !sdB met v
def lpF (L : List Ar) (set : List Int) : Nat → Int → List Int → Nat
 | 0, _, _ => 0
 | n + 1, k, met => mxL (fun v => lpF L set n v (v :: met)) (lpN L set k met)
theorem lpN_mem {L : List Ar} {set : List Int} {k : Int} {met : List Int} {v : Int} : v ∈ lpN L set k met ↔ ((∃ a, a ∈ L ∧ a.from_ = k ∧ a.to_ = v) ∧ v ∈ set ∧ ¬ v ∈ met) := by
 unfold lpN sdB;rw [List.mem_filter, List.mem_map];simp only [List.mem_filter, decide_eq_true_eq, Bool.and_eq_true, Bool.not_eq_true', decide_eq_false_iff_not];constructor
 ·rintro ⟨⟨a, ⟨h1, h2⟩, h3⟩, h4⟩; exact ⟨⟨a, h1, h2, h3⟩, h4⟩
 rintro ⟨⟨a, h1, h2, h3⟩, h4⟩; exact ⟨⟨a, ⟨h1, h2⟩, h3⟩, h4⟩
theorem lpF_congr {L L' : List Ar} {set set' : List Int} (hL : ∀ k v, (∃ a, a ∈ L ∧ a.from_ = k ∧ a.to_ = v) ↔ ∃ a, a ∈ L' ∧ a.from_ = k ∧ a.to_ = v) (hS : ∀ v, v ∈ set ↔ v ∈ set') : ∀ (n : Nat) (k : Int) (met met' : List Int), (∀ v, v ∈ met ↔ v ∈ met') → lpF L set n k met = lpF L' set' n k met'
 | 0, _, _, _, _ => rfl
 | n + 1, k, met, met', h => mxL_ext (fun v => by rw [lpN_mem, lpN_mem, hL, hS, h]) fun v _ => lpF_congr hL hS n v _ _ fun w => by rw [List.mem_cons, List.mem_cons, h]
theorem lpF_le (L : List Ar) (set : List Int) : ∀ (n : Nat) (k : Int) (met : List Int), lpF L set n k met ≤ n
 | 0, _, _ => Nat.le_refl _
 | n + 1, k, met => mxF_le _ _ _ 0 (Nat.zero_le _) fun v _ => by have := lpF_le L set n v (v :: met); omega
def muM (set met : List Int) : Nat := (set.filter fun v => !sdB met v).length
theorem muM_put {set met met' : List Int} {v : Int} (hv : v ∈ set) (hm : ¬ v ∈ met) (h : ∀ w, w ∈ met' ↔ (w ∈ met ∨ w = v)) : muM set met' + 1 ≤ muM set met := by
 unfold muM
 induction set with
 | nil => cases hv
 | cons x set ih =>
  have hle : ∀ s : List Int, (s.filter fun w => !sdB met' w).length ≤ (s.filter fun w => !sdB met w).length := fun s => by
   induction s with
   | nil => exact Nat.le_refl _
   | cons y s ih2 =>
    rw [List.filter_cons, List.filter_cons]
    by_cases h1 : y ∈ met
    ·have h2 : y ∈ met' := (h y).2 (.inl h1);have e1 : sdB met y = true := decide_eq_true h1;have e2 : sdB met' y = true := decide_eq_true h2;rw [e1, e2]; exact ih2
    have e1 : sdB met y = false := decide_eq_false h1;rw [e1];cases sdB met' y
    ·simp only [Bool.not_false, if_true, List.length_cons]; omega
    simp only [Bool.not_false, if_true, List.length_cons, Bool.not_true, Bool.false_eq_true, if_false]; omega
  rw [List.filter_cons, List.filter_cons]
  by_cases hx : x = v
  ·subst hx;have e1 : sdB met x = false := decide_eq_false hm;have e2 : sdB met' x = true := decide_eq_true ((h x).2 (.inr rfl));rw [e1, e2];simp only [Bool.not_false, if_true, List.length_cons, Bool.not_true, Bool.false_eq_true, if_false];have := hle set;omega
  have hv2 : v ∈ set := (List.mem_cons.1 hv).resolve_left fun e => hx e.symm
  have ih := ih hv2
  by_cases h1 : x ∈ met
  ·have e1 : sdB met x = true := decide_eq_true h1;have e2 : sdB met' x = true := decide_eq_true ((h x).2 (.inl h1));rw [e1, e2]; exact ih
  have e1 : sdB met x = false := decide_eq_false h1;have e2 : sdB met' x = false := decide_eq_false fun q => by rcases (h x).1 q with q | q; exact h1 q; exact hx q
  rw [e1, e2];simp only [Bool.not_false, if_true, List.length_cons];omega
end Go.Proofs.YtbofmbjefbpnaaaGreat
