/- Contracts of the functions of the program and of the reference, each proved by a walk through its code. -/
import Derived.Test.YtjodfopifgiipaaGreatGGb9
set_option linter.all false
set_option maxRecDepth 20000
namespace Go.Proofs.YtjodfopifgiipaaGreat
open Go.RowKit
structure Pv where
 st : Int
 sg : Int
 by_ : Int
 deriving DecidableEq
abbrev pvD (d : Pv) : List DV := [dI d.st, dI d.sg, dI d.by_]
abbrev pvL (l : List Pv) : List (List DV) := l.map pvD
abbrev vPvs (l : List Pv) : DV := .view 152 3 (pvL l)
theorem pvL_len (l : List Pv) : (pvL l).length = l.length := List.length_map _
theorem h_appendPv (acc new : List Pv) {s : ASt} {dst : Option Nat} {ty : Nat} {pos : String} {af : Array Edge} {gd : Option (Nat × Bool)} {x y : Operand} {f : Nat} {ids ids2 : List Nat} {gone : List (Nat × Option Chunk)}
  (hto : AppTo s x 152 3 (pvL acc) ids gone) (harg : AppArg s y 3 (pvL new) ids2) (h : (acc ++ new).length ≤ 100000000) (hnew : gone = [] → 0 < new.length) :
  NOp Tryz.prog (ids ++ ids2) s ⟨dst, .call { callee := .builtin .append, args := #[x, y], argTypes := #[127, 127] }, ty, pos, af, gd⟩ f ⟨.own f (acc ++ new).length, (f, some (.arr 152 3 (pvL (acc ++ new)))) :: gone⟩ := by
 have := h_append (P := Tryz.prog) (s := s) (dst := dst) (ty := ty) (pos := pos) (af := af) (gd := gd) (x := x) (y := y) (f := f) (t := 127) (tx := 127) (k := (acc ++ new).length) rfl rfl rfl rfl rfl rfl hto harg (by simp) (by omega) (by show (acc ++ new).length * 24 ≤ _; omega) (fun h => by rw [pvL_len]; exact hnew h)
 rwa [← List.map_append] at this
def brkB (c : SG) (g i : Nat) : Bool := (!decide ((arAt c.arcs i).sig = (g : Int)) && !excB c (arAt c.arcs i).to_ (g : Int)) && (ownS c.sigs (g : Int) || ownS c.sigs (arAt c.arcs i).sig)
def row3 (c : SG) (k g : Nat) (l : List Nat) : List Pv := (l.filter (brkB c g)).map fun (i : Nat) => (⟨(k : Int), (g : Int), (i : Int)⟩ : Pv)
def row2 (c : SG) (k : Nat) : Nat → List Pv
 | 0 => []
 | g + 1 => row2 c k g ++ (if excB c (k : Int) (g : Int) = true then row3 c k g (nextL (fromE c.arcs) k) else [])
def row1 (c : SG) : Nat → List Pv
 | 0 => []
 | k + 1 => row1 c k ++ row2 c k c.sigs.length
def brkL (c : SG) : List Pv := row1 c c.codes.length
theorem row3_len (c : SG) (k g : Nat) (l : List Nat) : (row3 c k g l).length ≤ l.length := by
 unfold row3;rw [List.length_map];exact List.length_filter_le ..
theorem row2_len {c : SG} (hl : c.arcs.length ≤ 4000) (k : Nat) : ∀ g, (row2 c k g).length ≤ 4000 * g
 | 0 => Nat.le_refl _
 | g + 1 => by
  have ih := row2_len hl k g;have h3 := row3_len c k g (nextL (fromE c.arcs) k);have h4 := nextL_len (fromE c.arcs) k;rw [fromE_len] at h4;rw [row2, List.length_append]
  split
  ·omega
  simp only [List.length_nil]; omega
theorem row1_len {c : SG} (hl : c.arcs.length ≤ 4000) (h8 : c.sigs.length ≤ 8) : ∀ k, (row1 c k).length ≤ 32000 * k
 | 0 => Nat.le_refl _
 | k + 1 => by
  have ih := row1_len hl h8 k;have h3 := row2_len hl k c.sigs.length;rw [row1, List.length_append];omega
def row3R (c : SG) (k g j : Nat) : List Pv := ((List.range j).filter fun i => decide ((arAt c.arcs i).from_ = (k : Int)) && brkB c g i).map fun (i : Nat) => (⟨(k : Int), (g : Int), (i : Int)⟩ : Pv)
theorem row3R_succ (c : SG) (k g j : Nat) : row3R c k g (j + 1) = row3R c k g j ++ (if (decide ((arAt c.arcs j).from_ = (k : Int)) && brkB c g j) = true then [(⟨(k : Int), (g : Int), (j : Int)⟩ : Pv)] else []) := by
 unfold row3R;rw [List.range_succ, List.filter_append, List.map_append];congr 1
 by_cases h : (decide ((arAt c.arcs j).from_ = (k : Int)) && brkB c g j) = true <;> simp [h]
theorem row3R_len (c : SG) (k g j : Nat) : (row3R c k g j).length ≤ j := by
 unfold row3R;rw [List.length_map];have := List.length_filter_le (fun i => decide ((arAt c.arcs i).from_ = (k : Int)) && brkB c g i) (List.range j)
 rwa [List.length_range] at this
theorem row3R_end {c : SG} (hin : ∀ a, a ∈ c.arcs → ArIn c.codes.length a) (k g : Nat) : row3R c k g c.arcs.length = row3 c k g (nextL (fromE c.arcs) k) := by
 unfold row3R row3;rw [fromE_next, List.filter_filter];congr 1;refine List.filter_congr fun i hi => ?_
 have hi2 : i < c.arcs.length := List.mem_range.1 hi;have := hin _ (List.getElem_mem hi2);unfold ArIn at this;rw [Bool.and_comm];congr 1;rw [arAt_nat hi2]
 by_cases q : c.arcs[i].from_ = (k : Int)
 ·rw [decide_eq_true q, decide_eq_true (by omega)]
 rw [decide_eq_false q, decide_eq_false (by omega)]
set_option maxHeartbeats 16000000 in
theorem l6Breaks_spec (c : SG) (hv : validC c = true) : ASpec Tryz.prog 86 [sgA c] [] (Pure1 (.d (vPvs (brkL c)))) := by
 obtain ⟨hn, hal, hin, _⟩ := validC_at hv;obtain ⟨h8, _⟩ := sig_names hv;have hsg := fun a (ha : a ∈ c.arcs) => arc_sig hv ha
 have hXs := fun k g => l5Exc_spec c k g (by omega)
 have hIn := fun g hg => l6Own_spec c g hg
 have hr1 := row1_len hal h8.2;have hr2 := row2_len hal;have hr3 := row3R_len c;have hs1 : ∀ k, row1 c (k + 1) = row1 c k ++ row2 c k c.sigs.length := fun _ => rfl
 have hs2 : ∀ k g, row2 c k (g + 1) = row2 c k g ++ (if excB c (k : Int) (g : Int) = true then row3 c k g (nextL (fromE c.arcs) k) else []) := fun _ _ => rfl
 have hRe := row3R_end hin;simp only [← hRe] at hs2;have hs3 := row3R_succ c;have hBr : ∀ g i, brkB c g i = ((!decide ((arAt c.arcs i).sig = (g : Int)) && !excB c (arAt c.arcs i).to_ (g : Int)) && (ownS c.sigs (g : Int) || ownS c.sigs (arAt c.arcs i).sig)) := fun _ _ => rfl
 have hBL : brkL c = row1 c c.codes.length := rfl;rw [hBL];obtain ⟨n, hnn⟩ := eqx c.codes.length;rw [← hnn] at hn hin ⊢;clear hBL hv hRe;refine ASpec.of Tryz.func86 rfl rfl fun C hC => ?_
 refine AC.seq (AC.region ?_);refine kD ?_;refine za ?_;refine AL.nil (th_n (AC.seq (AC.region ?_)));refine za ?_;refine AL.nil (th_n (AC.seq (AC.seq (AC.region ?_))));refine zf ?_;refine zr ?_;refine AL.p (by exact g_len_view (k := n) rfl rfl (by rw [hnn]; exact tsX_len _)) rfl ?_;refine zm ?_;refine AL.nil (th_n (AC.block ?_));refine AC.loop (ι := Nat) (fun k => ⟨73, 600, [(1, .d (.ref (sgD c))), (3, .own 100 (row1 c k).length), (10, aI n), (11, aI k)], [(100, some (.arr 152 3 (pvL (row1 c k))))]⟩) (fun k => k ≤ n) (fun k => n - k) (0) ?_ (Nat.zero_le _) ?_
 ·exact (Weak.nilOwn (i := 3) (e := 152) (sz := 3) rfl (by decide)).trans (zw [(100, _)] hC)
 intro k hk;refine AC.seq (AC.region ?_);refine zc ?_;refine AL.nil (th_n (AC.seq ?_));refine AC.condD rfl (fun h0 => ?_) (fun h0 => ?_)
 ·refine AC.skip (th_n (AC.seq (AC.block (AC.seq ?_))));have hk1 : k < n := by omega
  have hr1k := hr1 k;have hs1k := hs1 k;obtain ⟨R1, hR1⟩ := eqx (row1 c k);rw [← hR1] at hr1k hs1k ⊢;clear hR1;refine AC.region ?_;refine zm ?_;refine za ?_;refine AL.nil (th_n (AC.seq (AC.region ?_)));refine zf ?_;refine zr ?_;refine kI c.sigs.length (List.length_map _) ?_;refine zm ?_;refine AL.nil (th_n (AC.block ?_));refine AC.loop (ι := Nat) (fun g => ⟨73, 900, [(1, .d (.ref (sgD c))), (3, .own 100 (R1 ++ row2 c k g).length), (4, aI k), (10, aI n), (11, aI k), (16, aI c.sigs.length), (17, aI g)], [(100, some (.arr 152 3 (pvL (R1 ++ row2 c k g))))]⟩) (fun g => g ≤ c.sigs.length) (fun g => c.sigs.length - g) (0) ?_ (Nat.zero_le _) ?_
  ·exact Weak.ren _ [(100, 100)] hC rfl (by rw [show row2 c k 0 = [] from rfl, List.append_nil]; repeat (first | exact True.intro | refine And.intro ?_ ?_ | exact DLead.same | exact rfl | refine ⟨_, rfl, ?_⟩)) (by rw [show row2 c k 0 = [] from rfl, List.append_nil]; repeat (first | exact True.intro | refine And.intro ?_ ?_ | exact rfl | refine ⟨_, _, rfl, rfl, ?_⟩)) rfl rfl rfl
  intro g hg;refine AC.seq (AC.region ?_);refine zc ?_;refine AL.nil (th_n (AC.seq ?_));refine AC.condD rfl (fun h1 => ?_) (fun h1 => ?_)
  ·refine AC.skip (th_n (AC.seq (AC.block (AC.seq ?_))));have hg1 : g < c.sigs.length := by omega
   have hr2g := hr2 k g;have hs2g := hs2 k g;have hXk := hXs (k : Int) (g : Int);have hO1 := hIn (g : Int) (by omega);have hs3g := hs3 k g;have hr3g := hr3 k g;have hBrg := hBr g;obtain ⟨X, hX⟩ := eqx (excB c (k : Int) (g : Int));rw [← hX] at hs2g hXk;obtain ⟨O1, hO1e⟩ := eqx (ownS c.sigs (g : Int));rw [← hO1e] at hO1;simp only [← hO1e] at hBrg;obtain ⟨R2, hR2⟩ := eqx (row2 c k g);rw [← hR2] at hr2g hs2g ⊢;clear hX hO1e hR2;refine AC.region ?_;refine zm ?_;refine za ?_;refine AL.nil (th_n (AC.seq (AC.seq (AC.region ?_))));refine kG ?_;refine zm ?_;refine zm ?_;refine kV en_l5Exc hXk ?_;refine kC ?_;refine AL.nil (th_n ?_);refine AC.condB rfl (fun h2 => ?_) (fun h2 => ?_)
   ·refine AC.exit (th_e (ib_y (th_n (AC.region ?_))));refine zA ?_;refine zm ?_;refine AL.nil (th_n ?_)
    (have q := ‹(!X) = true›; have q2 : X = false := (by simpa using q); rw [q2, if_neg (by decide), List.append_nil] at hs2g; exact ⟨g + 1, by omega, by omega, zw [(100, 100)] hC (by rw [hs2g]; repeat (first | exact True.intro | refine And.intro ?_ ?_ | exact DLead.same | exact rfl | refine ⟨_, rfl, ?_⟩)) (by rw [hs2g]; repeat (first | exact True.intro | refine And.intro ?_ ?_ | exact rfl | refine ⟨_, _, rfl, rfl, ?_⟩))⟩)
   refine AC.skip (th_n (AC.seq (AC.region ?_)));refine zf ?_;refine zr ?_;refine kI c.arcs.length (arL_len _) ?_;refine zm ?_;refine AL.nil (th_n (AC.block ?_));refine AC.loop (ι := Nat) (fun p => ⟨73, 1200, [(1, .d (.ref (sgD c))), (3, .own 100 ((R1 ++ R2) ++ row3R c k g p).length), (4, aI k), (5, aI g), (10, aI n), (11, aI k), (16, aI c.sigs.length), (17, aI g), (26, .d (vArs c.arcs)), (27, aI c.arcs.length), (28, aI p)], [(100, some (.arr 152 3 (pvL ((R1 ++ R2) ++ row3R c k g p))))]⟩) (fun p => p ≤ c.arcs.length) (fun p => c.arcs.length - p) (0) ?_ (Nat.zero_le _) ?_
   ·exact Weak.ren _ [(100, 100)] hC rfl (by rw [show row3R c k g 0 = [] from rfl, List.append_nil]; repeat (first | exact True.intro | refine And.intro ?_ ?_ | exact DLead.same | exact rfl | refine ⟨_, rfl, ?_⟩)) (by rw [show row3R c k g 0 = [] from rfl, List.append_nil]; repeat (first | exact True.intro | refine And.intro ?_ ?_ | exact rfl | refine ⟨_, _, rfl, rfl, ?_⟩)) rfl rfl rfl
   intro p hp;refine AC.seq (AC.region ?_);refine zc ?_;refine AL.nil (th_n (AC.seq ?_));refine AC.condD rfl (fun h3 => ?_) (fun h3 => ?_)
   ·refine AC.skip (th_n (AC.seq (AC.block (AC.seq ?_))));have hp1 : p < c.arcs.length := by omega
    have hr3p := hr3g p;have hs3p := hs3g p;have hrow := arAt_get hp1;have hQ := hBrg p;have hsa := hsg _ (List.getElem_mem hp1);rw [← arAt_nat hp1] at hsa;obtain ⟨v, hve⟩ := eqx (arAt c.arcs p);rw [← hve] at hrow hQ hsa hs3p;have hO2 := hIn v.sig hsa.1;have hX2s := hXs v.to_ (g : Int);obtain ⟨X2, hX2⟩ := eqx (excB c v.to_ (g : Int));rw [← hX2] at hQ hX2s;obtain ⟨O2, hO2e⟩ := eqx (ownS c.sigs v.sig);rw [← hO2e] at hQ hO2;obtain ⟨Q, hQe⟩ := eqx (brkB c g p);rw [← hQe] at hQ hs3p;obtain ⟨R3, hR3⟩ := eqx ((R1 ++ R2) ++ row3R c k g p);have hR3s : R3 ++ (if (decide (v.from_ = (k : Int)) && Q) = true then [(⟨(k : Int), (g : Int), (p : Int)⟩ : Pv)] else []) = (R1 ++ R2) ++ row3R c k g (p + 1) := by rw [hR3, hs3p, List.append_assoc (R1 ++ R2)]
    have hR3l : R3.length ≤ 10000000 := by rw [hR3, List.length_append, List.length_append]; omega
    rw [← hR3];clear hX2 hO2e hQe hR3 hs3p hve;refine AC.region ?_;refine zm ?_;refine AL.p (by exact g_ia_view (i := p) rfl rfl rfl rfl rfl rfl hrow) rfl ?_;refine kG ?_;refine kE ?_;refine za ?_;refine zs ?_;refine AL.nil (th_n (AC.seq (AC.region ?_)));refine zF ?_;refine zl ?_;refine zm ?_;refine zc ?_;refine zm ?_;refine AL.caseG rfl rfl (fun h4 => ?_) (fun h4 => ?_)
    ·refine zy ?_;refine zF ?_;refine zy ?_;refine zl ?_;refine zy ?_;refine zm ?_;refine zy ?_;refine zc ?_;refine zQ ?_;refine zm ?_;refine AL.caseGN rfl rfl (fun h5 => ?_) (fun h5 => ?_)
     ·refine zy ?_;refine kG ?_;refine zy ?_;refine zF ?_;refine zy ?_;refine zl ?_;refine zy ?_;refine zm ?_;refine zy ?_;refine kV en_l5Exc hX2s ?_;refine zy ?_;refine kC ?_;refine zQ ?_;refine zm ?_;refine AL.caseGB rfl rfl (fun h6 => ?_) (fun h6 => ?_)
      ·refine zy ?_;refine kG ?_;refine zy ?_;refine zm ?_;refine zy ?_;refine kV en_l6Own hO1 ?_;refine zy ?_;refine zm ?_;refine AL.caseGB rfl rfl (fun h7 => ?_) (fun h7 => ?_)
       ·refine zn ?_;refine zn ?_;refine zn ?_;refine zn ?_;refine zy ?_;refine zQ ?_;refine zQ ?_;refine AL.nil (th_n ?_);refine AC.condT rfl ?_;refine AC.region ?_;refine kB ?_;refine zm ?_;refine zm ?_;refine zm ?_;refine AL.p (by exact g_build rfl rfl rfl) rfl ?_;refine AL.q (by exact h_litF rfl rfl rfl rfl rfl rfl rfl rfl) rfl ?_;refine AL.q (by exact h_appendPv R3 [⟨(k : Int), (g : Int), (p : Int)⟩] (.own rfl rfl (pvL_len _).symm) (.view rfl) (by rw [List.length_append]; simp only [List.length_cons, List.length_nil]; omega) (by simp)) rfl ?_;refine AL.p (by exact as2 rfl) rfl ?_;refine AL.nil (ib_n (th_n (AC.region ?_)));refine zA ?_;refine zm ?_;refine AL.nil (th_n ?_)
        (have q0 := ‹v.from_ = (k : Int)›; have q1 := ‹¬ v.sig = (g : Int)›; have q2 := ‹(!X2) = true›; have q4 : (O1 || O2) = true := (by (have q3 := ‹O1 = true›; rw [q3]; rfl)); have e : (decide (v.from_ = (k : Int)) && Q) = true := (by rw [hQ, decide_eq_true q0, decide_eq_false q1, q2, q4]; rfl); rw [if_pos e] at hR3s; exact ⟨p + 1, by omega, by omega, zw [(100, _)] hC (by rw [← hR3s]; repeat (first | exact True.intro | refine And.intro ?_ ?_ | exact DLead.same | exact rfl | refine ⟨_, rfl, ?_⟩)) (by rw [← hR3s]; repeat (first | exact True.intro | refine And.intro ?_ ?_ | exact rfl | refine ⟨_, _, rfl, rfl, ?_⟩))⟩)
       refine zy ?_;refine kG ?_;refine zy ?_;refine zF ?_;refine zy ?_;refine zl ?_;refine zy ?_;refine kV en_l6Own hO2 ?_;refine zy ?_;refine zP ?_;refine zQ ?_;refine AL.nil (th_n ?_);refine AC.condB rfl (fun h8 => ?_) (fun h8 => ?_)
       ·refine AC.region ?_;refine kB ?_;refine zm ?_;refine zm ?_;refine zm ?_;refine AL.p (by exact g_build rfl rfl rfl) rfl ?_;refine AL.q (by exact h_litF rfl rfl rfl rfl rfl rfl rfl rfl) rfl ?_;refine AL.q (by exact h_appendPv R3 [⟨(k : Int), (g : Int), (p : Int)⟩] (.own rfl rfl (pvL_len _).symm) (.view rfl) (by rw [List.length_append]; simp only [List.length_cons, List.length_nil]; omega) (by simp)) rfl ?_;refine AL.p (by exact as2 rfl) rfl ?_;refine AL.nil (ib_n (th_n (AC.region ?_)));refine zA ?_;refine zm ?_;refine AL.nil (th_n ?_)
        (have q0 := ‹v.from_ = (k : Int)›; have q1 := ‹¬ v.sig = (g : Int)›; have q2 := ‹(!X2) = true›; have q4 : (O1 || O2) = true := (by (have q3 := ‹O2 = true›; rw [q3, Bool.or_true])); have e : (decide (v.from_ = (k : Int)) && Q) = true := (by rw [hQ, decide_eq_true q0, decide_eq_false q1, q2, q4]; rfl); rw [if_pos e] at hR3s; exact ⟨p + 1, by omega, by omega, zw [(100, _)] hC (by rw [← hR3s]; repeat (first | exact True.intro | refine And.intro ?_ ?_ | exact DLead.same | exact rfl | refine ⟨_, rfl, ?_⟩)) (by rw [← hR3s]; repeat (first | exact True.intro | refine And.intro ?_ ?_ | exact rfl | refine ⟨_, _, rfl, rfl, ?_⟩))⟩)
       refine AC.skip (ib_n (th_n (AC.region ?_)));refine zA ?_;refine zm ?_;refine AL.nil (th_n ?_)
       (have e : (decide (v.from_ = (k : Int)) && Q) = false := (by (have q4 := ‹O1 = false›; have q6 := ‹O2 = false›; rw [hQ, q4, q6, Bool.or_false, Bool.and_false, Bool.and_false])); rw [if_neg (by rw [e]; decide), List.append_nil] at hR3s; exact ⟨p + 1, by omega, by omega, zw [(100, 100)] hC (by rw [← hR3s]; repeat (first | exact True.intro | refine And.intro ?_ ?_ | exact DLead.same | exact rfl | refine ⟨_, rfl, ?_⟩)) (by rw [← hR3s]; repeat (first | exact True.intro | refine And.intro ?_ ?_ | exact rfl | refine ⟨_, _, rfl, rfl, ?_⟩))⟩)
      refine zn ?_;refine zn ?_;refine zn ?_;refine zn ?_;refine AL.notU rfl rfl rfl ?_;refine AL.notU rfl rfl rfl ?_;refine AL.notU rfl rfl rfl ?_;refine AL.notU rfl rfl rfl ?_;refine zn ?_;refine zP ?_;refine AL.nil (th_n ?_);refine AC.condF rfl ?_;refine AC.skip (ib_n (th_n (AC.region ?_)));refine zA ?_;refine zm ?_;refine AL.nil (th_n ?_)
      (have e : (decide (v.from_ = (k : Int)) && Q) = false := (by (have q2 := ‹(!X2) = false›; rw [hQ, q2, Bool.and_false]; exact Bool.and_false _)); rw [if_neg (by rw [e]; decide), List.append_nil] at hR3s; exact ⟨p + 1, by omega, by omega, zw [(100, 100)] hC (by rw [← hR3s]; repeat (first | exact True.intro | refine And.intro ?_ ?_ | exact DLead.same | exact rfl | refine ⟨_, rfl, ?_⟩)) (by rw [← hR3s]; repeat (first | exact True.intro | refine And.intro ?_ ?_ | exact rfl | refine ⟨_, _, rfl, rfl, ?_⟩))⟩)
     refine zn ?_;refine zn ?_;refine zn ?_;refine zn ?_;refine zn ?_;refine zn ?_;refine zP ?_;refine zm ?_;refine zn ?_;refine zn ?_;refine zn ?_;refine zn ?_;refine AL.notU rfl rfl rfl ?_;refine AL.notU rfl rfl rfl ?_;refine AL.notU rfl rfl rfl ?_;refine AL.notU rfl rfl rfl ?_;refine zn ?_;refine zP ?_;refine AL.nil (th_n ?_);refine AC.condF rfl ?_;refine AC.skip (ib_n (th_n (AC.region ?_)));refine zA ?_;refine zm ?_;refine AL.nil (th_n ?_)
     (have e : (decide (v.from_ = (k : Int)) && Q) = false := (by (have q1 := ‹v.sig = (g : Int)›; rw [hQ, decide_eq_true q1]; exact Bool.and_false _)); rw [if_neg (by rw [e]; decide), List.append_nil] at hR3s; exact ⟨p + 1, by omega, by omega, zw [(100, 100)] hC (by rw [← hR3s]; repeat (first | exact True.intro | refine And.intro ?_ ?_ | exact DLead.same | exact rfl | refine ⟨_, rfl, ?_⟩)) (by rw [← hR3s]; repeat (first | exact True.intro | refine And.intro ?_ ?_ | exact rfl | refine ⟨_, _, rfl, rfl, ?_⟩))⟩)
    refine zn ?_;refine zn ?_;refine zn ?_;refine zn ?_;refine zP ?_;refine zm ?_;refine zn ?_;refine zn ?_;refine zn ?_;refine zn ?_;refine zn ?_;refine zn ?_;refine zP ?_;refine zm ?_;refine zn ?_;refine zn ?_;refine zn ?_;refine zn ?_;refine AL.notU rfl rfl rfl ?_;refine AL.notU rfl rfl rfl ?_;refine AL.notU rfl rfl rfl ?_;refine AL.notU rfl rfl rfl ?_;refine zn ?_;refine zP ?_;refine AL.nil (th_n ?_);refine AC.condF rfl ?_;refine AC.skip (ib_n (th_n (AC.region ?_)));refine zA ?_;refine zm ?_;refine AL.nil (th_n ?_)
    (have e : (decide (v.from_ = (k : Int)) && Q) = false := (by (have q0 := ‹¬ v.from_ = (k : Int)›; rw [decide_eq_false q0]; rfl)); rw [if_neg (by rw [e]; decide), List.append_nil] at hR3s; exact ⟨p + 1, by omega, by omega, zw [(100, 100)] hC (by rw [← hR3s]; repeat (first | exact True.intro | refine And.intro ?_ ?_ | exact DLead.same | exact rfl | refine ⟨_, rfl, ?_⟩)) (by rw [← hR3s]; repeat (first | exact True.intro | refine And.intro ?_ ?_ | exact rfl | refine ⟨_, _, rfl, rfl, ?_⟩))⟩)
   refine AC.exit (th_e (th_e (ib_y (ib_n (th_n (AC.region ?_))))));refine zA ?_;refine zm ?_;refine AL.nil (th_n ?_)
   (have q := ‹(!X) = false›; have q2 : X = true := (by simpa using q); have hpp : p = c.arcs.length := (by omega); rw [q2, if_pos rfl] at hs2g; exact ⟨g + 1, by omega, by omega, zw [(100, 100)] hC (by rw [hs2g, hpp, ← List.append_assoc]; repeat (first | exact True.intro | refine And.intro ?_ ?_ | exact DLead.same | exact rfl | refine ⟨_, rfl, ?_⟩)) (by rw [hs2g, hpp, ← List.append_assoc]; repeat (first | exact True.intro | refine And.intro ?_ ?_ | exact rfl | refine ⟨_, _, rfl, rfl, ?_⟩))⟩)
  refine AC.exit (th_e (th_e (ib_y (ib_n (th_n (AC.region ?_))))));refine zA ?_;refine zm ?_;refine AL.nil (th_n ?_);have hgg : g = c.sigs.length := by omega
  exact ⟨k + 1, by omega, by omega, zw [(100, 100)] hC (by rw [hs1k, hgg]; repeat (first | exact True.intro | refine And.intro ?_ ?_ | exact DLead.same | exact rfl | refine ⟨_, rfl, ?_⟩)) (by rw [hs1k, hgg]; repeat (first | exact True.intro | refine And.intro ?_ ?_ | exact rfl | refine ⟨_, _, rfl, rfl, ?_⟩))⟩
 refine AC.exit (th_e (th_e (ib_y (th_n (AC.seq ?_)))));have hkk : k = n := by omega
 rw [hkk];refine AC.weak (Weak.freeze (i := 3) rfl rfl (Nat.le_of_eq (pvL_len _).symm) (List.take_of_length_le (Nat.le_of_eq (pvL_len _)))) ?_;refine AC.region ?_;refine zm ?_;refine za ?_;refine AL.nil (th_n (AC.ret (bq_r ?_)));exact ret1 rfl rfl
theorem en_l6Breaks : Enters Tryz.prog 86 := enters_of Tryz.func86 rfl rfl
abbrev isL (l : List (List Int)) : List (List DV) := l.map fun x => [vI x]
abbrev vIs (l : List (List Int)) : DV := .view 30 1 (isL l)
theorem isL_len (l : List (List Int)) : (isL l).length = l.length := List.length_map _
theorem isL_get {l : List (List Int)} {k : Nat} (h : k < l.length) : (isL l)[k]? = some [vI l[k]] := by rw [List.getElem?_map, List.getElem?_eq_getElem h]; rfl
theorem h_appendIs (acc new : List (List Int)) {s : ASt} {dst : Option Nat} {ty : Nat} {pos : String} {af : Array Edge} {gd : Option (Nat × Bool)} {x y : Operand} {f : Nat} {ids ids2 : List Nat} {gone : List (Nat × Option Chunk)}
  (hto : AppTo s x 30 1 (isL acc) ids gone) (harg : AppArg s y 1 (isL new) ids2) (h : (acc ++ new).length ≤ 100000000) (hnew : gone = [] → 0 < new.length) :
  NOp Tryz.prog (ids ++ ids2) s ⟨dst, .call { callee := .builtin .append, args := #[x, y], argTypes := #[125, 125] }, ty, pos, af, gd⟩ f ⟨.own f (acc ++ new).length, (f, some (.arr 30 1 (isL (acc ++ new)))) :: gone⟩ := by
 have := h_append (P := Tryz.prog) (s := s) (dst := dst) (ty := ty) (pos := pos) (af := af) (gd := gd) (x := x) (y := y) (f := f) (t := 125) (tx := 125) (k := (acc ++ new).length) rfl rfl rfl rfl rfl rfl hto harg (by simp) (by omega) (by show (acc ++ new).length * 24 ≤ _; omega) (fun h => by rw [isL_len]; exact hnew h)
 rwa [← List.map_append] at this
def rowP (R : Nat → Nat → Bool) (i : Nat) : Nat → List (List Int)
 | 0 => []
 | k + 1 => rowP R i k ++ (if (decide (i < k) && R i k) = true then [[(i : Int), (k : Int)]] else [])
def allP (R : Nat → Nat → Bool) (n : Nat) : Nat → List (List Int)
 | 0 => []
 | i + 1 => allP R n i ++ rowP R i n
theorem rowP_start (R : Nat → Nat → Bool) (i : Nat) : ∀ k, k ≤ i + 1 → rowP R i k = []
 | 0, _ => rfl
 | k + 1, h => by rw [rowP, rowP_start R i k (by omega), decide_eq_false (by omega)]; rfl
theorem rowP_len (R : Nat → Nat → Bool) (i : Nat) : ∀ k, (rowP R i k).length ≤ k
 | 0 => Nat.le_refl _
 | k + 1 => by
  have ih := rowP_len R i k;rw [rowP, List.length_append]
  split
  ·simp only [List.length_cons, List.length_nil]; omega
  simp only [List.length_nil]; omega
theorem allP_len (R : Nat → Nat → Bool) (n m : Nat) (hm : n ≤ m) : ∀ i, (allP R n i).length ≤ m * i
 | 0 => Nat.zero_le _
 | i + 1 => by
  have ih := allP_len R n m hm i;have h := rowP_len R i n;rw [allP, List.length_append, Nat.mul_succ];omega
theorem rowP_mem {R : Nat → Nat → Bool} {i : Nat} {x : List Int} : ∀ {k}, x ∈ rowP R i k → ∃ j, i < j ∧ j < k ∧ R i j = true ∧ x = [(i : Int), (j : Int)]
 | 0, h => by cases h
 | k + 1, h => by
  rw [rowP, List.mem_append] at h;rcases h with h | h
  ·obtain ⟨j, h1, h2, h3⟩ := rowP_mem h; exact ⟨j, h1, by omega, h3⟩
  split at h
  ·rename_i q;rw [Bool.and_eq_true, decide_eq_true_eq] at q;exact ⟨k, q.1, by omega, q.2, List.mem_singleton.1 h⟩
  cases h
theorem allP_mem {R : Nat → Nat → Bool} {n : Nat} {x : List Int} : ∀ {i}, x ∈ allP R n i → ∃ a j, a < i ∧ a < j ∧ j < n ∧ R a j = true ∧ x = [(a : Int), (j : Int)]
 | 0, h => by cases h
 | i + 1, h => by
  rw [allP, List.mem_append] at h;rcases h with h | h
  ·obtain ⟨a, j, h1, h2⟩ := allP_mem h; exact ⟨a, j, by omega, h2⟩
  obtain ⟨j, h1, h2, h3, h4⟩ := rowP_mem h; exact ⟨i, j, by omega, h1, h2, h3, h4⟩
def codeQ (c : SG) (i k : Nat) : Bool := decide (bstr (cAtS c i) = bstr (cAtS c k))
def eqcL (c : SG) : List (List Int) := allP (codeQ c) c.codes.length c.codes.length
theorem wrapS {x : Nat} (h : x ≤ 1000000) : IntKind.i64.wrap ((x : Int) + 1) = ((x + 1 : Nat) : Int) := wrap_i64 (by omega)
set_option maxHeartbeats 8000000 in
theorem l6Pairs_spec (c : SG) (hn : c.codes.length ≤ 1000) : ASpec Tryz.prog 106 [sgA c] [] (Pure1 (.d (vIs (eqcL c)))) := by
 have hRs : ∀ i k, rowP (codeQ c) i (k + 1) = rowP (codeQ c) i k ++ (if (decide (i < k) && codeQ c i k) = true then [[(i : Int), (k : Int)]] else []) := fun _ _ => rfl
 have hAs : ∀ i, allP (codeQ c) c.codes.length (i + 1) = allP (codeQ c) c.codes.length i ++ rowP (codeQ c) i c.codes.length := fun _ => rfl
 have hR0 := fun i => rowP_start (codeQ c) i (i + 1) (Nat.le_refl _)
 have hRl := rowP_len (codeQ c);have hAl := allP_len (codeQ c) c.codes.length 1000 hn;have hQ : ∀ i k, codeQ c i k = decide (bstr (cAtS c i) = bstr (cAtS c k)) := fun _ _ => rfl
 have hE : eqcL c = allP (codeQ c) c.codes.length c.codes.length := rfl;rw [hE];clear hE;obtain ⟨A, hA⟩ : ∃ A : Nat → List (List Int), A = allP (codeQ c) c.codes.length := ⟨_, rfl⟩;rw [← hA] at hAs hAl ⊢;have hA0 : A 0 = [] := by rw [hA]; rfl
 obtain ⟨B, hB⟩ : ∃ B : Nat → Nat → List (List Int), B = rowP (codeQ c) := ⟨_, rfl⟩;rw [← hB] at hRs hAs hR0 hRl;clear hA hB;refine ASpec.of Tryz.func106 rfl rfl fun C hC => ?_
 refine AC.seq (AC.region ?_);refine kD ?_;refine za ?_;refine AL.nil (th_n (AC.seq (AC.region ?_)));refine za ?_;refine AL.nil (th_n (AC.seq (AC.seq (AC.region ?_))));refine zf ?_;refine zr ?_;refine kI c.codes.length (tsX_len _) ?_;refine zm ?_;refine AL.nil (th_n (AC.block ?_));refine AC.loop (ι := Nat) (fun i => ⟨40, 300, [(1, .d (.ref (sgD c))), (3, .own 100 (A i).length), (8, aI c.codes.length), (9, aI i)], [(100, some (.arr 30 1 (isL (A i))))]⟩) (fun i => i ≤ c.codes.length) (fun i => c.codes.length - i) (0) ?_ (Nat.zero_le _) ?_
 ·exact (Weak.nilOwn (i := 3) (e := 30) (sz := 1) rfl (by decide)).trans (zw [(100, _)] hC (by rw [hA0]; repeat (first | exact True.intro | refine And.intro ?_ ?_ | exact DLead.same | exact rfl | refine ⟨_, rfl, ?_⟩)) (by rw [hA0]; repeat (first | exact True.intro | refine And.intro ?_ ?_ | exact rfl | refine ⟨_, _, rfl, rfl, ?_⟩)))
 intro i hi;refine AC.seq (AC.region ?_);refine zc ?_;refine AL.nil (th_n (AC.seq ?_));refine AC.condD rfl (fun h0 => ?_) (fun h0 => ?_)
 ·refine AC.skip (th_n (AC.seq (AC.block (AC.seq ?_))));have hi1 : i < c.codes.length := by omega
  have hget := cAtS_get hi1;have hAi := hAs i;have hAli := hAl i;have hQi := hQ i;have hRsi := hRs i;have hR0i := hR0 i;have hRli := hRl i;obtain ⟨x, hx⟩ := eqx (cAtS c i);rw [← hx] at hget;simp only [← hx] at hQi;obtain ⟨L, hL⟩ := eqx (A i);rw [← hL] at hAi hAli ⊢;clear hL hx;refine AC.region ?_;refine zm ?_;refine za ?_;refine AL.nil (th_n (AC.seq (AC.region ?_)));refine zm ?_;refine AL.p (by exact g_arith rfl rfl rfl (wrapS (x := i) (by omega))) rfl ?_;refine za ?_;refine AL.nil (th_n (AC.block ?_));refine AC.loop (ι := Nat) (fun k => ⟨40, 600, [(1, .d (.ref (sgD c))), (3, .own 100 (L ++ B i k).length), (4, aI i), (5, aI k), (8, aI c.codes.length), (9, aI i)], [(100, some (.arr 30 1 (isL (L ++ B i k))))]⟩) (fun k => i < k ∧ k ≤ c.codes.length) (fun k => c.codes.length - k) (i + 1) ?_ (⟨Nat.lt_succ_self _, hi1⟩) ?_
  ·exact zw [(100, 100)] hC (by rw [hR0i, List.append_nil]; repeat (first | exact True.intro | refine And.intro ?_ ?_ | exact DLead.same | exact rfl | refine ⟨_, rfl, ?_⟩)) (by rw [hR0i, List.append_nil]; repeat (first | exact True.intro | refine And.intro ?_ ?_ | exact rfl | refine ⟨_, _, rfl, rfl, ?_⟩))
  rintro k ⟨hk0, hk⟩;refine AC.seq (AC.seq (AC.region ?_));refine zm ?_;refine zf ?_;refine zr ?_;refine kI c.codes.length (tsX_len _) ?_;refine zc ?_;refine AL.nil (th_n ?_);refine AC.condD rfl (fun h1 => ?_) (fun h1 => ?_)
  ·refine AC.skip (th_n (AC.seq (AC.block (AC.seq ?_))));have hk1 : k < c.codes.length := by omega
   have hgk := cAtS_get hk1;have hqk := hQi k;have hBk := hRsi k;have hBl := hRli k;rw [decide_eq_true hk0, Bool.true_and] at hBk;obtain ⟨y, hy⟩ := eqx (cAtS c k);rw [← hy] at hgk hqk;obtain ⟨Q, hQe⟩ := eqx (codeQ c i k);rw [← hQe] at hqk hBk;obtain ⟨M, hM⟩ := eqx (L ++ B i k);have hMl : M.length ≤ 10000000 := by rw [hM, List.length_append]; omega
   have hMs : M ++ (if Q = true then [[(i : Int), (k : Int)]] else []) = L ++ B i (k + 1) := by rw [hM, hBk, List.append_assoc]
   rw [← hM];clear hy hQe hM hBk;refine AC.drawn' mixed_ok [[], [0], [], [0,1,2], [0,1,2,3], [], [5], [], [5,6,7], [5,6,7,8], [0,1,2,3,4,5,6,7,8,9]] (by decide) ?_;refine zd 0 [] 11 (by exact g_fa_ref rfl rfl rfl rfl rfl rfl) ?_;refine zd 1 [0] 11 (by exact g_load_ref rfl rfl rfl) ?_;refine zd 2 [] 11 (by exact mv1 rfl) ?_;refine zd 3 [0,1,2] 11 (by exact g_ia_view (i := i) rfl rfl rfl rfl rfl rfl hget) ?_;refine zd 4 [0,1,2,3] 11 (by exact g_load_ref rfl rfl rfl) ?_;refine zd 5 [] 11 (by exact g_fa_ref rfl rfl rfl rfl rfl rfl) ?_;refine zd 6 [5] 11 (by exact g_load_ref rfl rfl rfl) ?_;refine zd 7 [] 11 (by exact mv1 rfl) ?_;refine zd 8 [5,6,7] 11 (by exact g_ia_view (i := k) rfl rfl rfl rfl rfl rfl hgk) ?_;refine zd 9 [5,6,7,8] 11 (by exact g_load_ref rfl rfl rfl) ?_;refine zd 10 (List.range 10) 11 (by exact g_scmp rfl rfl rfl) ?_;refine zj 11 ?_;refine th_n ?_;refine AC.condD rfl (fun h2 => ?_) (fun h2 => ?_)
   ·refine AC.region ?_;refine kB ?_;refine zm ?_;refine zm ?_;refine AL.q (by exact h_litF rfl rfl rfl rfl rfl rfl rfl rfl) rfl ?_;refine AL.q (by exact h_litF rfl rfl rfl rfl rfl rfl rfl rfl) rfl ?_;refine AL.q (by exact h_appendIs M [[(i : Int), (k : Int)]] (.own rfl rfl (isL_len _).symm) (.view rfl) (by rw [List.length_append]; simp only [List.length_cons, List.length_nil]; omega) (by simp)) rfl ?_;refine AL.p (by exact as2 rfl) rfl ?_;refine AL.nil (ib_n (th_n (AC.region ?_)));refine zm ?_;refine AL.p (by exact g_arith rfl rfl rfl (wrapS (x := k) (by omega))) rfl ?_;refine za ?_;refine AL.nil (th_n ?_)
    (have q := ‹bstr x = bstr y›; have e : Q = true := (by rw [hqk]; exact decide_eq_true q); rw [if_pos e] at hMs; exact ⟨k + 1, ⟨by omega, by omega⟩, by omega, zw [(100, _)] hC (by rw [← hMs]; repeat (first | exact True.intro | refine And.intro ?_ ?_ | exact DLead.same | exact rfl | refine ⟨_, rfl, ?_⟩)) (by rw [← hMs]; repeat (first | exact True.intro | refine And.intro ?_ ?_ | exact rfl | refine ⟨_, _, rfl, rfl, ?_⟩))⟩)
   refine AC.skip (ib_n (th_n (AC.region ?_)));refine zm ?_;refine AL.p (by exact g_arith rfl rfl rfl (wrapS (x := k) (by omega))) rfl ?_;refine za ?_;refine AL.nil (th_n ?_)
   (have q := ‹¬ bstr x = bstr y›; have e : Q = false := (by rw [hqk]; exact decide_eq_false q); rw [e, if_neg (by decide), List.append_nil] at hMs; exact ⟨k + 1, ⟨by omega, by omega⟩, by omega, zw [(100, 100)] hC (by rw [← hMs]; repeat (first | exact True.intro | refine And.intro ?_ ?_ | exact DLead.same | exact rfl | refine ⟨_, rfl, ?_⟩)) (by rw [← hMs]; repeat (first | exact True.intro | refine And.intro ?_ ?_ | exact rfl | refine ⟨_, _, rfl, rfl, ?_⟩))⟩)
  refine AC.exit (th_e (th_e (ib_y (ib_n (th_n (AC.region ?_))))));refine zA ?_;refine zm ?_;refine AL.nil (th_n ?_);have hkk : k = c.codes.length := by omega
  exact ⟨i + 1, by omega, by omega, zw [(100, 100)] hC (by rw [hAi, hkk]; repeat (first | exact True.intro | refine And.intro ?_ ?_ | exact DLead.same | exact rfl | refine ⟨_, rfl, ?_⟩)) (by rw [hAi, hkk]; repeat (first | exact True.intro | refine And.intro ?_ ?_ | exact rfl | refine ⟨_, _, rfl, rfl, ?_⟩))⟩
 refine AC.exit (th_e (th_e (ib_y (th_n (AC.seq ?_)))));have hii : i = c.codes.length := by omega
 rw [hii];refine AC.weak (Weak.freeze (i := 3) rfl rfl (Nat.le_of_eq (isL_len _).symm) (List.take_of_length_le (Nat.le_of_eq (isL_len _)))) ?_;refine AC.region ?_;refine zm ?_;refine za ?_;refine AL.nil (th_n (AC.ret (bq_r ?_)));exact ret1 rfl rfl
theorem en_l6Pairs : Enters Tryz.prog 106 := enters_of Tryz.func106 rfl rfl
def wayQ (c : SG) (i k : Nat) : Bool := ((decide ((arAt c.arcs i).from_ = (arAt c.arcs k).from_) && decide ((arAt c.arcs i).sig = (arAt c.arcs k).sig)) && decide (0 ≤ (arAt c.arcs i).sig)) && !decide ((arAt c.arcs i).to_ = (arAt c.arcs k).to_)
def wayP (c : SG) : List (List Int) := allP (wayQ c) c.arcs.length c.arcs.length
set_option maxHeartbeats 8000000 in
theorem l6Ways_spec (c : SG) (hn : c.arcs.length ≤ 4000) : ASpec Tryz.prog 85 [sgA c] [] (Pure1 (.d (vIs (wayP c)))) := by
 have hRs : ∀ i k, rowP (wayQ c) i (k + 1) = rowP (wayQ c) i k ++ (if (decide (i < k) && wayQ c i k) = true then [[(i : Int), (k : Int)]] else []) := fun _ _ => rfl
 have hAs : ∀ i, allP (wayQ c) c.arcs.length (i + 1) = allP (wayQ c) c.arcs.length i ++ rowP (wayQ c) i c.arcs.length := fun _ => rfl
 have hR0 := fun i => rowP_start (wayQ c) i (i + 1) (Nat.le_refl _)
 have hRl := rowP_len (wayQ c);have hAl := allP_len (wayQ c) c.arcs.length 4000 hn;have hQ : ∀ i k, wayQ c i k = (((decide ((arAt c.arcs i).from_ = (arAt c.arcs k).from_) && decide ((arAt c.arcs i).sig = (arAt c.arcs k).sig)) && decide (0 ≤ (arAt c.arcs i).sig)) && !decide ((arAt c.arcs i).to_ = (arAt c.arcs k).to_)) := fun _ _ => rfl
 have hE : wayP c = allP (wayQ c) c.arcs.length c.arcs.length := rfl;rw [hE];clear hE;obtain ⟨A, hA⟩ : ∃ A : Nat → List (List Int), A = allP (wayQ c) c.arcs.length := ⟨_, rfl⟩;rw [← hA] at hAs hAl ⊢;have hA0 : A 0 = [] := by rw [hA]; rfl
 obtain ⟨B, hB⟩ : ∃ B : Nat → Nat → List (List Int), B = rowP (wayQ c) := ⟨_, rfl⟩;rw [← hB] at hRs hAs hR0 hRl;clear hA hB;refine ASpec.of Tryz.func85 rfl rfl fun C hC => ?_
 refine AC.seq (AC.region ?_);refine kD ?_;refine za ?_;refine AL.nil (th_n (AC.seq (AC.region ?_)));refine za ?_;refine AL.nil (th_n (AC.seq (AC.seq (AC.region ?_))));refine zf ?_;refine zr ?_;refine kI c.arcs.length (arL_len _) ?_;refine zm ?_;refine AL.nil (th_n (AC.block ?_));refine AC.loop (ι := Nat) (fun i => ⟨62, 300, [(1, .d (.ref (sgD c))), (3, .own 100 (A i).length), (9, .d (vArs c.arcs)), (10, aI c.arcs.length), (11, aI i)], [(100, some (.arr 30 1 (isL (A i))))]⟩) (fun i => i ≤ c.arcs.length) (fun i => c.arcs.length - i) (0) ?_ (Nat.zero_le _) ?_
 ·exact (Weak.nilOwn (i := 3) (e := 30) (sz := 1) rfl (by decide)).trans (zw [(100, _)] hC (by rw [hA0]; repeat (first | exact True.intro | refine And.intro ?_ ?_ | exact DLead.same | exact rfl | refine ⟨_, rfl, ?_⟩)) (by rw [hA0]; repeat (first | exact True.intro | refine And.intro ?_ ?_ | exact rfl | refine ⟨_, _, rfl, rfl, ?_⟩)))
 intro i hi;refine AC.seq (AC.region ?_);refine zc ?_;refine AL.nil (th_n (AC.seq ?_));refine AC.condD rfl (fun h0 => ?_) (fun h0 => ?_)
 ·refine AC.skip (th_n (AC.seq (AC.block (AC.seq ?_))));have hi1 : i < c.arcs.length := by omega
  have hget := arAt_get hi1;have hAi := hAs i;have hAli := hAl i;have hQi := hQ i;have hRsi := hRs i;have hR0i := hR0 i;have hRli := hRl i;obtain ⟨a, ha⟩ := eqx (arAt c.arcs i);rw [← ha] at hget;simp only [← ha] at hQi;obtain ⟨L, hL⟩ := eqx (A i);rw [← hL] at hAi hAli ⊢;clear hL ha;refine AC.region ?_;refine zm ?_;refine AL.p (by exact g_ia_view (i := i) rfl rfl rfl rfl rfl rfl hget) rfl ?_;refine kG ?_;refine kE ?_;refine za ?_;refine zs ?_;refine AL.nil (th_n (AC.seq (AC.region ?_)));refine zm ?_;refine AL.p (by exact g_arith rfl rfl rfl (wrapS (x := i) (by omega))) rfl ?_;refine za ?_;refine AL.nil (th_n (AC.block ?_));refine AC.loop (ι := Nat) (fun k => ⟨62, 600, [(1, .d (.ref (sgD c))), (3, .own 100 (L ++ B i k).length), (4, aI i), (5, .ptr 200 0), (6, aI k), (9, .d (vArs c.arcs)), (10, aI c.arcs.length), (11, aI i)], [(200, some (.cells 117 [aI a.from_, aI a.sig, aT a.up, aI a.to_])), (100, some (.arr 30 1 (isL (L ++ B i k))))]⟩) (fun k => i < k ∧ k ≤ c.arcs.length) (fun k => c.arcs.length - k) (i + 1) ?_ (⟨Nat.lt_succ_self _, hi1⟩) ?_
  ·exact zw [(200, _), (100, 100)] hC (by rw [hR0i, List.append_nil]; repeat (first | exact True.intro | refine And.intro ?_ ?_ | exact DLead.same | exact rfl | refine ⟨_, rfl, ?_⟩)) (by rw [hR0i, List.append_nil]; repeat (first | exact True.intro | refine And.intro ?_ ?_ | exact DLead.same | exact rfl | refine ⟨_, _, rfl, rfl, ?_⟩ | refine ⟨_, rfl, ?_⟩ | refine ⟨_, _, rfl, ?_, ?_⟩))
  rintro k ⟨hk0, hk⟩;refine AC.seq (AC.seq (AC.region ?_));refine zm ?_;refine zf ?_;refine zr ?_;refine kI c.arcs.length (arL_len _) ?_;refine zc ?_;refine AL.nil (th_n ?_);refine AC.condD rfl (fun h1 => ?_) (fun h1 => ?_)
  ·refine AC.skip (th_n (AC.seq (AC.block (AC.seq ?_))));have hk1 : k < c.arcs.length := by omega
   have hgk := arAt_get hk1;have hqk := hQi k;have hBk := hRsi k;have hBl := hRli k;rw [decide_eq_true hk0, Bool.true_and] at hBk;obtain ⟨b, hb⟩ := eqx (arAt c.arcs k);rw [← hb] at hgk hqk;obtain ⟨Q, hQe⟩ := eqx (wayQ c i k);rw [← hQe] at hqk hBk;obtain ⟨M, hM⟩ := eqx (L ++ B i k);have hMl : M.length ≤ 20000000 := by rw [hM, List.length_append]; omega
   have hMs : M ++ (if Q = true then [[(i : Int), (k : Int)]] else []) = L ++ B i (k + 1) := by rw [hM, hBk, List.append_assoc]
   rw [← hM];clear hb hQe hM hBk;refine AC.region ?_;refine zf ?_;refine zr ?_;refine zm ?_;refine AL.p (by exact g_ia_view (i := k) rfl rfl rfl rfl rfl rfl hgk) rfl ?_;refine kG ?_;refine kE ?_;refine zs ?_;refine AL.nil (th_n (AC.seq (AC.region ?_)));refine zF ?_;refine zl ?_;refine zF ?_;refine zl ?_;refine zc ?_;refine zm ?_;refine AL.caseG rfl rfl (fun h2 => ?_) (fun h2 => ?_)
   ·refine zy ?_;refine zF ?_;refine zy ?_;refine zl ?_;refine zy ?_;refine zF ?_;refine zy ?_;refine zl ?_;refine zy ?_;refine zc ?_;refine zQ ?_;refine zm ?_;refine AL.caseG rfl rfl (fun h3 => ?_) (fun h3 => ?_)
    ·refine zy ?_;refine zF ?_;refine zy ?_;refine zl ?_;refine zy ?_;refine zc ?_;refine zQ ?_;refine zm ?_;refine AL.caseG rfl rfl (fun h4 => ?_) (fun h4 => ?_)
     ·refine zy ?_;refine zF ?_;refine zy ?_;refine zl ?_;refine zy ?_;refine zF ?_;refine zy ?_;refine zl ?_;refine zy ?_;refine zc ?_;refine zQ ?_;refine AL.nil (th_n ?_);refine AC.condND rfl (fun h5 => ?_) (fun h5 => ?_)
      ·refine AC.region ?_;refine kB ?_;refine zm ?_;refine zm ?_;refine AL.q (by exact h_litF rfl rfl rfl rfl rfl rfl rfl rfl) rfl ?_;refine AL.q (by exact h_litF rfl rfl rfl rfl rfl rfl rfl rfl) rfl ?_;refine AL.q (by exact h_appendIs M [[(i : Int), (k : Int)]] (.own rfl rfl (isL_len _).symm) (.view rfl) (by rw [List.length_append]; simp only [List.length_cons, List.length_nil]; omega) (by simp)) rfl ?_;refine AL.p (by exact as2 rfl) rfl ?_;refine AL.nil (ib_n (th_n (AC.region ?_)));refine zm ?_;refine AL.p (by exact g_arith rfl rfl rfl (wrapS (x := k) (by omega))) rfl ?_;refine za ?_;refine AL.nil (th_n ?_)
       (have q1 := ‹a.from_ = b.from_›; have q2 := ‹a.sig = b.sig›; have q0 := ‹0 ≤ a.sig›; have q3 := ‹¬ a.to_ = b.to_›; have e : Q = true := (by rw [hqk, decide_eq_true q1, decide_eq_true q2, decide_eq_true q0, decide_eq_false q3]; rfl); rw [if_pos e] at hMs; exact ⟨k + 1, ⟨by omega, by omega⟩, by omega, zw [(200, 200), (100, _)] hC (by rw [← hMs]; repeat (first | exact True.intro | refine And.intro ?_ ?_ | exact DLead.same | exact rfl | refine ⟨_, rfl, ?_⟩)) (by rw [← hMs]; repeat (first | exact True.intro | refine And.intro ?_ ?_ | exact DLead.same | exact rfl | refine ⟨_, _, rfl, rfl, ?_⟩ | refine ⟨_, rfl, ?_⟩ | refine ⟨_, _, rfl, ?_, ?_⟩))⟩)
      refine AC.skip (ib_n (th_n (AC.region ?_)));refine zm ?_;refine AL.p (by exact g_arith rfl rfl rfl (wrapS (x := k) (by omega))) rfl ?_;refine za ?_;refine AL.nil (th_n ?_)
      (have e : Q = false := (by (have q := ‹a.to_ = b.to_›; rw [hqk, decide_eq_true q]; exact Bool.and_false _)); rw [e, if_neg (by decide), List.append_nil] at hMs; exact ⟨k + 1, ⟨by omega, by omega⟩, by omega, zw [(200, 200), (100, 100)] hC (by rw [← hMs]; repeat (first | exact True.intro | refine And.intro ?_ ?_ | exact DLead.same | exact rfl | refine ⟨_, rfl, ?_⟩)) (by rw [← hMs]; repeat (first | exact True.intro | refine And.intro ?_ ?_ | exact DLead.same | exact rfl | refine ⟨_, _, rfl, rfl, ?_⟩ | refine ⟨_, rfl, ?_⟩ | refine ⟨_, _, rfl, ?_, ?_⟩))⟩)
     refine zn ?_;refine zn ?_;refine zn ?_;refine zn ?_;refine zn ?_;refine zP ?_;refine AL.nil (th_n ?_);refine AC.condF rfl ?_;refine AC.skip (ib_n (th_n (AC.region ?_)));refine zm ?_;refine AL.p (by exact g_arith rfl rfl rfl (wrapS (x := k) (by omega))) rfl ?_;refine za ?_;refine AL.nil (th_n ?_)
     (have e : Q = false := (by (have q := ‹¬ 0 ≤ a.sig›; rw [hqk, decide_eq_false q, Bool.and_false]; rfl)); rw [e, if_neg (by decide), List.append_nil] at hMs; exact ⟨k + 1, ⟨by omega, by omega⟩, by omega, zw [(200, 200), (100, 100)] hC (by rw [← hMs]; repeat (first | exact True.intro | refine And.intro ?_ ?_ | exact DLead.same | exact rfl | refine ⟨_, rfl, ?_⟩)) (by rw [← hMs]; repeat (first | exact True.intro | refine And.intro ?_ ?_ | exact DLead.same | exact rfl | refine ⟨_, _, rfl, rfl, ?_⟩ | refine ⟨_, rfl, ?_⟩ | refine ⟨_, _, rfl, ?_, ?_⟩))⟩)
    refine zn ?_;refine zn ?_;refine zn ?_;refine zP ?_;refine zm ?_;refine zn ?_;refine zn ?_;refine zn ?_;refine zn ?_;refine zn ?_;refine zP ?_;refine AL.nil (th_n ?_);refine AC.condF rfl ?_;refine AC.skip (ib_n (th_n (AC.region ?_)));refine zm ?_;refine AL.p (by exact g_arith rfl rfl rfl (wrapS (x := k) (by omega))) rfl ?_;refine za ?_;refine AL.nil (th_n ?_)
    (have e : Q = false := (by (have q := ‹¬ a.sig = b.sig›; rw [hqk, decide_eq_false q, Bool.and_false]; rfl)); rw [e, if_neg (by decide), List.append_nil] at hMs; exact ⟨k + 1, ⟨by omega, by omega⟩, by omega, zw [(200, 200), (100, 100)] hC (by rw [← hMs]; repeat (first | exact True.intro | refine And.intro ?_ ?_ | exact DLead.same | exact rfl | refine ⟨_, rfl, ?_⟩)) (by rw [← hMs]; repeat (first | exact True.intro | refine And.intro ?_ ?_ | exact DLead.same | exact rfl | refine ⟨_, _, rfl, rfl, ?_⟩ | refine ⟨_, rfl, ?_⟩ | refine ⟨_, _, rfl, ?_, ?_⟩))⟩)
   refine zn ?_;refine zn ?_;refine zn ?_;refine zn ?_;refine zn ?_;refine zP ?_;refine zm ?_;refine zn ?_;refine zn ?_;refine zn ?_;refine zP ?_;refine zm ?_;refine zn ?_;refine zn ?_;refine zn ?_;refine zn ?_;refine zn ?_;refine zP ?_;refine AL.nil (th_n ?_);refine AC.condF rfl ?_;refine AC.skip (ib_n (th_n (AC.region ?_)));refine zm ?_;refine AL.p (by exact g_arith rfl rfl rfl (wrapS (x := k) (by omega))) rfl ?_;refine za ?_;refine AL.nil (th_n ?_)
   (have e : Q = false := (by (have q := ‹¬ a.from_ = b.from_›; rw [hqk, decide_eq_false q]; rfl)); rw [e, if_neg (by decide), List.append_nil] at hMs; exact ⟨k + 1, ⟨by omega, by omega⟩, by omega, zw [(200, 200), (100, 100)] hC (by rw [← hMs]; repeat (first | exact True.intro | refine And.intro ?_ ?_ | exact DLead.same | exact rfl | refine ⟨_, rfl, ?_⟩)) (by rw [← hMs]; repeat (first | exact True.intro | refine And.intro ?_ ?_ | exact DLead.same | exact rfl | refine ⟨_, _, rfl, rfl, ?_⟩ | refine ⟨_, rfl, ?_⟩ | refine ⟨_, _, rfl, ?_, ?_⟩))⟩)
  refine AC.exit (th_e (th_e (ib_y (ib_n (th_n (AC.region ?_))))));refine zA ?_;refine zm ?_;refine AL.nil (th_n ?_);have hkk : k = c.arcs.length := by omega
  exact ⟨i + 1, by omega, by omega, zw [(100, 100)] hC (by rw [hAi, hkk]; repeat (first | exact True.intro | refine And.intro ?_ ?_ | exact DLead.same | exact rfl | refine ⟨_, rfl, ?_⟩)) (by rw [hAi, hkk]; repeat (first | exact True.intro | refine And.intro ?_ ?_ | exact rfl | refine ⟨_, _, rfl, rfl, ?_⟩))⟩
 refine AC.exit (th_e (th_e (ib_y (th_n (AC.seq ?_)))));have hii : i = c.arcs.length := by omega
 rw [hii];refine AC.weak (Weak.freeze (i := 3) rfl rfl (Nat.le_of_eq (isL_len _).symm) (List.take_of_length_le (Nat.le_of_eq (isL_len _)))) ?_;refine AC.region ?_;refine zm ?_;refine za ?_;refine AL.nil (th_n (AC.ret (bq_r ?_)));exact ret1 rfl rfl
theorem en_l6Ways : Enters Tryz.prog 85 := enters_of Tryz.func85 rfl rfl
def cnfB (c : SG) (x : List Int) : Bool := (ownL c.sigs c.sigs.length).any fun t => !(excB c (x.getD 0 0) t == excB c (x.getD 1 0) t)
def cnfL (c : SG) : List (List Int) := (eqcL c).filter (cnfB c)
theorem ownL_mem {s : List Sig} {n : Nat} {t : Int} (h : t ∈ ownL s n) : ∃ g : Nat, t = (g : Int) ∧ g < n := by
 unfold ownL nI at h;obtain ⟨g, hg, rfl⟩ := List.mem_map.1 h;rw [List.mem_filter] at hg;exact ⟨g, rfl, List.mem_range.1 hg.1⟩
theorem eqcL_mem {c : SG} {x : List Int} (h : x ∈ eqcL c) : ∃ i k : Nat, (i < k ∧ k < c.codes.length) ∧ bstr (cAtS c i) = bstr (cAtS c k) ∧ x = [(i : Int), (k : Int)] := by
 obtain ⟨i, k, _, h1, h2, h3, rfl⟩ := allP_mem h;exact ⟨i, k, ⟨h1, h2⟩, of_decide_eq_true h3, rfl⟩
theorem eqcL_len {c : SG} (h : c.codes.length ≤ 302) : (eqcL c).length ≤ 1000000 := by
 have := allP_len (codeQ c) c.codes.length 302 h c.codes.length;unfold eqcL;omega
theorem filter_snoc {α : Type} (p : α → Bool) {l : List α} {j : Nat} (hj : j < l.length) : (l.take (j + 1)).filter p = (l.take j).filter p ++ (if p l[j] = true then [l[j]] else []) := by
 rw [List.take_add_one, List.getElem?_eq_getElem hj, List.filter_append];congr 1
 by_cases h : p l[j] = true <;> simp [h]
theorem any_snoc {α : Type} {p : α → Bool} {l : List α} {k : Nat} (hk : k < l.length) : (l.take (k + 1)).any p = ((l.take k).any p || p l[k]) := by
 rw [List.take_add_one, List.getElem?_eq_getElem hk, List.any_append]; simp
set_option maxHeartbeats 8000000 in
theorem l6Conf_spec (c : SG) (hv : validC c = true) : ASpec Tryz.prog 87 [sgA c] [] (Pure1 (.d (vIs (cnfL c)))) := by
 obtain ⟨hn, hal, _, _⟩ := validC_at hv;obtain ⟨h8, _⟩ := sig_names hv;have hPr := l6Pairs_spec c (by omega);have hOw := l6Owned_spec c (by omega);have hXs := fun k g => l5Exc_spec c k g (by omega)
 have hLl := eqcL_len (c := c) (by omega);have hOl := ownL_len c.sigs c.sigs.length;have hLm := @eqcL_mem c;have hR : cnfL c = ((eqcL c).take (eqcL c).length).filter (cnfB c) := by rw [List.take_length]; rfl
 have hFs := fun j (hj : j < (eqcL c).length) => filter_snoc (cnfB c) hj
 have hB : ∀ i k : Nat, cnfB c [(i : Int), (k : Int)] = (ownL c.sigs c.sigs.length).any fun t => !(excB c (i : Int) t == excB c (k : Int) t) := fun _ _ => rfl
 have hFl := fun j => List.length_filter_le (cnfB c) ((eqcL c).take j)
 rw [hR];obtain ⟨L, hL⟩ := eqx (eqcL c);simp only [← hL] at hPr hLl hLm hFs hFl ⊢;obtain ⟨O, hO⟩ := eqx (ownL c.sigs c.sigs.length);simp only [← hO] at hOw hOl hB;clear hR hO;refine ASpec.of Tryz.func87 rfl rfl fun C hC => ?_
 refine AC.seq (AC.region ?_);refine kD ?_;refine za ?_;refine AL.nil (th_n (AC.seq (AC.region ?_)));refine za ?_;refine AL.nil (th_n (AC.seq (AC.seq (AC.region ?_))));refine kG ?_;refine kV en_l6Pairs hPr ?_;refine kI L.length (isL_len _) ?_;refine zm ?_;refine AL.nil (th_n (AC.block ?_));refine AC.loop (ι := Nat) (fun j => ⟨47, 300, [(1, .d (.ref (sgD c))), (3, .own 100 ((L.take j).filter (cnfB c)).length), (10, .d (vIs L)), (11, aI L.length), (12, aI j)], [(100, some (.arr 30 1 (isL ((L.take j).filter (cnfB c)))))]⟩) (fun j => j ≤ L.length) (fun j => L.length - j) (0) ?_ (Nat.zero_le _) ?_
 ·exact (Weak.nilOwn (i := 3) (e := 30) (sz := 1) rfl (by decide)).trans (zw [(100, _)] hC)
 intro j hj;refine AC.seq (AC.region ?_);refine zc ?_;refine AL.nil (th_n (AC.seq ?_));refine AC.condD rfl (fun h0 => ?_) (fun h0 => ?_)
 ·refine AC.skip (th_n (AC.seq (AC.block (AC.seq ?_))));have hj1 : j < L.length := by omega
  have hget := isL_get hj1;obtain ⟨i, k, _, _, hxe⟩ := hLm (List.getElem_mem hj1);have hFj := hFs j hj1;have hFlj := hFl j;rw [List.length_take] at hFlj;rw [hxe] at hget hFj;rw [hB] at hFj;have hsu := fun q (hq : q < O.length) => any_snoc (p := fun t => !(excB c (i : Int) t == excB c (k : Int) t)) hq
  obtain ⟨A, hA⟩ : ∃ A : Nat → Bool, A = fun q => (O.take q).any fun t => !(excB c (i : Int) t == excB c (k : Int) t) := ⟨_, rfl⟩
  have hAe : ∀ q, ((O.take q).any fun t => !(excB c (i : Int) t == excB c (k : Int) t)) = A q := fun q => by rw [hA]
  have hA0 : A 0 = false := by rw [hA]; rfl
  have hAl : (O.any fun t => !(excB c (i : Int) t == excB c (k : Int) t)) = A O.length := by rw [hA]; show _ = (O.take O.length).any _; rw [List.take_length]
  simp only [hAe] at hsu;rw [hAl] at hFj;obtain ⟨F, hF⟩ := eqx ((L.take j).filter (cnfB c));rw [← hF] at hFj hFlj ⊢;have hp0 : (ints [(i : Int), (k : Int)])[0]? = some [dI (i : Int)] := rfl;have hp1 : (ints [(i : Int), (k : Int)])[1]? = some [dI (k : Int)] := rfl;clear hA hAe hAl hF hxe;refine AC.region ?_;refine AL.p (by exact g_ia_view (i := j) rfl rfl rfl rfl rfl rfl hget) rfl ?_;refine zr ?_;refine za ?_;refine AL.nil (th_n (AC.seq (AC.region ?_)));refine za ?_;refine AL.nil (th_n (AC.seq (AC.seq (AC.region ?_))));refine kG ?_;refine kV en_l6Owned hOw ?_;refine kI O.length (ints_len _) ?_;refine zm ?_;refine AL.nil (th_n (AC.block ?_));refine AC.loop (ι := Nat) (fun q => ⟨47, 600, [(1, .d (.ref (sgD c))), (3, .own 100 F.length), (5, .d (vI [(i : Int), (k : Int)])), (6, aT (A q)), (10, .d (vIs L)), (11, aI L.length), (12, aI j), (17, .d (vI O)), (18, aI O.length), (19, aI q)], [(100, some (.arr 30 1 (isL F)))]⟩) (fun q => q ≤ O.length) (fun q => O.length - q) (0) ?_ (Nat.zero_le _) ?_
  ·exact Weak.ren _ [(100, 100)] hC rfl (by rw [hA0]; repeat (first | exact True.intro | refine And.intro ?_ ?_ | exact DLead.same | exact rfl | refine ⟨_, rfl, ?_⟩)) (by repeat (first | exact True.intro | refine And.intro ?_ ?_ | exact rfl | refine ⟨_, _, rfl, rfl, ?_⟩)) rfl rfl rfl
  intro q hq;refine AC.seq (AC.region ?_);refine zc ?_;refine AL.nil (th_n (AC.seq ?_));refine AC.condD rfl (fun h1 => ?_) (fun h1 => ?_)
  ·refine AC.skip (th_n (AC.seq (AC.block (AC.seq ?_))));have hq1 : q < O.length := by omega
   have hgo := ints_at hq1;have hsq := hsu q hq1;obtain ⟨t, ht⟩ := eqx (O[q]);rw [← ht] at hgo hsq;have hX1 := hXs (i : Int) t;have hX2 := hXs (k : Int) t;obtain ⟨x1, h1⟩ := eqx (excB c (i : Int) t);obtain ⟨x2, h2⟩ := eqx (excB c (k : Int) t);rw [← h1] at hX1 hsq;rw [← h2] at hX2 hsq;obtain ⟨m, hm⟩ := eqx (A q);rw [← hm] at hsq ⊢;clear ht h1 h2 hm;refine AC.region ?_;refine AL.p (by exact g_ia_view (i := q) rfl rfl rfl rfl rfl rfl hgo) rfl ?_;refine zr ?_;refine za ?_;refine AL.nil (th_n ?_);refine AC.drawn' mixed_ok [[], [0], [0,1], [0,1], [0,1,3], [0,1,3,4], [0,1], [0,1,2,3,4,5,6], [0,1], [0,1], [0,1,9], [0,1,9,10], [0,1], [0,1,2,3,4,5,6,7,8,9,10,11,12], [0,1,2,3,4,5,6,7,8,9,10,11,12,13], [0,1,2,3,4,5,6,7,8,9,10,11,12,13,14], [0,1,2,3,4,5,6,7,8,9,10,11,12,13,14,15]] (by decide) ?_;refine zd 0 [] 17 (by exact mv1 rfl) ?_;refine zd 1 [0] 17 (by exact mv1 rfl) ?_;refine DF.caseB 1 rfl (fun h2 => ?_) (fun h2 => ?_)
   ·refine zg 2 [0,1] 17 ?_;refine zg 3 [0,1] 17 ?_;refine zg 4 [0,1,3] 17 ?_;refine zg 5 [0,1,3,4] 17 ?_;refine zg 6 [0,1] 17 ?_;refine zg 7 [0,1,2,3,4,5,6] 17 ?_;refine zg 8 [0,1] 17 ?_;refine zg 9 [0,1] 17 ?_;refine zg 10 [0,1,9] 17 ?_;refine zg 11 [0,1,9,10] 17 ?_;refine zg 12 [0,1] 17 ?_;refine zg 13 (List.range 13) 17 ?_;refine zg 14 (List.range 14) 17 ?_;refine zd 15 (List.range 15) 17 (by exact g_pickT (r := .d _) rfl rfl) ?_;refine zd 16 (List.range 16) 17 (by exact as1 rfl) ?_;refine zj 17 ?_;refine ib_n (th_n (AC.region ?_));refine zA ?_;refine zm ?_;refine AL.nil (th_n ?_)
    (have w := ‹m = true›; rw [w, Bool.true_or] at hsq; exact ⟨q + 1, by omega, by omega, Weak.ren _ [(100, 100)] hC rfl (by rw [hsq]; repeat (first | exact True.intro | refine And.intro ?_ ?_ | exact DLead.same | exact rfl | refine ⟨_, rfl, ?_⟩)) (by repeat (first | exact True.intro | refine And.intro ?_ ?_ | exact rfl | refine ⟨_, _, rfl, rfl, ?_⟩)) rfl rfl rfl⟩)
   refine ze 2 [0,1] 17 (by exact g_load_refN rfl rfl rfl rfl) ?_;refine ze 3 [0,1] 17 (by exact mv1 rfl) ?_;refine ze 4 [0,1,3] 17 (by exact g_ia_view (i := 0) rfl rfl rfl rfl rfl rfl hp0) ?_;refine ze 5 [0,1,3,4] 17 (by exact g_load_ref rfl rfl rfl) ?_;refine ze 6 [0,1] 17 (by exact mv1 rfl) ?_;refine zi 7 [0,1,2,3,4,5,6] 17 (by exact h_pure en_l5Exc rfl rfl (by repeat (first | exact rfl | exact DLead.same | refine ⟨_, _, rfl, ?_, ?_⟩ | refine ⟨_, rfl, ?_⟩)) hX1 rfl) ?_;refine ze 8 [0,1] 17 (by exact g_load_refN rfl rfl rfl rfl) ?_;refine ze 9 [0,1] 17 (by exact mv1 rfl) ?_;refine ze 10 [0,1,9] 17 (by exact g_ia_view (i := 1) rfl rfl rfl rfl rfl rfl hp1) ?_;refine ze 11 [0,1,9,10] 17 (by exact g_load_ref rfl rfl rfl) ?_;refine ze 12 [0,1] 17 (by exact mv1 rfl) ?_;refine zi 13 (List.range 13) 17 (by exact h_pure en_l5Exc rfl rfl (by repeat (first | exact rfl | exact DLead.same | refine ⟨_, _, rfl, ?_, ?_⟩ | refine ⟨_, rfl, ?_⟩)) hX2 rfl) ?_;refine ze 14 (List.range 14) 17 (by exact g_neB rfl rfl rfl) ?_;refine zd 15 (List.range 15) 17 (by exact g_pickF (r := .d _) rfl rfl) ?_;refine zd 16 (List.range 16) 17 (by exact as1 rfl) ?_;refine zj 17 ?_;refine ib_n (th_n (AC.region ?_));refine zA ?_;refine zm ?_;refine AL.nil (th_n ?_)
   (have w := ‹m = false›; rw [w, Bool.false_or] at hsq; exact ⟨q + 1, by omega, by omega, Weak.ren _ [(100, 100)] hC rfl (by rw [hsq]; repeat (first | exact True.intro | refine And.intro ?_ ?_ | exact DLead.same | exact rfl | refine ⟨_, rfl, ?_⟩)) (by repeat (first | exact True.intro | refine And.intro ?_ ?_ | exact rfl | refine ⟨_, _, rfl, rfl, ?_⟩)) rfl rfl rfl⟩)
  refine AC.exit (th_e (th_e (ib_y (th_n (AC.seq ?_)))));have hqq : q = O.length := by omega
  rw [hqq];obtain ⟨m, hm⟩ := eqx (A O.length);rw [← hm] at hFj ⊢;clear hm;refine AC.region ?_;refine zm ?_;refine AL.nil (th_n ?_);refine AC.condB rfl (fun h2 => ?_) (fun h2 => ?_)
  ·refine AC.region ?_;refine kB ?_;refine zm ?_;refine AL.q (by exact h_litF rfl rfl rfl rfl rfl rfl rfl rfl) rfl ?_;refine AL.q (by exact h_appendIs F [[(i : Int), (k : Int)]] (.own rfl rfl (isL_len _).symm) (.view rfl) (by rw [List.length_append]; simp only [List.length_cons, List.length_nil]; omega) (by simp)) rfl ?_;refine AL.p (by exact as2 rfl) rfl ?_;refine AL.nil (ib_n (th_n (AC.region ?_)));refine zA ?_;refine zm ?_;refine AL.nil (th_n ?_)
   (have w := ‹m = true›; rw [if_pos w] at hFj; exact ⟨j + 1, by omega, by omega, zw [(100, _)] hC (by rw [hFj]; repeat (first | exact True.intro | refine And.intro ?_ ?_ | exact DLead.same | exact rfl | refine ⟨_, rfl, ?_⟩)) (by rw [hFj]; repeat (first | exact True.intro | refine And.intro ?_ ?_ | exact rfl | refine ⟨_, _, rfl, rfl, ?_⟩))⟩)
  refine AC.skip (ib_n (th_n (AC.region ?_)));refine zA ?_;refine zm ?_;refine AL.nil (th_n ?_)
  (have w := ‹m = false›; rw [w, if_neg (by decide), List.append_nil] at hFj; exact ⟨j + 1, by omega, by omega, zw [(100, 100)] hC (by rw [hFj]; repeat (first | exact True.intro | refine And.intro ?_ ?_ | exact DLead.same | exact rfl | refine ⟨_, rfl, ?_⟩)) (by rw [hFj]; repeat (first | exact True.intro | refine And.intro ?_ ?_ | exact rfl | refine ⟨_, _, rfl, rfl, ?_⟩))⟩)
 refine AC.exit (th_e (th_e (ib_y (th_n (AC.seq ?_)))));have hjj : j = L.length := by omega
 rw [hjj];refine AC.weak (Weak.freeze (i := 3) rfl rfl (Nat.le_of_eq (isL_len _).symm) (List.take_of_length_le (Nat.le_of_eq (isL_len _)))) ?_;refine AC.region ?_;refine zm ?_;refine za ?_;refine AL.nil (th_n (AC.ret (bq_r ?_)));exact ret1 rfl rfl
theorem en_l6Conf : Enters Tryz.prog 87 := enters_of Tryz.func87 rfl rfl
def hidB (c : SG) : Bool := c.arcs.any fun a => decide (a.sig = -1)
def wHid : List UInt8 := [104, 105, 100, 100, 101, 110]
def wTwo : List UInt8 := [116, 119, 111, 32, 119, 97, 121, 115]
def wBrk : List UInt8 := [98, 114, 101, 97, 107]
def wCnf : List UInt8 := [99, 111, 110, 102, 108, 105, 99, 116]
def wMad : List UInt8 := [109, 97, 100, 101]
def whyT (c : SG) : List UInt8 := if hidB c = true then wHid else if 0 < (wayP c).length then wTwo else if 0 < (brkL c).length then wBrk else if 0 < (cnfL c).length then wCnf else wMad
theorem l6Hidden_spec (c : SG) (hl : c.arcs.length ≤ 1000000) (hs : ∀ a, a ∈ c.arcs → -1 ≤ a.sig) : ASpec Tryz.prog 84 [sgA c] [] (Pure1 (aT (hidB c))) := by
 have hY : ∀ j (hj : j < c.arcs.length), c.arcs[j].sig < 0 → hidB c = true := fun j hj h => List.any_eq_true.2 ⟨_, List.getElem_mem hj, decide_eq_true (by have := hs _ (List.getElem_mem hj); omega)⟩
 have hN : (∀ j (hj : j < c.arcs.length), ¬ c.arcs[j].sig < 0) → hidB c = false := fun h => List.any_eq_false.2 fun a ha => by obtain ⟨j, hj, rfl⟩ := List.getElem_of_mem ha; have := h j hj; rw [decide_eq_true_eq]; omega
 obtain ⟨R, hRR⟩ := eqx (hidB c);rw [← hRR] at hY hN ⊢;clear hRR;refine ASpec.of Tryz.func84 rfl rfl fun C hC => ?_
 refine AC.seq (AC.region ?_);refine kD ?_;refine za ?_;refine AL.nil (th_n (AC.seq (AC.seq (AC.region ?_))));refine zf ?_;refine zr ?_;refine kI c.arcs.length (arL_len _) ?_;refine zm ?_;refine AL.nil (th_n (AC.block ?_));refine AC.loop (ι := Nat) (fun j => ⟨16, 300, [(1, .d (.ref (sgD c))), (6, .d (vArs c.arcs)), (7, aI c.arcs.length), (8, aI j)], []⟩) (fun j => j ≤ c.arcs.length ∧ ∀ i (hi : i < c.arcs.length), i < j → ¬ c.arcs[i].sig < 0) (fun j => c.arcs.length - j) (0) ?_ (⟨Nat.zero_le _, fun i _ hi => absurd hi (Nat.not_lt_zero _)⟩) ?_
 ·exact Weak.ren _ [] hC rfl (by repeat (first | exact True.intro | refine And.intro ?_ ?_ | exact DLead.same)) (by repeat (exact True.intro)) rfl rfl rfl
 rintro j ⟨hj, hall⟩;refine AC.seq (AC.region ?_);refine zc ?_;refine AL.nil (th_n (AC.seq ?_));refine AC.condD rfl (fun h0 => ?_) (fun h0 => ?_)
 ·refine AC.skip (th_n (AC.seq (AC.block (AC.seq ?_))));have hj1 : j < c.arcs.length := by omega
  have hget := arL_get hj1;have hYj := hY j hj1;have hnx : ¬ c.arcs[j].sig < 0 → ∀ i (hi : i < c.arcs.length), i < j + 1 → ¬ c.arcs[i].sig < 0 := fun q i hi h2 => by rcases Nat.lt_succ_iff_lt_or_eq.1 h2 with h | rfl; exact hall i hi h; exact q
  obtain ⟨v, hv⟩ := eqx (c.arcs[j]);rw [← hv] at hget hYj hnx;clear hv;refine AC.region ?_;refine AL.p (by exact g_ia_view rfl rfl rfl rfl rfl (by rfl) (by assumption)) rfl ?_;refine kG ?_;refine kE ?_;refine zs ?_;refine AL.nil (th_n (AC.seq (AC.region ?_)));refine zF ?_;refine zl ?_;refine zc ?_;refine AL.nil (th_n ?_);refine AC.condD rfl (fun h1 => ?_) (fun h1 => ?_)
  ·refine AC.seq (AC.region ?_);refine za ?_;refine AL.nil (th_n (AC.ret (ib_r (th_r (th_r (ib_r (th_r (bq_r ?_))))))));exact ret1 rfl (by rw [hYj (by assumption)])
  refine AC.skip (ib_n (th_n (AC.region ?_)));refine zA ?_;refine zm ?_;refine AL.nil (th_n ?_);exact ⟨j + 1, ⟨by omega, hnx (by assumption)⟩, by omega, Weak.ren _ [] hC rfl (by repeat (first | exact True.intro | refine And.intro ?_ ?_ | exact DLead.same)) (by repeat (exact True.intro)) rfl rfl rfl⟩
 refine AC.exit (th_e (th_e (ib_y (th_n (AC.seq (AC.region ?_))))));refine za ?_;refine AL.nil (th_n (AC.ret (bq_r ?_)));exact ret1 rfl (by rw [hN (fun i hi => hall i hi (by omega))])
theorem en_l6Hidden : Enters Tryz.prog 84 := enters_of Tryz.func84 rfl rfl
set_option maxHeartbeats 4000000 in
theorem l6Why_spec (c : SG) (hv : validC c = true) : ASpec Tryz.prog 64 [sgA c] [] (Pure1 (aS (bstr (whyT c)))) := by
 obtain ⟨hn, hal, hin, _⟩ := validC_at hv;have hCf := l6Hidden_spec c (by omega) (fun a ha => (arc_sig hv ha).2.2);have hTw := l6Ways_spec c hal;have hBr := l6Breaks_spec c hv;have hCn := l6Conf_spec c hv;have hR : whyT c = if hidB c = true then wHid else if 0 < (wayP c).length then wTwo else if 0 < (brkL c).length then wBrk else if 0 < (cnfL c).length then wCnf else wMad := rfl
 obtain ⟨R, hRR⟩ := eqx (whyT c);rw [← hRR] at hR ⊢;obtain ⟨b, hb⟩ := eqx (hidB c);rw [← hb] at hCf hR;obtain ⟨L1, h1⟩ := eqx (wayP c);obtain ⟨L2, h2⟩ := eqx (brkL c);obtain ⟨L3, h3⟩ := eqx (cnfL c);rw [← h1] at hTw hR;rw [← h2] at hBr hR;rw [← h3] at hCn hR;clear hRR hb h1 h2 h3;refine ASpec.of Tryz.func64 rfl rfl fun C hC => ?_
 refine AC.seq (AC.region ?_);refine kD ?_;refine za ?_;refine AL.nil (th_n (AC.seq (AC.block (AC.seq (AC.region ?_)))));refine kG ?_;refine kV en_l6Hidden hCf ?_;refine za ?_;refine AL.nil (th_n ?_);refine AC.condB rfl (fun h0 => ?_) (fun h0 => ?_)
 ·refine AC.seq (AC.region ?_);refine za ?_;refine AL.nil (th_n (AC.ret (ib_r (th_r (bq_r ?_)))));exact ret1 rfl (by rw [hR, if_pos ‹b = true›]; rfl)
 refine AC.seq (AC.region ?_);refine kG ?_;refine kV en_l6Ways hTw ?_;refine kI L1.length (isL_len _) ?_;refine zc ?_;refine za ?_;refine AL.nil (th_n ?_);refine AC.condD rfl (fun h1 => ?_) (fun h1 => ?_)
 ·refine AC.seq (AC.region ?_);refine za ?_;refine AL.nil (th_n (AC.ret (ib_r (th_r (bq_r ?_)))));exact ret1 rfl (by rw [hR, ‹b = false›, if_neg (by decide), if_pos (by omega)]; rfl)
 refine AC.seq (AC.region ?_);refine kG ?_;refine kV en_l6Breaks hBr ?_;refine kI L2.length (pvL_len _) ?_;refine zc ?_;refine za ?_;refine AL.nil (th_n ?_);refine AC.condD rfl (fun h2 => ?_) (fun h2 => ?_)
 ·refine AC.seq (AC.region ?_);refine za ?_;refine AL.nil (th_n (AC.ret (ib_r (th_r (bq_r ?_)))));exact ret1 rfl (by rw [hR, ‹b = false›, if_neg (by decide), if_neg (by omega), if_pos (by omega)]; rfl)
 refine AC.seq (AC.region ?_);refine kG ?_;refine kV en_l6Conf hCn ?_;refine kI L3.length (isL_len _) ?_;refine zc ?_;refine za ?_;refine AL.nil (th_n ?_);refine AC.condD rfl (fun h3 => ?_) (fun h3 => ?_)
 ·refine AC.seq (AC.region ?_);refine za ?_;refine AL.nil (th_n (AC.ret (ib_r (th_r (bq_r ?_)))));exact ret1 rfl (by rw [hR, ‹b = false›, if_neg (by decide), if_neg (by omega), if_neg (by omega), if_pos (by omega)]; rfl)
 refine AC.skip (ib_n (th_n (AC.seq (AC.region ?_))));refine za ?_;refine AL.nil (th_n (AC.ret (bq_r ?_)));exact ret1 rfl (by rw [hR, ‹b = false›, if_neg (by decide), if_neg (by omega), if_neg (by omega), if_neg (by omega)]; rfl)
theorem en_l6Why : Enters Tryz.prog 64 := enters_of Tryz.func64 rfl rfl
structure Gt where
 sig : Int
 kind : Int
 set : List Tx
 rst : List Tx
structure Cir where
 sigs : List Sig
 gates : List Gt
abbrev gtD (g : Gt) : List DV := [dI g.sig, dI g.kind, vSs g.set, vSs g.rst]
abbrev gtA (g : Gt) : AV := .agg [aI g.sig, aI g.kind, .d (vSs g.set), .d (vSs g.rst)]
abbrev gtL (l : List Gt) : List (List DV) := l.map gtD
abbrev vGs (l : List Gt) : DV := .view 39 4 (gtL l)
abbrev cirD (c : Cir) : List DV := [vSigs c.sigs, vGs c.gates]
abbrev cirA (c : Cir) : AV := .agg [.d (vSigs c.sigs), .d (vGs c.gates)]
theorem gtL_len (l : List Gt) : (gtL l).length = l.length := List.length_map _
theorem gtL_get {l : List Gt} {k : Nat} (h : k < l.length) : (gtL l)[k]? = some (gtD l[k]) := by rw [List.getElem?_map, List.getElem?_eq_getElem h]; rfl
structure GtL (g : Gt) : Prop where
 s : g.set.length ≤ 100000
 r : g.rst.length ≤ 100000
 sx : ∀ x, x ∈ g.set → x.length ≤ 2000000
 rx : ∀ x, x ∈ g.rst → x.length ≤ 2000000
structure CirL (c : Cir) : Prop where
 sl : c.sigs.length ≤ 100000
 sn : ∀ t, t ∈ c.sigs → t.name.length ≤ 1048576
 gl : c.gates.length ≤ 100000
 g : ∀ g, g ∈ c.gates → GtL g
def gB (n : Int) (g : Gt) : Bool := (decide (1 ≤ g.kind) && decide (g.kind ≤ 2)) && (cvB n g.set && (cvB n g.rst && !(decide (g.kind = 1) && decide (0 < g.rst.length))))
def goodC (c : Cir) : Bool := sigsB c.sigs && (decide (c.gates.map Gt.sig = ownL c.sigs c.sigs.length) && c.gates.all (gB c.sigs.length))
theorem cvB_nil {n : Int} {l : List Tx} (h : cvB n l = true) : cvB n [] = true := by
 have h1 := cvB_in h;unfold cvB;rw [decide_eq_true h1.1.1, decide_eq_true h1.1.2]; rfl
theorem gB_1 {n : Int} {g : Gt} (h : g.kind = 1) : gB n g = (cvB n g.set && decide ((g.rst.length : Int) = 0)) := by
 unfold gB;rw [h, decide_eq_true (by decide : (1 : Int) ≤ 1), decide_eq_true (by decide : (1 : Int) ≤ 2), decide_eq_true (rfl : (1 : Int) = 1), Bool.true_and, Bool.true_and, Bool.true_and];cases hs : cvB n g.set with
 | false => rfl
 | true =>
  rw [Bool.true_and, Bool.true_and];cases hr : g.rst with
  | nil => rw [cvB_nil hs]; rfl
  | cons a l => rw [decide_eq_true (by simp : 0 < (a :: l).length), decide_eq_false (by simp; omega : ¬ (((a :: l).length : Nat) : Int) = 0)]; simp
theorem gB_2 {n : Int} {g : Gt} (h : g.kind = 2) : gB n g = (cvB n g.set && cvB n g.rst) := by
 unfold gB;rw [h, decide_eq_true (by decide : (1 : Int) ≤ 2), decide_eq_true (by decide : (2 : Int) ≤ 2), decide_eq_false (by decide : ¬ (2 : Int) = 1)];simp
theorem gB_0 {n : Int} {g : Gt} (h1 : ¬ g.kind = 1) (h2 : ¬ g.kind = 2) : gB n g = false := by
 unfold gB
 by_cases q : 1 ≤ g.kind
 ·rw [decide_eq_false (by omega : ¬ g.kind ≤ 2), Bool.and_false]; rfl
 rw [decide_eq_false q]; rfl
theorem l16Gate_spec (c : Cir) (g : Gt) (hc : c.sigs.length ≤ 100000) (hg : GtL g) : ASpec Tryz.prog 53 [cirA c, gtA g] [] (Pure1 (aT (gB c.sigs.length g))) := by
 have hS := l13Good_spec c.sigs.length g.set (by have := hg.s; omega) hg.sx;have hR := l13Good_spec c.sigs.length g.rst (by have := hg.r; omega) hg.rx;have hrl := hg.r;have h1 := @gB_1 c.sigs.length g;have h2 := @gB_2 c.sigs.length g;have h0 := @gB_0 c.sigs.length g;obtain ⟨b1, hb1⟩ := eqx (cvB c.sigs.length g.set);obtain ⟨b2, hb2⟩ := eqx (cvB c.sigs.length g.rst);obtain ⟨R, hRR⟩ := eqx (gB c.sigs.length g);rw [← hb1] at hS;rw [← hb2] at hR;rw [← hRR, ← hb1] at h1 h2;rw [← hb2] at h2;rw [← hRR] at h0 ⊢;have k1 := h1;have k2 := h2;have k0 := h0;clear hb1 hb2 hRR h1 h2 h0;refine ASpec.of Tryz.func53 rfl rfl fun C hC => ?_
 refine AC.seq (AC.region ?_);refine kD ?_;refine kD ?_;refine za ?_;refine AL.nil (th_n (AC.seq (AC.region ?_)));refine zf ?_;refine zr ?_;refine kI c.sigs.length (sigsL_len _) ?_;refine za ?_;refine AL.nil (th_n (AC.seq (AC.seq (AC.region ?_))));refine zf ?_;refine zr ?_;refine AL.nil (th_n (AC.block (AC.seq (AC.region ?_))));refine zc ?_;refine za ?_;refine AL.nil (th_n ?_);refine AC.condD rfl (fun h0 => ?_) (fun h0 => ?_)
 ·refine AC.seq (AC.region ?_);refine zm ?_;refine zf ?_;refine zr ?_;refine kV en_l13Good hS ?_;refine zm ?_;refine AL.caseGB rfl rfl (fun h1 => ?_) (fun h1 => ?_)
  ·refine zy ?_;refine zf ?_;refine zy ?_;refine zr ?_;refine zy ?_;refine kI g.rst.length (strsL_len _) ?_;refine zy ?_;refine zc ?_;refine zQ ?_;refine za ?_;refine AL.nil (th_n (AC.ret (ib_r (th_r (bq_r ?_)))))
   (have q := ‹b1 = true›; exact ret1 rfl (by rw [k1 ‹g.kind = 1›, q, Bool.true_and]))
  refine zn ?_;refine zn ?_;refine zn ?_;refine zn ?_;refine zP ?_;refine za ?_;refine AL.nil (th_n (AC.ret (ib_r (th_r (bq_r ?_)))))
  (have q := ‹b1 = false›; exact ret1 rfl (by rw [k1 ‹g.kind = 1›, q, Bool.false_and]))
 refine AC.seq (AC.region ?_);refine zc ?_;refine za ?_;refine AL.nil (th_n ?_);refine AC.condD rfl (fun h1 => ?_) (fun h1 => ?_)
 ·refine AC.seq (AC.region ?_);refine zm ?_;refine zf ?_;refine zr ?_;refine kV en_l13Good hS ?_;refine zm ?_;refine AL.caseGB rfl rfl (fun h2 => ?_) (fun h2 => ?_)
  ·refine zy ?_;refine zm ?_;refine zy ?_;refine zf ?_;refine zy ?_;refine zr ?_;refine zy ?_;refine kV en_l13Good hR ?_;refine zQ ?_;refine za ?_;refine AL.nil (th_n (AC.ret (ib_r (th_r (bq_r ?_)))))
   (have q := ‹b1 = true›; exact ret1 rfl (by rw [k2 ‹g.kind = 2›, q, Bool.true_and]))
  refine zn ?_;refine zn ?_;refine zn ?_;refine zn ?_;refine zP ?_;refine za ?_;refine AL.nil (th_n (AC.ret (ib_r (th_r (bq_r ?_)))))
  (have q := ‹b1 = false›; exact ret1 rfl (by rw [k2 ‹g.kind = 2›, q, Bool.false_and]))
 refine AC.skip (ib_n (th_n (AC.seq (AC.region ?_))));refine za ?_;refine AL.nil (th_n (AC.ret (bq_r ?_)));exact ret1 rfl (by rw [k0 ‹¬ g.kind = 1› ‹¬ g.kind = 2›])
theorem en_l16Gate : Enters Tryz.prog 53 := enters_of Tryz.func53 rfl rfl
theorem own_pre (s : List Sig) (k : Nat) : ∀ n, k ≤ n → ∃ t, ownL s n = ownL s k ++ t
 | 0, h => ⟨[], by rw [show k = 0 by omega, List.append_nil]⟩
 | n + 1, h => by
  rcases Nat.lt_or_ge k (n + 1) with q | q
  ·obtain ⟨t, ht⟩ := own_pre s k n (by omega);exact ⟨t ++ _, by rw [ownL_succ, ht, List.append_assoc]⟩
  exact ⟨[], by rw [show k = n + 1 by omega, List.append_nil]⟩
theorem own_yes {s : List Sig} {k : Nat} (h : ownS s (k : Int) = true) : ownL s (k + 1) = ownL s k ++ [(k : Int)] := by rw [ownL_succ, if_pos h]
theorem own_no {s : List Sig} {k : Nat} (h : ownS s (k : Int) = false) : ownL s (k + 1) = ownL s k := by rw [ownL_succ, if_neg (by rw [h]; decide), List.append_nil]
structure GP (c : Cir) (k : Nat) : Prop where
 l : (ownL c.sigs k).length ≤ c.gates.length
 m : (c.gates.map Gt.sig).take (ownL c.sigs k).length = ownL c.sigs k
 g : ∀ j (hj : j < c.gates.length), j < (ownL c.sigs k).length → gB c.sigs.length c.gates[j] = true
theorem GP.zero (c : Cir) : GP c 0 := ⟨Nat.zero_le _, rfl, fun j hj h => absurd h (Nat.not_lt_zero _)⟩
theorem GP.skip {c : Cir} {k : Nat} (h : GP c k) (ho : ownS c.sigs (k : Int) = false) : GP c (k + 1) := by
 have e := own_no ho;exact ⟨by rw [e]; exact h.l, by rw [e]; exact h.m, by rw [e]; exact h.g⟩
theorem GP.put {c : Cir} {k a : Nat} (h : GP c k) (ho : ownS c.sigs (k : Int) = true) (hal : a = (ownL c.sigs k).length) (ha : a < c.gates.length) (hs : c.gates[a].sig = (k : Int)) (hg : gB c.sigs.length c.gates[a] = true) : GP c (k + 1) := by
 have e := own_yes ho;have el : (ownL c.sigs (k + 1)).length = a + 1 := by rw [e, List.length_append, ← hal]; rfl
 refine ⟨by omega, ?_, fun j hj hj2 => ?_⟩
 ·rw [el, List.take_add_one, hal, h.m, e, ← hal, List.getElem?_map, List.getElem?_eq_getElem ha];show _ ++ [c.gates[a].sig] = _;rw [hs]
 rw [el] at hj2;rcases Nat.lt_succ_iff_lt_or_eq.1 hj2 with q | rfl
 ·exact h.g j hj (by omega)
 exact hg
theorem GP.bad {c : Cir} {k a : Nat} (hk : k < c.sigs.length) (ho : ownS c.sigs (k : Int) = true) (hal : a = (ownL c.sigs k).length) (hb : ∀ ha : a < c.gates.length, c.gates[a].sig = (k : Int) → gB c.sigs.length c.gates[a] = false) : goodC c = false := by
 rw [Bool.eq_false_iff];intro h;unfold goodC at h;rw [Bool.and_eq_true, Bool.and_eq_true, decide_eq_true_eq] at h;obtain ⟨_, h2, h3⟩ := h;obtain ⟨t, ht⟩ := own_pre c.sigs (k + 1) c.sigs.length hk;rw [own_yes ho] at ht
 have hx : (c.gates.map Gt.sig)[a]? = some (k : Int) := by
  rw [h2, ht, List.append_assoc, hal, List.getElem?_append_right (Nat.le_refl _), Nat.sub_self]; rfl
 have ha : a < c.gates.length := by
  have := (List.getElem?_eq_some_iff.1 hx).1
  rwa [List.length_map] at this
 rw [List.getElem?_map, List.getElem?_eq_getElem ha] at hx;have hs : c.gates[a].sig = (k : Int) := by simpa using hx
 have := List.all_eq_true.1 h3 _ (List.getElem_mem ha);rw [hb ha hs] at this;cases this
theorem GP.fin {c : Cir} (h : GP c c.sigs.length) (hs : sigsB c.sigs = true) : goodC c = decide (((ownL c.sigs c.sigs.length).length : Int) = c.gates.length) := by
 unfold goodC;rw [hs, Bool.true_and];have hm := h.m
 by_cases e : (ownL c.sigs c.sigs.length).length = c.gates.length
 ·rw [decide_eq_true (by omega : ((ownL c.sigs c.sigs.length).length : Int) = c.gates.length)];rw [e, List.take_of_length_le (by rw [List.length_map]; exact Nat.le_refl _)] at hm;rw [decide_eq_true hm, Bool.true_and, List.all_eq_true];intro g hg;obtain ⟨j, hj, rfl⟩ := List.getElem_of_mem hg;exact h.g j hj (by omega)
 rw [decide_eq_false (by omega : ¬ ((ownL c.sigs c.sigs.length).length : Int) = c.gates.length), decide_eq_false, Bool.false_and];intro q;have := congrArg List.length q;rw [List.length_map] at this;omega
theorem ownS_k {s : List Sig} {k : Nat} (h : k < s.length) : ownS s (k : Int) = !decide (s[k].kind = 1) := by
 unfold ownS;rw [if_neg (by omega), Int.toNat_natCast, sAt_nat h]
set_option maxHeartbeats 8000000 in
theorem l16Good_spec (c : Cir) (hc : CirL c) : ASpec Tryz.prog 23 [cirA c] [] (Pure1 (aT (goodC c))) := by
 have hsl := hc.sl;have hgl := hc.gl;have hS := l2Signals_spec c.sigs (by omega) hc.sn;have hno : sigsB c.sigs = false → goodC c = false := fun h => by unfold goodC; rw [h]; rfl
 have hfin := fun (h : GP c c.sigs.length) hs => GP.fin h hs
 have hbad := fun (k a : Nat) => @GP.bad c k a
 obtain ⟨R, hR⟩ := eqx (goodC c);rw [← hR] at hno hfin hbad ⊢;obtain ⟨sb, hsb⟩ := eqx (sigsB c.sigs);rw [← hsb] at hS hno hfin;clear hR;refine ASpec.of Tryz.func23 rfl rfl fun C hC => ?_
 refine AC.seq (AC.region ?_);refine kD ?_;refine za ?_;refine AL.nil (th_n (AC.seq (AC.seq (AC.region ?_))));refine zf ?_;refine zr ?_;refine kV en_l2Signals hS ?_;refine kC ?_;refine AL.nil (th_n ?_);refine AC.condB rfl (fun h0 => ?_) (fun h0 => ?_)
 ·refine AC.seq (AC.region ?_);refine za ?_;refine AL.nil (th_n (AC.ret (th_r (bq_r ?_))));exact ret1 rfl (by rw [hno (by simpa using h0)])
 refine AC.skip (th_n (AC.seq (AC.region ?_)));refine za ?_;refine AL.nil (th_n (AC.seq (AC.seq (AC.region ?_))));refine zf ?_;refine zr ?_;refine kI c.sigs.length (sigsL_len _) ?_;refine zm ?_;refine AL.nil (th_n (AC.block ?_));refine AC.loop (ι := Nat) (fun k => ⟨54, 300, [(1, .d (.ref (cirD c))), (3, aI (ownL c.sigs k).length), (11, .d (vSigs c.sigs)), (12, aI c.sigs.length), (13, aI k)], []⟩) (fun k => k ≤ c.sigs.length ∧ GP c k) (fun k => c.sigs.length - k) (0) ?_ (⟨Nat.zero_le _, GP.zero c⟩) ?_
 ·exact Weak.ren _ [] hC rfl (by repeat (first | exact True.intro | refine And.intro ?_ ?_ | exact DLead.same)) (by repeat (exact True.intro)) rfl rfl rfl
 rintro k ⟨hk, hP⟩;refine AC.seq (AC.region ?_);refine zc ?_;refine AL.nil (th_n (AC.seq ?_));refine AC.condD rfl (fun h1 => ?_) (fun h1 => ?_)
 ·refine AC.skip (th_n ?_);refine AC.cut (fun (_ : Unit) => ⟨54, 900, [(1, .d (.ref (cirD c))), (3, aI (ownL c.sigs (k + 1)).length), (11, .d (vSigs c.sigs)), (12, aI c.sigs.length), (13, aI k)], []⟩) (fun _ => k < c.sigs.length ∧ GP c (k + 1)) ?_ ?_
  ·refine AC.block (AC.seq ?_);have hk1 : k < c.sigs.length := by omega
   have hget := sigsL_get hk1;have how := ownS_k hk1;have hPl := hP.l;have hsk := fun ho => hP.skip ho
   have hpt := fun ho a ha => @GP.put c k a hP ho ha
   have hbd := fun ho a ha => hbad k a hk1 ho ha
   have hyes := @own_yes c.sigs k;have hnn := @own_no c.sigs k;obtain ⟨a, ha⟩ := eqx ((ownL c.sigs k).length);rw [← ha] at hPl;refine AC.region ?_;refine zm ?_;refine AL.p (by exact g_ia_view rfl rfl rfl rfl rfl (by rfl) (by assumption)) rfl ?_;refine kG ?_;refine kE ?_;refine za ?_;refine zs ?_;refine AL.nil (th_n (AC.seq (AC.seq (AC.region ?_))));refine zF ?_;refine zl ?_;refine zc ?_;refine AL.nil (th_n ?_);refine AC.condD rfl (fun h2 => ?_) (fun h2 => ?_)
   ·refine AC.exit (th_e (ib_y (th_n ?_)))
    (have w := ‹c.sigs[k].kind = 1›; have ho : ownS c.sigs (k : Int) = false := (by rw [how, decide_eq_true w]; rfl); exact ⟨(), ⟨hk1, hsk ho⟩, Weak.ren _ [] hC rfl (by rw [hnn ho]; repeat (first | exact True.intro | refine And.intro ?_ ?_ | exact DLead.same)) (by repeat (exact True.intro)) rfl rfl rfl⟩)
   refine AC.skip (th_n (AC.seq (AC.seq ?_)));have hkd : ¬ c.sigs[k].kind = 1 := by assumption
   rw [decide_eq_false hkd] at how;have hal : (ownL c.sigs (k + 1)).length = a + 1 := by rw [hyes how, List.length_append, ← ha]; rfl
   rw [← ha];refine AC.drawn' mixed_ok [[], [], [1], [1,2], [0,1,2,3], [0,1,2,3,4], [0,1,2,3,4,5], [0,1,2,3,4,5,6], [0,1,2,3,4,5], [0,1,2,3,4,5,6,7,8], [0,1,2,3,4,5,6,7,8,9], [0,1,2,3,4,5,6,7,8,9,10], [0,1,2,3,4,5], [0,1,2,3,4,5,6,7,8,9,10,11,12], [0,1,2,3,4,5,6,7,8,9,10,11,12,13], [0,1,2,3,4,5,6,7,8,9,10,11,12,13,14], [0,1,2,3,4,5,6,7,8,9,10,11,12,13,14,15], [0,1,2,3,4,5,6,7,8,9,10,11,12,13,14,15], [0,1,2,3,4,5,6,7,8,9,10,11,12,13,14,15,17], [0,1,2,3,4,5,6,7,8,9,10,11,12,13,14,15], [0,1,2,3,4,5,6,7,8,9,10,11,12,13,14,15,17,18,19], [0,1,2,3,4,5,6,7,8,9,10,11,12,13,14,15,17,18,19,20], [0,1,2,3,4,5,6,7,8,9,10,11,12,13,14,15,16,17,18,19,20,21], [0,1,2,3,4,5,6,7,8,9,10,11,12,13,14,15,16,17,18,19,20,21,22], [0,1,2,3,4,5,6,7,8,9,10,11,12,13,14,15,16,17,18,19,20,21,22,23]] (by decide) ?_;refine zd 0 [] 25 (by exact mv1 rfl) ?_;refine zd 1 [] 25 (by exact g_fa_ref rfl rfl rfl rfl rfl rfl) ?_;refine zd 2 [1] 25 (by exact g_load_ref rfl rfl rfl) ?_;refine zd 3 [1,2] 25 (by exact g_len_view (k := c.gates.length) rfl rfl (gtL_len _)) ?_;refine zd 4 [0,1,2,3] 25 (by exact g_cmp rfl rfl rfl) ?_;refine zd 5 [0,1,2,3,4] 25 (by exact mv1 rfl) ?_;refine DF.caseD 5 rfl (fun h3 => ?_) (fun h3 => ?_)
   ·refine zg 6 [0,1,2,3,4,5] 25 ?_;refine zg 7 [0,1,2,3,4,5,6] 25 ?_;refine zg 8 [0,1,2,3,4,5] 25 ?_;refine zg 9 (List.range 9) 25 ?_;refine zg 10 (List.range 10) 25 ?_;refine zg 11 (List.range 11) 25 ?_;refine zg 12 [0,1,2,3,4,5] 25 ?_;refine zg 13 (List.range 13) 25 ?_;refine zd 14 (List.range 14) 25 (by exact g_pickT (r := .d _) rfl rfl) ?_;refine zd 15 (List.range 15) 25 (by exact mv1 rfl) ?_;refine zg 16 (List.range 16) 25 ?_;refine zg 17 (List.range 16) 25 ?_;refine zg 18 [0,1,2,3,4,5,6,7,8,9,10,11,12,13,14,15,17] 25 ?_;refine zg 19 (List.range 16) 25 ?_;refine zg 20 [0,1,2,3,4,5,6,7,8,9,10,11,12,13,14,15,17,18,19] 25 ?_;refine zg 21 [0,1,2,3,4,5,6,7,8,9,10,11,12,13,14,15,17,18,19,20] 25 ?_;refine zg 22 (List.range 22) 25 ?_;refine zg 23 (List.range 23) 25 ?_;refine zd 24 (List.range 24) 25 (by exact g_pickT (r := .d _) rfl rfl) ?_;refine zj 25 ?_;refine th_n ?_;refine AC.condT rfl ?_;refine AC.seq (AC.region ?_);refine za ?_;refine AL.nil (th_n (AC.ret (th_r (ib_r (th_r (th_r (ib_r (th_r (bq_r ?_)))))))))
    (have w := ‹(a : Int) = (c.gates.length : Int)›; exact ret1 rfl (by rw [hbd how a ha (fun h _ => absurd h (by omega))]))
   have ha1 : a < c.gates.length := by omega
   have hgg := gtL_get ha1;have hGs := l16Gate_spec c c.gates[a] hsl (hc.g _ (List.getElem_mem ha1));obtain ⟨gb, hgb⟩ := eqx (gB c.sigs.length c.gates[a]);rw [← hgb] at hGs;refine ze 6 [0,1,2,3,4,5] 25 (by exact g_fa_ref rfl rfl rfl rfl rfl rfl) ?_;refine ze 7 [0,1,2,3,4,5,6] 25 (by exact g_load_ref rfl rfl rfl) ?_;refine ze 8 [0,1,2,3,4,5] 25 (by exact mv1 rfl) ?_;refine ze 9 (List.range 9) 25 (by exact g_ia_view (i := a) rfl rfl rfl rfl rfl rfl hgg) ?_;refine ze 10 (List.range 10) 25 (by exact g_fa_ref rfl rfl rfl rfl rfl rfl) ?_;refine ze 11 (List.range 11) 25 (by exact g_load_ref rfl rfl rfl) ?_;refine ze 12 [0,1,2,3,4,5] 25 (by exact mv1 rfl) ?_;refine ze 13 (List.range 13) 25 (by exact g_cmp rfl rfl rfl) ?_;refine zd 14 (List.range 14) 25 (by exact g_pickF (r := .d _) rfl rfl) ?_;refine zd 15 (List.range 15) 25 (by exact mv1 rfl) ?_;refine DF.caseB 15 rfl (fun h4 => ?_) (fun h4 => ?_)
   ·refine zg 16 (List.range 16) 25 ?_;refine zg 17 (List.range 16) 25 ?_;refine zg 18 [0,1,2,3,4,5,6,7,8,9,10,11,12,13,14,15,17] 25 ?_;refine zg 19 (List.range 16) 25 ?_;refine zg 20 [0,1,2,3,4,5,6,7,8,9,10,11,12,13,14,15,17,18,19] 25 ?_;refine zg 21 [0,1,2,3,4,5,6,7,8,9,10,11,12,13,14,15,17,18,19,20] 25 ?_;refine zg 22 (List.range 22) 25 ?_;refine zg 23 (List.range 23) 25 ?_;refine zd 24 (List.range 24) 25 (by exact g_pickT (r := .d _) rfl rfl) ?_;refine zj 25 ?_;refine th_n ?_;refine AC.condT rfl ?_;refine AC.seq (AC.region ?_);refine za ?_;refine AL.nil (th_n (AC.ret (th_r (ib_r (th_r (th_r (ib_r (th_r (bq_r ?_)))))))))
    (have w := ‹(!decide (c.gates[a].sig = (k : Int))) = true›; exact ret1 rfl (by rw [hbd how a ha (fun _ h => absurd h (by simpa using w))]))
   refine ze 16 (List.range 16) 25 (by exact g_load_refN rfl rfl rfl rfl) ?_;refine ze 17 (List.range 16) 25 (by exact g_fa_ref rfl rfl rfl rfl rfl rfl) ?_;refine ze 18 [0,1,2,3,4,5,6,7,8,9,10,11,12,13,14,15,17] 25 (by exact g_load_ref rfl rfl rfl) ?_;refine ze 19 (List.range 16) 25 (by exact mv1 rfl) ?_;refine ze 20 [0,1,2,3,4,5,6,7,8,9,10,11,12,13,14,15,17,18,19] 25 (by exact g_ia_view (i := a) rfl rfl rfl rfl rfl rfl hgg) ?_;refine ze 21 [0,1,2,3,4,5,6,7,8,9,10,11,12,13,14,15,17,18,19,20] 25 (by exact g_load_refN rfl rfl rfl rfl) ?_;refine zi 22 (List.range 22) 25 (by exact h_pure en_l16Gate rfl rfl (by repeat (first | exact rfl | exact DLead.same | refine ⟨_, _, rfl, ?_, ?_⟩ | refine ⟨_, rfl, ?_⟩)) hGs rfl) ?_;refine ze 23 (List.range 23) 25 (by exact g_not rfl) ?_;refine zd 24 (List.range 24) 25 (by exact g_pickF (r := .d _) rfl rfl) ?_;refine zj 25 ?_;refine th_n ?_;refine AC.condB rfl (fun h5 => ?_) (fun h5 => ?_)
   ·refine AC.seq (AC.region ?_);refine za ?_;refine AL.nil (th_n (AC.ret (th_r (ib_r (th_r (th_r (ib_r (th_r (bq_r ?_)))))))))
    (have w := ‹(!gb) = true›; exact ret1 rfl (by rw [hbd how a ha (fun _ _ => by rw [← hgb]; simpa using w)]))
   refine AC.skip (th_n (AC.region ?_));refine zm ?_;refine zA ?_;refine za ?_;refine AL.nil (ib_n (th_n ?_))
   (have w := ‹(!gb) = false›; exact ⟨(), ⟨hk1, hpt how a ha ha1 (by simpa using ‹(!decide (c.gates[a].sig = (k : Int))) = false›) (by rw [← hgb]; simpa using w)⟩, Weak.ren _ [] hC rfl (by repeat (first | exact True.intro | refine And.intro ?_ ?_ | exact DLead.same | exact DLead.eqI (by omega))) (by repeat (exact True.intro)) rfl rfl rfl⟩)
  rintro _ ⟨hk2, hP2⟩;refine AC.region ?_;refine zA ?_;refine zm ?_;refine AL.nil (th_n ?_);exact ⟨k + 1, ⟨by omega, hP2⟩, by omega, Weak.ren _ [] hC rfl (by repeat (first | exact True.intro | refine And.intro ?_ ?_ | exact DLead.same)) (by repeat (exact True.intro)) rfl rfl rfl⟩
 refine AC.exit (th_e (th_e (ib_y (th_n (AC.seq ?_)))));have hkk : k = c.sigs.length := by omega
 rw [hkk] at hP ⊢;have hf := hfin hP (by simpa using h0);refine AC.region ?_;refine zm ?_;refine zf ?_;refine zr ?_;refine kI c.gates.length (gtL_len _) ?_;refine zc ?_;refine za ?_;refine AL.nil (th_n (AC.ret (bq_r ?_)));exact ret1 rfl (by rw [hf])
theorem en_l16Good : Enters Tryz.prog 23 := enters_of Tryz.func23 rfl rfl
end Go.Proofs.YtjodfopifgiipaaGreat
