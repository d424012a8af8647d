/- Contracts of the functions of the program and of the reference, each proved by a walk through its code. -/
import Derived.Test.YtbiinjejokhfgaaGreatGRu6
set_option linter.all false
set_option maxRecDepth 20000
namespace Go.Proofs.YtbiinjejokhfgaaGreat
open Go.RowKit
theorem c1 {q b1 b2 : Bool} (hq : q = ((true || b1) && !b2)) (h : (!b2) = true) : q = true := by rw [hq, h]; rfl
theorem c2 {q b1 b2 : Bool} (hq : q = ((true || b1) && !b2)) (h : (!b2) = false) : q = false := by rw [hq, h]; rfl
theorem c3 {q b1 b2 : Bool} (hq : q = ((false || b1) && !b2)) (h1 : b1 = true) (h : (!b2) = true) : q = true := by rw [hq, h1, h]; rfl
theorem c4 {q b1 b2 : Bool} (hq : q = ((false || b1) && !b2)) (h1 : b1 = true) (h : (!b2) = false) : q = false := by rw [hq, h1, h]; rfl
theorem c5 {q b1 b2 : Bool} (hq : q = ((false || b1) && !b2)) (h1 : b1 = false) : q = false := by rw [hq, h1]; rfl
set_option maxRecDepth 20000 in
set_option maxHeartbeats 4000000 in
theorem brCut_spec (N : Net) (u : Unf) (L A : List ES) (s : ES) (hW : WB u L A) (hs : subU s u.es.length) : ASpec Tryz.prog 90 [.d (.ref (brD N u L A)), aU s] [] (Pure1 (.d (vI (cutK (cutR u s) u.cs.length)))) := by
 have hcl := hW.w.c;have hel := hW.e;refine ASpec.of Tryz.func90 rfl rfl fun C hC => ?_
 refine AC.seq (AC.region ?_);refine za ?_;refine AL.nil (th_n (AC.seq (AC.region ?_)));refine AL.q (by exact h_lit rfl rfl rfl rfl rfl rfl rfl rfl) rfl ?_;refine AL.p (by exact as2 rfl) rfl ?_;refine AL.nil (th_n (AC.seq (AC.seq (AC.region ?_))));refine zm ?_;refine AL.p (by exact g_nilR rfl) rfl ?_;refine zf ?_;refine zf ?_;refine zr ?_;refine kH ?_;refine zm ?_;refine AL.nil (th_n (AC.block ?_));refine AC.loop (ι := Nat) (fun k => ⟨42, 108, [(0, .d (.ref (brD N u L A))), (1, aU s), (5, .own 100 (cutK (cutR u s) k).length), (13, .d (vCs u.cs)), (14, aI u.cs.length), (15, aI k)], [(100, some (.arr 3 1 (ints (cutK (cutR u s) k))))]⟩) (fun k => k ≤ u.cs.length) (fun k => u.cs.length - k) (0) ?_ (Nat.zero_le _) ?_
 ·exact zw [(100, _)] hC
 intro k hk;refine AC.seq (AC.region ?_);refine zc ?_;refine AL.nil (th_n (AC.seq ?_));refine AC.condD rfl (fun h0 => ?_) (fun h0 => ?_)
 ·refine AC.skip (th_n (AC.seq (AC.block (AC.seq ?_))));have hk1 : k < u.cs.length := by omega
  have hget := condsL_get hk1;have hln := cutK_len (cutR u s) k;have hbb := hW.w.b _ (List.getElem_mem hk1);have hcv : cAt u (k : Int) = u.cs[k] := cAt_nat hk1;have hKo := brConsumed_spec N u L A s (k : Int) hW.w hs;have hHa : 0 ≤ u.cs[k].by_ → ASpec Tryz.prog 108 [aU s, aI u.cs[k].by_] [] (Pure1 (aT (s.getLsbD u.cs[k].by_.toNat))) := fun h0 => by have := esHas_spec s u.cs[k].by_.toNat (by omega); rwa [Int.toNat_of_nonneg h0] at this
  have hq : cutR u s k = ((decide (u.cs[k].by_ < 0) || s.getLsbD u.cs[k].by_.toNat) && !consI u s (k : Int)) := by unfold cutR; rw [hcv]
  obtain ⟨b1, hb1⟩ := eqx (s.getLsbD u.cs[k].by_.toNat);obtain ⟨b2, hb2⟩ := eqx (consI u s (k : Int));rw [← hb1] at hHa;rw [← hb2] at hKo;rw [← hb1, ← hb2] at hq;refine AC.region ?_;refine zm ?_;refine AL.p (by exact g_ia_view rfl rfl rfl rfl rfl (by rfl) (by assumption)) rfl ?_;refine kG ?_;refine kE ?_;refine za ?_;refine zs ?_;refine AL.nil (th_n (AC.seq (AC.region ?_)));refine zF ?_;refine zl ?_;refine zc ?_;refine zm ?_;refine AL.caseG rfl rfl (fun h1 => ?_) (fun h1 => ?_)
  ·refine zn ?_;refine zn ?_;refine zn ?_;refine zn ?_;refine zQ ?_;refine zm ?_;refine zy ?_;refine zm ?_;refine zy ?_;refine zm ?_;refine zy ?_;refine zm ?_;refine zy ?_;refine kV en_brConsumed hKo ?_;refine zy ?_;refine kC ?_;refine zQ ?_;refine AL.nil (th_n ?_);refine AC.condB rfl (fun h2 => ?_) (fun h2 => ?_)
   ·refine AC.region ?_;refine kB ?_;refine zm ?_;refine AL.q (by exact h_litF rfl rfl rfl rfl rfl rfl rfl rfl) rfl ?_;refine AL.q (by exact h_appendI (cutK (cutR u s) k) [(k : Int)] (.own rfl rfl (ints_len _).symm) (.view rfl) (by simp; omega) (by simp)) rfl ?_;refine AL.p (by exact as2 rfl) rfl ?_;refine AL.nil (ib_n (th_n (AC.region ?_)));refine zA ?_;refine zm ?_;refine AL.nil (th_n ?_);rw [decide_eq_true h1] at hq;have e := cutK_t (c1 hq h2);exact ⟨k + 1, by omega, by omega, zw [(100, _)] hC (by rw [e]; repeat (first | exact True.intro | refine And.intro ?_ ?_ | exact DLead.same | exact rfl | refine ⟨_, rfl, ?_⟩)) (by rw [e]; repeat (first | exact True.intro | refine And.intro ?_ ?_ | exact rfl | refine ⟨_, _, rfl, rfl, ?_⟩))⟩
   refine AC.skip (ib_n (th_n (AC.region ?_)));refine zA ?_;refine zm ?_;refine AL.nil (th_n ?_);rw [decide_eq_true h1] at hq;have e := cutK_f (c2 hq h2);exact ⟨k + 1, by omega, by omega, zw [(100, _)] hC (by rw [e]; repeat (first | exact True.intro | refine And.intro ?_ ?_ | exact DLead.same | exact rfl | refine ⟨_, rfl, ?_⟩)) (by rw [e]; repeat (first | exact True.intro | refine And.intro ?_ ?_ | exact rfl | refine ⟨_, _, rfl, rfl, ?_⟩))⟩
  refine zy ?_;refine zm ?_;refine zy ?_;refine zF ?_;refine zy ?_;refine zl ?_;refine zy ?_;refine AL.q (by exact h_pure en_esHas rfl rfl (by repeat (first | exact rfl | exact DLead.same | refine ⟨_, _, rfl, ?_, ?_⟩)) (hHa (by omega)) rfl) rfl ?_;refine zP ?_;refine zm ?_;refine AL.caseGB rfl rfl (fun h2 => ?_) (fun h2 => ?_)
  ·refine zy ?_;refine zm ?_;refine zy ?_;refine zm ?_;refine zy ?_;refine zm ?_;refine zy ?_;refine kV en_brConsumed hKo ?_;refine zy ?_;refine kC ?_;refine zQ ?_;refine AL.nil (th_n ?_);refine AC.condB rfl (fun h3 => ?_) (fun h3 => ?_)
   ·refine AC.region ?_;refine kB ?_;refine zm ?_;refine AL.q (by exact h_litF rfl rfl rfl rfl rfl rfl rfl rfl) rfl ?_;refine AL.q (by exact h_appendI (cutK (cutR u s) k) [(k : Int)] (.own rfl rfl (ints_len _).symm) (.view rfl) (by simp; omega) (by simp)) rfl ?_;refine AL.p (by exact as2 rfl) rfl ?_;refine AL.nil (ib_n (th_n (AC.region ?_)));refine zA ?_;refine zm ?_;refine AL.nil (th_n ?_);rw [decide_eq_false h1] at hq;have e := cutK_t (c3 hq h2 h3);exact ⟨k + 1, by omega, by omega, zw [(100, _)] hC (by rw [e]; repeat (first | exact True.intro | refine And.intro ?_ ?_ | exact DLead.same | exact rfl | refine ⟨_, rfl, ?_⟩)) (by rw [e]; repeat (first | exact True.intro | refine And.intro ?_ ?_ | exact rfl | refine ⟨_, _, rfl, rfl, ?_⟩))⟩
   refine AC.skip (ib_n (th_n (AC.region ?_)));refine zA ?_;refine zm ?_;refine AL.nil (th_n ?_);rw [decide_eq_false h1] at hq;have e := cutK_f (c4 hq h2 h3);exact ⟨k + 1, by omega, by omega, zw [(100, _)] hC (by rw [e]; repeat (first | exact True.intro | refine And.intro ?_ ?_ | exact DLead.same | exact rfl | refine ⟨_, rfl, ?_⟩)) (by rw [e]; repeat (first | exact True.intro | refine And.intro ?_ ?_ | exact rfl | refine ⟨_, _, rfl, rfl, ?_⟩))⟩
  refine zn ?_;refine zn ?_;refine zn ?_;refine zn ?_;refine zn ?_;refine zP ?_;refine AL.nil (th_n ?_);refine AC.condF rfl ?_;refine AC.skip (ib_n (th_n (AC.region ?_)));refine zA ?_;refine zm ?_;refine AL.nil (th_n ?_);rw [decide_eq_false h1] at hq;have e := cutK_f (c5 hq h2);exact ⟨k + 1, by omega, by omega, zw [(100, _)] hC (by rw [e]; repeat (first | exact True.intro | refine And.intro ?_ ?_ | exact DLead.same | exact rfl | refine ⟨_, rfl, ?_⟩)) (by rw [e]; repeat (first | exact True.intro | refine And.intro ?_ ?_ | exact rfl | refine ⟨_, _, rfl, rfl, ?_⟩))⟩
 refine AC.exit (th_e (th_e (ib_y (th_n (AC.seq ?_)))));have hkk : k = u.cs.length := by omega
 subst hkk;refine AC.weak (Weak.freeze (i := 5) rfl rfl (Nat.le_of_eq (ints_len _).symm) (ints_all _)) ?_;refine AC.region ?_;refine zm ?_;refine za ?_;refine AL.nil (th_n (AC.ret (bq_r ?_)));exact ret1 rfl rfl
theorem en_brCut : Enters Tryz.prog 90 := enters_of Tryz.func90 rfl rfl
set_option maxRecDepth 20000 in
set_option maxHeartbeats 4000000 in
theorem l7Cut_spec (u : Unf) (l : List Int) (hw : WF u) (hl : l.length ≤ 1000000) (hin : ∀ e, e ∈ l → 0 ≤ e ∧ e < u.es.length) : ASpec Tryz.prog 91 [unfA u, .d (vI l)] [] (Pure1 (.d (vI (cutI u l)))) := by
 have hcl := hw.c;unfold cutI;refine ASpec.of Tryz.func91 rfl rfl fun C hC => ?_
 refine AC.seq (AC.region ?_);refine kD ?_;refine za ?_;refine AL.nil (th_n (AC.seq (AC.region ?_)));refine za ?_;refine AL.nil (th_n (AC.seq (AC.seq (AC.region ?_))));refine zf ?_;refine zr ?_;refine kH ?_;refine zm ?_;refine AL.nil (th_n (AC.block ?_));refine AC.loop (ι := Nat) (fun k => ⟨38, 108, [(1, .d (vI l)), (2, .d (.ref (unfD u))), (5, .own 100 (cutK (cutQ u l) k).length), (9, .d (vCs u.cs)), (10, aI u.cs.length), (11, aI k)], [(100, some (.arr 3 1 (ints (cutK (cutQ u l) k))))]⟩) (fun k => k ≤ u.cs.length) (fun k => u.cs.length - k) (0) ?_ (Nat.zero_le _) ?_
 ·exact (Weak.nilOwn (i := 5) (e := 3) (sz := 1) rfl (by decide)).trans (zw [(100, _)] hC)
 intro k hk;refine AC.seq (AC.region ?_);refine zc ?_;refine AL.nil (th_n (AC.seq ?_));refine AC.condD rfl (fun h0 => ?_) (fun h0 => ?_)
 ·refine AC.skip (th_n (AC.seq (AC.block (AC.seq ?_))));have hk1 : k < u.cs.length := by omega
  have hget := condsL_get hk1;have hln := cutK_len (cutQ u l) k;have hcv : cAt u (k : Int) = u.cs[k] := cAt_nat hk1;have hKo := l7Used_spec u l (k : Int) hw hl hin;have hHa := l1Has_spec l u.cs[k].by_ hl;have hq : cutQ u l k = ((decide (u.cs[k].by_ < 0) || hasI l u.cs[k].by_) && !usedI u l (k : Int)) := by unfold cutQ; rw [hcv]
  obtain ⟨b1, hb1⟩ := eqx (hasI l u.cs[k].by_);obtain ⟨b2, hb2⟩ := eqx (usedI u l (k : Int));rw [← hb1] at hHa;rw [← hb2] at hKo;rw [← hb1, ← hb2] at hq;refine AC.region ?_;refine zm ?_;refine AL.p (by exact g_ia_view rfl rfl rfl rfl rfl (by rfl) (by assumption)) rfl ?_;refine kG ?_;refine kE ?_;refine za ?_;refine zs ?_;refine AL.nil (th_n (AC.seq (AC.region ?_)));refine zF ?_;refine zl ?_;refine zc ?_;refine zm ?_;refine AL.caseG rfl rfl (fun h1 => ?_) (fun h1 => ?_)
  ·refine zn ?_;refine zn ?_;refine zn ?_;refine zn ?_;refine zQ ?_;refine zm ?_;refine zy ?_;refine kG ?_;refine zy ?_;refine zm ?_;refine zy ?_;refine zm ?_;refine zy ?_;refine kV en_l7Used hKo ?_;refine zy ?_;refine kC ?_;refine zQ ?_;refine AL.nil (th_n ?_);refine AC.condB rfl (fun h2 => ?_) (fun h2 => ?_)
   ·refine AC.region ?_;refine kB ?_;refine zm ?_;refine AL.q (by exact h_litF rfl rfl rfl rfl rfl rfl rfl rfl) rfl ?_;refine AL.q (by exact h_appendI (cutK (cutQ u l) k) [(k : Int)] (.own rfl rfl (ints_len _).symm) (.view rfl) (by simp; omega) (by simp)) rfl ?_;refine AL.p (by exact as2 rfl) rfl ?_;refine AL.nil (ib_n (th_n (AC.region ?_)));refine zA ?_;refine zm ?_;refine AL.nil (th_n ?_);rw [decide_eq_true h1] at hq;have e := cutK_t (c1 hq h2);exact ⟨k + 1, by omega, by omega, zw [(100, _)] hC (by rw [e]; repeat (first | exact True.intro | refine And.intro ?_ ?_ | exact DLead.same | exact rfl | refine ⟨_, rfl, ?_⟩)) (by rw [e]; repeat (first | exact True.intro | refine And.intro ?_ ?_ | exact rfl | refine ⟨_, _, rfl, rfl, ?_⟩))⟩
   refine AC.skip (ib_n (th_n (AC.region ?_)));refine zA ?_;refine zm ?_;refine AL.nil (th_n ?_);rw [decide_eq_true h1] at hq;have e := cutK_f (c2 hq h2);exact ⟨k + 1, by omega, by omega, zw [(100, _)] hC (by rw [e]; repeat (first | exact True.intro | refine And.intro ?_ ?_ | exact DLead.same | exact rfl | refine ⟨_, rfl, ?_⟩)) (by rw [e]; repeat (first | exact True.intro | refine And.intro ?_ ?_ | exact rfl | refine ⟨_, _, rfl, rfl, ?_⟩))⟩
  refine zy ?_;refine zm ?_;refine zy ?_;refine zF ?_;refine zy ?_;refine zl ?_;refine zy ?_;refine kV en_l1Has hHa ?_;refine zP ?_;refine zm ?_;refine AL.caseGB rfl rfl (fun h2 => ?_) (fun h2 => ?_)
  ·refine zy ?_;refine kG ?_;refine zy ?_;refine zm ?_;refine zy ?_;refine zm ?_;refine zy ?_;refine kV en_l7Used hKo ?_;refine zy ?_;refine kC ?_;refine zQ ?_;refine AL.nil (th_n ?_);refine AC.condB rfl (fun h3 => ?_) (fun h3 => ?_)
   ·refine AC.region ?_;refine kB ?_;refine zm ?_;refine AL.q (by exact h_litF rfl rfl rfl rfl rfl rfl rfl rfl) rfl ?_;refine AL.q (by exact h_appendI (cutK (cutQ u l) k) [(k : Int)] (.own rfl rfl (ints_len _).symm) (.view rfl) (by simp; omega) (by simp)) rfl ?_;refine AL.p (by exact as2 rfl) rfl ?_;refine AL.nil (ib_n (th_n (AC.region ?_)));refine zA ?_;refine zm ?_;refine AL.nil (th_n ?_);rw [decide_eq_false h1] at hq;have e := cutK_t (c3 hq h2 h3);exact ⟨k + 1, by omega, by omega, zw [(100, _)] hC (by rw [e]; repeat (first | exact True.intro | refine And.intro ?_ ?_ | exact DLead.same | exact rfl | refine ⟨_, rfl, ?_⟩)) (by rw [e]; repeat (first | exact True.intro | refine And.intro ?_ ?_ | exact rfl | refine ⟨_, _, rfl, rfl, ?_⟩))⟩
   refine AC.skip (ib_n (th_n (AC.region ?_)));refine zA ?_;refine zm ?_;refine AL.nil (th_n ?_);rw [decide_eq_false h1] at hq;have e := cutK_f (c4 hq h2 h3);exact ⟨k + 1, by omega, by omega, zw [(100, _)] hC (by rw [e]; repeat (first | exact True.intro | refine And.intro ?_ ?_ | exact DLead.same | exact rfl | refine ⟨_, rfl, ?_⟩)) (by rw [e]; repeat (first | exact True.intro | refine And.intro ?_ ?_ | exact rfl | refine ⟨_, _, rfl, rfl, ?_⟩))⟩
  refine zn ?_;refine zn ?_;refine zn ?_;refine zn ?_;refine zn ?_;refine zP ?_;refine AL.nil (th_n ?_);refine AC.condF rfl ?_;refine AC.skip (ib_n (th_n (AC.region ?_)));refine zA ?_;refine zm ?_;refine AL.nil (th_n ?_);rw [decide_eq_false h1] at hq;have e := cutK_f (c5 hq h2);exact ⟨k + 1, by omega, by omega, zw [(100, _)] hC (by rw [e]; repeat (first | exact True.intro | refine And.intro ?_ ?_ | exact DLead.same | exact rfl | refine ⟨_, rfl, ?_⟩)) (by rw [e]; repeat (first | exact True.intro | refine And.intro ?_ ?_ | exact rfl | refine ⟨_, _, rfl, rfl, ?_⟩))⟩
 refine AC.exit (th_e (th_e (ib_y (th_n (AC.seq ?_)))));have hkk : k = u.cs.length := by omega
 subst hkk;refine AC.weak (Weak.freeze (i := 5) rfl rfl (Nat.le_of_eq (ints_len _).symm) (ints_all _)) ?_;refine AC.region ?_;refine zm ?_;refine za ?_;refine AL.nil (th_n (AC.ret (bq_r ?_)));exact ret1 rfl rfl
theorem en_l7Cut : Enters Tryz.prog 91 := enters_of Tryz.func91 rfl rfl
theorem h_appendBy (acc new : List UInt8) {s : ASt} {dst : Option Nat} {ty : Nat} {pos : String} {af : Array Edge} {gd : Option (Nat × Bool)} {x y : Operand} {f : Nat} {ids ids2 : List Nat} {gone : List (Nat × Option Chunk)}
  (hto : AppTo s x 5 1 (byteEls acc) ids gone) (harg : AppArg s y 1 (byteEls new) ids2) (h : (acc ++ new).length ≤ 100000000) (hnew : gone = [] → 0 < new.length) :
  NOp Tryz.prog (ids ++ ids2) s ⟨dst, .call { callee := .builtin .append, args := #[x, y], argTypes := #[22, 22] }, ty, pos, af, gd⟩ f ⟨.own f (acc ++ new).length, (f, some (.arr 5 1 (byteEls (acc ++ new)))) :: gone⟩ := by
 have := h_append (P := Tryz.prog) (s := s) (dst := dst) (ty := ty) (pos := pos) (af := af) (gd := gd) (x := x) (y := y) (f := f) (t := 22) (tx := 22) (k := (acc ++ new).length) rfl rfl rfl rfl rfl rfl hto harg (by simp) (by omega) (by show (acc ++ new).length * 1 ≤ _; omega) (fun h => by rw [List.length_map]; exact hnew h)
 rwa [← List.map_append] at this
theorem finK_nil (P : Nat) (u : Unf) : finK (finQ u []) P = List.replicate P 48 := by
 unfold finK;refine List.ext_getElem? fun i => ?_
 rw [List.getElem?_map, List.getElem?_replicate]
 by_cases h : i < P
 ·rw [List.getElem?_range h, if_pos h]; rfl
 rw [if_neg h, List.getElem?_eq_none (by simp; omega)]; rfl
theorem rep_succ (k : Nat) : List.replicate (k + 1) (48 : UInt8) = List.replicate k 48 ++ [48] := List.replicate_succ'
set_option maxRecDepth 20000 in
set_option maxHeartbeats 4000000 in
theorem brFinal_spec (N : Net) (u : Unf) (L A : List ES) (s : ES) (hN : NetS N) (hW : WB u L A) (hp : PL N u) (hs : subU s u.es.length) : ASpec Tryz.prog 86 [.d (.ref (brD N u L A)), aU s] [] (Pure1 (aS (bstr (finK (finQ u (cutK (cutR u s) u.cs.length)) N.places.toNat)))) := by
 have hcl := hW.w.c;have hel := hW.e;have hpl := hN.p;have hCu := brCut_spec N u L A s hW hs;have hcin : ∀ c, c ∈ cutK (cutR u s) u.cs.length → 0 ≤ c ∧ c < u.cs.length := fun c hc => cutK_in hc
 have hcl2 := cutK_len (cutR u s) u.cs.length;obtain ⟨ct, hct⟩ := eqx (cutK (cutR u s) u.cs.length);rw [← hct] at hCu hcin hcl2 ⊢;obtain ⟨P, hP⟩ : ∃ P : Nat, N.places = (P : Int) := ⟨N.places.toNat, by omega⟩;rw [hP, Int.toNat_natCast];refine ASpec.of Tryz.func86 rfl rfl fun C hC => ?_
 refine AC.seq (AC.region ?_);refine za ?_;refine AL.nil (th_n (AC.seq (AC.region ?_)));refine AL.q (by exact h_lit rfl rfl rfl rfl rfl rfl rfl rfl) rfl ?_;refine AL.p (by exact as2 rfl) rfl ?_;refine AL.nil (th_n (AC.seq (AC.seq (AC.region ?_))));refine zm ?_;refine AL.p (by exact g_nilR rfl) rfl ?_;refine zf ?_;refine zf ?_;refine zr ?_;refine zm ?_;refine AL.nil (th_n (AC.block ?_));refine AC.loop (ι := Nat) (fun k => ⟨42, 108, [(0, .d (.ref (brD N u L A))), (1, aU s), (5, .own 100 k), (13, aI N.places), (14, aI k)], [(100, some (.arr 5 1 (byteEls (List.replicate k 48))))]⟩) (fun k => k ≤ P) (fun k => P - k) (0) ?_ (Nat.zero_le _) ?_
 ·exact zw [(100, _)] hC
 intro k hk;refine AC.seq (AC.region ?_);refine zc ?_;refine AL.nil (th_n (AC.seq ?_));refine AC.condD rfl (fun h0 => ?_) (fun h0 => ?_)
 ·refine AC.skip (th_n (AC.seq (AC.block ?_)));have hk1 : k < P := by omega
  have hrl : (List.replicate k (48 : UInt8)).length = k := List.length_replicate;refine AC.region ?_;refine kB ?_;refine AL.q (by exact h_litF rfl rfl rfl rfl rfl rfl rfl rfl) rfl ?_;refine AL.q (by exact h_appendBy (List.replicate k 48) [48] (.own rfl rfl (by rw [List.length_map, hrl])) (.view rfl) (by rw [List.length_append, hrl]; show k + 1 ≤ _; omega) (by simp)) rfl ?_;refine AL.p (by exact as2 rfl) rfl ?_;refine AL.nil (ib_n (th_n (AC.region ?_)));refine zA ?_;refine zm ?_;refine AL.nil (th_n ?_);have hl5 : (List.replicate k (48 : UInt8) ++ [48]).length = k + 1 := by rw [List.length_append, hrl]; rfl
  exact ⟨k + 1, by omega, by omega, zw [(100, _)] hC (by rw [← hl5]; repeat (first | exact True.intro | refine And.intro ?_ ?_ | exact DLead.same | exact DLead.eqI (by omega) | exact rfl | refine ⟨_, rfl, ?_⟩)) (by rw [rep_succ]; repeat (first | exact True.intro | refine And.intro ?_ ?_ | exact rfl | refine ⟨_, _, rfl, rfl, ?_⟩))⟩
 refine AC.exit (th_e (th_e (ib_y (th_n (AC.seq (AC.seq ?_))))));have hkP : k = P := by omega
 subst hkP;refine AC.region ?_;refine zm ?_;refine zm ?_;refine kV en_brCut hCu ?_;refine kH ?_;refine zm ?_;refine AL.nil (th_n (AC.block ?_));refine AC.loop (ι := Nat) (fun q => ⟨42, 108, [(0, .d (.ref (brD N u L A))), (1, aU s), (5, .own 100 k), (22, .d (vI ct)), (23, aI ct.length), (24, aI q)], [(100, some (.arr 5 1 (byteEls (finK (finQ u (ct.take q)) k))))]⟩) (fun q => q ≤ ct.length) (fun q => ct.length - q) (0) ?_ (Nat.zero_le _) ?_
 ·exact zw [(100, _)] hC (b := by rw [List.take_zero, finK_nil]; repeat (first | exact True.intro | refine And.intro ?_ ?_ | exact rfl | refine ⟨_, _, rfl, rfl, ?_⟩))
 intro q hq;refine AC.seq (AC.region ?_);refine zc ?_;refine AL.nil (th_n (AC.seq ?_));refine AC.condD rfl (fun h1 => ?_) (fun h1 => ?_)
 ·refine AC.skip (th_n (AC.seq (AC.block (AC.seq ?_))));have hq1 : q < ct.length := by omega
  have hgetq := ints_at hq1;have hci := hcin _ (List.getElem_mem hq1);obtain ⟨c, hc⟩ : ∃ c : Nat, ct[q] = (c : Int) := ⟨ct[q].toNat, by omega⟩;have hcc : c < u.cs.length := by omega
  have hgetc := condsL_get hcc;have hcv : cAt u (c : Int) = u.cs[c] := cAt_nat hcc;have hpc := hp _ (List.getElem_mem hcc);obtain ⟨p, hpp⟩ : ∃ p : Nat, u.cs[c].place = (p : Int) := ⟨u.cs[c].place.toNat, by omega⟩;have hpk : p < k := by omega
  have hfs := finK_set (P := k) (p := p) hq1 (by rw [hc, hcv, hpp]);have hfl : (finK (finQ u (ct.take q)) k).length = k := finK_len _ _;have hgb := byteEls_get (m := finK (finQ u (ct.take q)) k) (k := p) (by omega);rw [hc] at hgetq;rw [hpp] at hgetc;refine AC.region ?_;refine AL.p (by exact g_ia_view rfl rfl rfl rfl rfl (by rfl) (by assumption)) rfl ?_;refine zr ?_;refine za ?_;refine AL.nil (th_n (AC.region ?_));refine kB ?_;refine zm ?_;refine AL.p (by exact g_nilR rfl) rfl ?_;refine zf ?_;refine zf ?_;refine zr ?_;refine zm ?_;refine AL.p (by exact g_ia_view rfl rfl rfl rfl rfl (by rfl) (by assumption)) rfl ?_;refine zf ?_;refine zr ?_;refine AL.p (by exact g_ia_own rfl rfl rfl rfl rfl (by rfl) (by omega) (by exact Nat.mul_one _)) rfl ?_;refine AL.q (by exact h_store_arr1 rfl rfl rfl rfl (by exact .same) (by assumption)) rfl ?_;refine AL.nil (ib_n (th_n (AC.region ?_)));refine zA ?_;refine zm ?_;refine AL.nil (th_n ?_);exact ⟨q + 1, by omega, by omega, zw [(100, _)] hC (b := by rw [← hfs, ← byteEls_set]; repeat (first | exact True.intro | refine And.intro ?_ ?_ | exact rfl | refine ⟨_, _, rfl, rfl, ?_⟩))⟩
 refine AC.exit (th_e (th_e (ib_y (th_n (AC.seq ?_)))));have hqq : q = ct.length := by omega
 rw [hqq, List.take_length];have hfl : (finK (finQ u ct) k).length = k := finK_len _ _;refine AC.region ?_;refine kB ?_;refine AL.p (by exact g_strOfBytes (l := finK (finQ u ct) k) rfl rfl rfl rfl rfl rfl hfl.symm) rfl ?_;refine za ?_;refine AL.nil (th_n (AC.ret (bq_r ?_)));exact ret1 rfl rfl
theorem en_brFinal : Enters Tryz.prog 86 := enters_of Tryz.func86 rfl rfl
set_option maxRecDepth 20000 in
set_option maxHeartbeats 4000000 in
theorem l7Mark_spec (N : Net) (u : Unf) (l : List Int) (hN : NetS N) (hw : WF u) (hl : l.length ≤ 1000000) (hin : ∀ e, e ∈ l → 0 ≤ e ∧ e < u.es.length) : ASpec Tryz.prog 89 [netA N, unfA u, .d (vI l)] [] (Pure1 (aS (bstr (finI N u l)))) := by
 have hcl := hw.c;have hpl := hN.p;have hCu := l7Cut_spec u l hw hl hin;have hcin : ∀ c, c ∈ cutI u l → 0 ≤ c ∧ c < u.cs.length := fun c hc => cutK_in hc
 have hcl2 : (cutI u l).length ≤ u.cs.length := cutK_len (cutQ u l) u.cs.length;unfold finI;obtain ⟨ct, hct⟩ := eqx (cutI u l);rw [← hct] at hCu hcin hcl2 ⊢;have hPl := l7Places_spec u ct hw (by omega) hcin;have hpll := placesI_len u ct;have hfp := fin_places u ct;obtain ⟨pl, hple⟩ := eqx (placesI u ct);rw [← hple] at hPl hpll;simp only [← hple] at hfp;obtain ⟨P, hP⟩ : ∃ P : Nat, N.places = (P : Int) := ⟨N.places.toNat, by omega⟩;rw [hP, Int.toNat_natCast];refine ASpec.of Tryz.func89 rfl rfl fun C hC => ?_
 refine AC.seq (AC.region ?_);refine kD ?_;refine kD ?_;refine za ?_;refine AL.nil (th_n (AC.seq ?_));refine AC.drawn' mixed_ok [[], [], [], [1,2], [0,1,2,3], [0,1,2,3,4]] (by decide) ?_;refine zd 0 [] 6 (by exact g_load_refN rfl rfl rfl rfl) ?_;refine zd 1 [] 6 (by exact g_load_refN rfl rfl rfl rfl) ?_;refine zd 2 [] 6 (by exact mv1 rfl) ?_;refine zh 3 [1,2] 6 (by exact h_pure en_l7Cut rfl rfl (by repeat (first | exact rfl | exact DLead.same | refine ⟨_, _, rfl, ?_, ?_⟩ | refine ⟨_, rfl, ?_⟩)) hCu rfl) ?_;refine zh 4 [0,1,2,3] 6 (by exact h_pure en_l7Places rfl rfl (by repeat (first | exact rfl | exact DLead.same | refine ⟨_, _, rfl, ?_, ?_⟩ | refine ⟨_, rfl, ?_⟩)) hPl rfl) ?_;refine zd 5 [0,1,2,3,4] 6 (by exact as1 rfl) ?_;refine zj 6 ?_;refine th_n (AC.seq (AC.region ?_));refine za ?_;refine AL.nil (th_n (AC.seq (AC.seq (AC.region ?_))));refine za ?_;refine AL.nil (th_n (AC.block ?_));refine AC.loop (ι := Nat) (fun k => ⟨29, 108, [(3, .d (.ref (netD N))), (7, .d (vI pl)), (8, aS (bstr (finK (finQ u ct) k))), (9, aI k)], []⟩) (fun k => k ≤ P) (fun k => P - k) (0) ?_ (Nat.zero_le _) ?_
 ·exact Weak.ren _ [] hC rfl (by repeat (first | exact True.intro | refine And.intro ?_ ?_ | exact DLead.same)) (by repeat (exact True.intro)) rfl rfl rfl
 intro k hk;refine AC.seq (AC.seq (AC.region ?_));refine zm ?_;refine zf ?_;refine zr ?_;refine zc ?_;refine AL.nil (th_n ?_);refine AC.condD rfl (fun h0 => ?_) (fun h0 => ?_)
 ·refine AC.skip (th_n (AC.seq (AC.block (AC.seq ?_))));have hk1 : k < P := by omega
  have hHa := l1Has_spec pl (k : Int) (by omega);rw [hfp k] at hHa;have hfl := finK_len (finQ u ct) k;have hfs := bstr_size (finK (finQ u ct) k);have hsu := finK_succ (finQ u ct) k;obtain ⟨b, hb⟩ := eqx (finQ u ct k);rw [← hb] at hHa hsu;have hz1 : (ByteArray.mk #[49]).size = 1 := rfl;have hz0 : (ByteArray.mk #[48]).size = 1 := rfl;refine AC.region ?_;refine zm ?_;refine zm ?_;refine kV en_l1Has hHa ?_;refine AL.nil (th_n ?_);refine AC.condB rfl (fun h1 => ?_) (fun h1 => ?_)
  ·refine AC.region ?_;refine zm ?_;refine AL.p (by exact g_sadd rfl rfl (by omega)) rfl ?_;refine za ?_;refine AL.nil (ib_n (th_n (AC.region ?_)));refine zm ?_;refine zA ?_;refine za ?_;refine AL.nil (th_n ?_)
   (rw [if_pos h1] at hsu; exact ⟨k + 1, by omega, by omega, Weak.ren _ [] hC rfl (by rw [hsu, ← bstr_append]; repeat (first | exact True.intro | refine And.intro ?_ ?_ | exact DLead.same)) (by repeat (exact True.intro)) rfl rfl rfl⟩)
  refine AC.region ?_;refine zm ?_;refine AL.p (by exact g_sadd rfl rfl (by omega)) rfl ?_;refine za ?_;refine AL.nil (ib_n (th_n (AC.region ?_)));refine zm ?_;refine zA ?_;refine za ?_;refine AL.nil (th_n ?_)
  (rw [if_neg (bne_t h1)] at hsu; exact ⟨k + 1, by omega, by omega, Weak.ren _ [] hC rfl (by rw [hsu, ← bstr_append]; repeat (first | exact True.intro | refine And.intro ?_ ?_ | exact DLead.same)) (by repeat (exact True.intro)) rfl rfl rfl⟩)
 refine AC.exit (th_e (th_e (ib_y (th_n (AC.seq (AC.region ?_))))));refine zm ?_;refine za ?_;refine AL.nil (th_n (AC.ret (bq_r ?_)));have hkP : k = P := by omega
 subst hkP;exact ret1 rfl rfl
theorem en_l7Mark : Enters Tryz.prog 89 := enters_of Tryz.func89 rfl rfl
theorem ahead_at : ∀ {x y : List Int} {k : Nat}, (∀ i, i < k → x[i]? = y[i]?) → k ≤ x.length → k ≤ y.length → aheadI x y = aheadI (x.drop k) (y.drop k)
 | x, y, 0, _, _, _ => by simp
 | [], _, k + 1, _, h, _ => by simp at h
 | _ :: _, [], k + 1, _, _, h => by simp at h
 | a :: x, b :: y, k + 1, h, hx, hy => by
  have h0 := h 0 (by omega);simp only [List.getElem?_cons_zero, Option.some.injEq] at h0;rw [aheadI, if_pos h0, List.drop_succ_cons, List.drop_succ_cons];exact ahead_at (fun i hi => by have := h (i + 1) (by omega); simpa using this) (by simpa using hx) (by simpa using hy)
theorem ahead_ne {x y : List Int} {k : Nat} (h : ∀ i, i < k → x[i]? = y[i]?) (hx : k < x.length) (hy : k < y.length) (hne : ¬ x[k] = y[k]) : aheadI x y = decide (x[k] < y[k]) := by
 rw [ahead_at h (by omega) (by omega), List.drop_eq_getElem_cons hx, List.drop_eq_getElem_cons hy, aheadI, if_neg hne]
theorem ahead_end {x y : List Int} {k : Nat} (h : ∀ i, i < k → x[i]? = y[i]?) (hx : k ≤ x.length) (hy : k ≤ y.length) (he : x.length ≤ k ∨ y.length ≤ k) : aheadI x y = decide ((x.length : Int) < y.length) := by
 rw [ahead_at h hx hy]
 by_cases hxk : x.length ≤ k
 ·have : x.drop k = [] := List.drop_eq_nil_of_le hxk;rw [this]
  by_cases hyk : y.length ≤ k
  ·have : y.drop k = [] := List.drop_eq_nil_of_le hyk;rw [this, aheadI, decide_eq_false (by omega)]
  rw [List.drop_eq_getElem_cons (by omega), aheadI, decide_eq_true (by omega)]
 have hyk : y.length ≤ k := by omega
 have h1 : y.drop k = [] := List.drop_eq_nil_of_le hyk;rw [h1, List.drop_eq_getElem_cons (by omega), aheadI, decide_eq_false (by omega)]
theorem eq_step {x y : List Int} {k : Nat} (h : ∀ i, i < k → x[i]? = y[i]?) (hx : k < x.length) (hy : k < y.length) (he : x[k] = y[k]) : ∀ i, i < k + 1 → x[i]? = y[i]? := by
 intro i hi;rcases Nat.lt_succ_iff_lt_or_eq.1 hi with h' | rfl
 ·exact h i h'
 rw [List.getElem?_eq_getElem hx, List.getElem?_eq_getElem hy, he]
set_option maxHeartbeats 2000000 in
theorem l7Ahead_spec (x y : List Int) (hx : x.length ≤ 1000000) (hy : y.length ≤ 1000000) : ASpec Tryz.prog 163 [.d (vI x), .d (vI y)] [] (Pure1 (aT (aheadI x y))) := by
 refine ASpec.of Tryz.func163 rfl rfl fun C hC => ?_
 refine AC.seq (AC.region ?_);refine za ?_;refine AL.nil (th_n (AC.seq (AC.seq (AC.region ?_))));refine za ?_;refine AL.nil (th_n (AC.block ?_));refine AC.loop (ι := Nat) (fun k => ⟨41, 8, [(0, .d (vI x)), (1, .d (vI y)), (5, aI k)], []⟩) (fun k => k ≤ x.length ∧ k ≤ y.length ∧ ∀ i, i < k → x[i]? = y[i]?) (fun k => x.length - k) (0) ?_ (⟨Nat.zero_le _, Nat.zero_le _, fun i hi => by omega⟩) ?_
 ·refine Weak.ren _ [] hC rfl ?_ ?_ rfl rfl rfl <;> repeat (first | exact True.intro | refine And.intro ?_ ?_ | exact DLead.same)
 intro k ⟨hk, hky, hall⟩;refine AC.seq (AC.seq (AC.region ?_));refine zm ?_;refine zm ?_;refine kH ?_;refine zc ?_;refine zm ?_;refine AL.caseG rfl rfl (fun h0 => ?_) (fun h0 => ?_)
 ·refine zy ?_;refine zm ?_;refine zy ?_;refine zm ?_;refine zy ?_;refine kH ?_;refine zy ?_;refine zc ?_;refine zQ ?_;refine AL.nil (th_n ?_);refine AC.condD rfl (fun h1 => ?_) (fun h1 => ?_)
  ·refine AC.skip (th_n (AC.seq (AC.block (AC.seq ?_))));have hkx1 : k < x.length := by omega
   have hky1 : k < y.length := by omega
   have hgx := ints_at hkx1;have hgy := ints_at hky1;refine AC.drawn' mixed_ok [[], [], [0,1], [0,1,2], [], [], [4,5], [4,5,6], [0,1,2,3,4,5,6,7]] (by decide) ?_;refine zd 0 [] 9 (by exact mv1 rfl) ?_;refine zd 1 [] 9 (by exact mv1 rfl) ?_;refine zd 2 [0,1] 9 (by exact g_ia_view rfl rfl rfl rfl rfl (by rfl) (by assumption)) ?_;refine zd 3 [0,1,2] 9 (by exact g_load_ref rfl rfl rfl) ?_;refine zd 4 [] 9 (by exact mv1 rfl) ?_;refine zd 5 [] 9 (by exact mv1 rfl) ?_;refine zd 6 [4,5] 9 (by exact g_ia_view rfl rfl rfl rfl rfl (by rfl) (by assumption)) ?_;refine zd 7 [4,5,6] 9 (by exact g_load_ref rfl rfl rfl) ?_;refine zd 8 [0,1,2,3,4,5,6,7] 9 (by exact g_cmp rfl rfl rfl) ?_;refine zj 9 ?_;refine th_n ?_;refine AC.condND rfl (fun h2 => ?_) (fun h2 => ?_)
   ·refine AC.seq ?_;refine AC.drawn' mixed_ok [[], [], [0,1], [0,1,2], [], [], [4,5], [4,5,6], [0,1,2,3,4,5,6,7], [0,1,2,3,4,5,6,7,8]] (by decide) ?_;refine zd 0 [] 10 (by exact mv1 rfl) ?_;refine zd 1 [] 10 (by exact mv1 rfl) ?_;refine zd 2 [0,1] 10 (by exact g_ia_view rfl rfl rfl rfl rfl (by rfl) (by assumption)) ?_;refine zd 3 [0,1,2] 10 (by exact g_load_ref rfl rfl rfl) ?_;refine zd 4 [] 10 (by exact mv1 rfl) ?_;refine zd 5 [] 10 (by exact mv1 rfl) ?_;refine zd 6 [4,5] 10 (by exact g_ia_view rfl rfl rfl rfl rfl (by rfl) (by assumption)) ?_;refine zd 7 [4,5,6] 10 (by exact g_load_ref rfl rfl rfl) ?_;refine zd 8 [0,1,2,3,4,5,6,7] 10 (by exact g_cmp rfl rfl rfl) ?_;refine zd 9 (List.range 9) 10 (by exact as1 rfl) ?_;refine zj 10 ?_;refine th_n (AC.ret (ib_r (th_r (th_r (ib_r (th_r (bq_r ?_)))))));exact ret1 rfl (by rw [ahead_ne hall hkx1 hky1 h2])
   refine AC.skip (ib_n (th_n (AC.region ?_)));refine zm ?_;refine zA ?_;refine za ?_;refine AL.nil (th_n ?_);exact ⟨k + 1, ⟨by omega, by omega, eq_step hall hkx1 hky1 h2⟩, by omega, Weak.ren _ [] hC rfl (by repeat (first | exact True.intro | refine And.intro ?_ ?_ | exact DLead.same)) (by repeat (exact True.intro)) rfl rfl rfl⟩
  refine AC.exit (th_e (th_e (ib_y (th_n (AC.seq (AC.region ?_))))));refine zm ?_;refine kH ?_;refine zm ?_;refine kH ?_;refine zc ?_;refine za ?_;refine AL.nil (th_n (AC.ret (bq_r ?_)));exact ret1 rfl (by rw [ahead_end hall hk hky (by omega)])
 refine zn ?_;refine zn ?_;refine zn ?_;refine zn ?_;refine zP ?_;refine AL.nil (th_n ?_);refine AC.condF rfl ?_;refine AC.exit (th_e (th_e (ib_y (th_n (AC.seq (AC.region ?_))))));refine zm ?_;refine kH ?_;refine zm ?_;refine kH ?_;refine zc ?_;refine za ?_;refine AL.nil (th_n (AC.ret (bq_r ?_)));exact ret1 rfl (by rw [ahead_end hall hk hky (by omega)])
theorem en_l7Ahead : Enters Tryz.prog 163 := enters_of Tryz.func163 rfl rfl
abbrev nE (h : Ev) : List DV := [dI h.t, nI h.pre]
abbrev nEs (l : List Ev) : List (List DV) := l.map nE
abbrev vNE (l : List Ev) : DV := .view 59 2 (nEs l)
theorem nEs_len (l : List Ev) : (nEs l).length = l.length := List.length_map _
theorem h_appendNE (acc new : List Ev) {s : ASt} {dst : Option Nat} {ty : Nat} {pos : String} {af : Array Edge} {gd : Option (Nat × Bool)} {x y : Operand} {f : Nat} {ids ids2 : List Nat} {gone : List (Nat × Option Chunk)}
  (hto : AppTo s x 59 2 (nEs acc) ids gone) (harg : AppArg s y 2 (nEs new) ids2) (h : (acc ++ new).length ≤ 100000000) (hnew : gone = [] → 0 < new.length) :
  NOp Tryz.prog (ids ++ ids2) s ⟨dst, .call { callee := .builtin .append, args := #[x, y], argTypes := #[27, 27] }, ty, pos, af, gd⟩ f ⟨.own f (acc ++ new).length, (f, some (.arr 59 2 (nEs (acc ++ new)))) :: gone⟩ := by
 have := h_append (P := Tryz.prog) (s := s) (dst := dst) (ty := ty) (pos := pos) (af := af) (gd := gd) (x := x) (y := y) (f := f) (t := 27) (tx := 27) (k := (acc ++ new).length) rfl rfl rfl rfl rfl rfl hto harg (by simp) (by omega) (by show (acc ++ new).length * 32 ≤ _; omega) (fun h => by rw [nEs_len]; exact hnew h)
 rwa [← List.map_append] at this
def lessE (h x : Ev) : Bool := decide (h.t < x.t) || (decide (h.t = x.t) && aheadI h.pre x.pre)
def posE (l : List Ev) (h : Ev) : Nat → Nat
 | 0 => 0
 | k + 1 => if lessE h (l.getD k ⟨0, []⟩) = true then posE l h k else k + 1
def putE (l : List Ev) (h : Ev) : List Ev := l.take (posE l h l.length) ++ [h] ++ l.drop (posE l h l.length)
theorem posE_le (l : List Ev) (h : Ev) : ∀ k, posE l h k ≤ k
 | 0 => Nat.le_refl _
 | k + 1 => by
  unfold posE
  split
  ·exact Nat.le_succ_of_le (posE_le l h k)
  exact Nat.le_refl _
theorem posE_go {l : List Ev} {h : Ev} {k : Nat} (h0 : 0 < k) (hq : lessE h (l.getD (k - 1) ⟨0, []⟩) = true) : posE l h k = posE l h (k - 1) := by
 obtain ⟨m, rfl⟩ : ∃ m, k = m + 1 := ⟨k - 1, by omega⟩;rw [posE, if_pos (by simpa using hq)]; rfl
theorem posE_no {l : List Ev} {h : Ev} {k : Nat} (hq : 0 < k → lessE h (l.getD (k - 1) ⟨0, []⟩) = false) : posE l h k = k := by
 cases k with
 | zero => rfl
 | succ m => rw [posE, if_neg (by have := hq (Nat.succ_pos _); rw [Nat.add_sub_cancel] at this; rw [this]; decide)]
theorem putE_len (l : List Ev) (h : Ev) : (putE l h).length = l.length + 1 := by
 unfold putE;have := posE_le l h l.length;simp only [List.length_append, List.length_take, List.length_drop, List.length_cons, List.length_nil];omega
theorem nEs_at {l : List Ev} {k : Nat} (h0 : 0 < k) (hk : k ≤ l.length) : (nEs l)[k - 1]? = some (nE (l.getD (k - 1) ⟨0, []⟩)) := by
 rw [List.getElem?_map, List.getD_eq_getElem?_getD, List.getElem?_eq_getElem (by omega)]; rfl
set_option maxHeartbeats 16000000 in
theorem l7Put_spec (l : List Ev) (h : Ev) (hl : l.length ≤ 90000000) (hp : h.pre.length ≤ 1000000) (hb : ∀ x, x ∈ l → x.pre.length ≤ 1000000) : ASpec Tryz.prog 143 [.d (vNE l), .agg [aI h.t, .d (nI h.pre)]] [] (Pure1 (.d (vNE (putE l h)))) := by
 have hPE : putE l h = l.take (posE l h l.length) ++ [h] ++ l.drop (posE l h l.length) := rfl;refine ASpec.of Tryz.func143 rfl rfl fun C hC => ?_
 refine AC.seq (AC.region ?_);refine kD ?_;refine za ?_;refine AL.nil (th_n (AC.seq (AC.region ?_)));refine zm ?_;refine kI l.length (nEs_len _) ?_;refine za ?_;refine AL.nil (th_n ?_);refine AC.cut (fun (k : Nat) => ⟨61, 600, [(0, .d (vNE l)), (3, .d (.ref (nE h))), (5, aI k)], []⟩) (fun k => k ≤ l.length ∧ posE l h l.length = k) ?_ ?_
 ·refine AC.block ?_;refine AC.loop (ι := Nat) (fun k => ⟨61, 200, [(0, .d (vNE l)), (3, .d (.ref (nE h))), (5, aI k)], []⟩) (fun k => k ≤ l.length ∧ posE l h l.length = posE l h k) (fun k => k) (l.length) ?_ (⟨Nat.le_refl _, rfl⟩) ?_
  ·exact Weak.ren _ [] hC rfl (by repeat (first | exact True.intro | refine And.intro ?_ ?_ | exact DLead.same)) (by repeat (exact True.intro)) rfl rfl rfl
  intro k ⟨hk, hpos⟩;refine AC.seq (AC.seq ?_);have hget := fun q => nEs_at (l := l) (k := k) q hk
  have hK : 0 < k → (k : Int) - 1 = ((k - 1 : Nat) : Int) := fun q => by omega
  have hgo := @posE_go l h k;have hno := @posE_no l h k;have hxb : 0 < k → (l.getD (k - 1) ⟨0, []⟩).pre.length ≤ 1000000 := fun q => by rw [List.getD_eq_getElem?_getD, List.getElem?_eq_getElem (by omega)]; exact hb _ (List.getElem_mem _)
  obtain ⟨x, hx⟩ := eqx (l.getD (k - 1) ⟨0, []⟩);rw [← hx] at hget hgo hno hxb;have hA := fun q => l7Ahead_spec h.pre x.pre hp (hxb q)
  have hq : lessE h x = (decide (h.t < x.t) || (decide (h.t = x.t) && aheadI h.pre x.pre)) := rfl;obtain ⟨b, hbb⟩ := eqx (aheadI h.pre x.pre);rw [← hbb] at hA hq;refine AC.drawn' mixed_ok [[], [0], [0,1], [0,1,2], [0,1,2,3], [0,1,2], [0,1,2], [0,1,2,6], [0,1,2,5,6,7], [0,1,2,5,6,7,8], [0,1,2,5,6,7,8,9], [0,1,2,3,4,5,6,7,8,9,10], [0,1,2,3,4,5,6,7,8,9,10,11], [0,1,2,3,4,5,6,7,8,9,10,11,12], [0,1,2,3,4,5,6,7,8,9,10,11,12,13], [0,1,2,3,4,5,6,7,8,9,10,11,12], [0,1,2,3,4,5,6,7,8,9,10,11,12], [0,1,2,3,4,5,6,7,8,9,10,11,12,16], [0,1,2,3,4,5,6,7,8,9,10,11,12,15,16,17], [0,1,2,3,4,5,6,7,8,9,10,11,12,15,16,17,18], [0,1,2,3,4,5,6,7,8,9,10,11,12,15,16,17,18,19], [0,1,2,3,4,5,6,7,8,9,10,11,12,13,14,15,16,17,18,19,20], [0,1,2,3,4,5,6,7,8,9,10,11,12,13,14,15,16,17,18,19,20,21], [0,1,2,3,4,5,6,7,8,9,10,11,12,13,14,15,16,17,18,19,20,21,22], [0,1,2,3,4,5,6,7,8,9,10,11,12,13,14,15,16,17,18,19,20,21,22,23], [0,1,2,3,4,5,6,7,8,9,10,11,12,13,14,15,16,17,18,19,20,21,22], [0,1,2,3,4,5,6,7,8,9,10,11,12,13,14,15,16,17,18,19,20,21,22], [0,1,2,3,4,5,6,7,8,9,10,11,12,13,14,15,16,17,18,19,20,21,22,26], [0,1,2,3,4,5,6,7,8,9,10,11,12,13,14,15,16,17,18,19,20,21,22,25,26,27], [0,1,2,3,4,5,6,7,8,9,10,11,12,13,14,15,16,17,18,19,20,21,22,25,26,27,28], [0,1,2,3,4,5,6,7,8,9,10,11,12,13,14,15,16,17,18,19,20,21,22,25,26,27,28,29], [0,1,2,3,4,5,6,7,8,9,10,11,12,13,14,15,16,17,18,19,20,21,22,23,24,25,26,27,28,29,30], [0,1,2,3,4,5,6,7,8,9,10,11,12,13,14,15,16,17,18,19,20,21,22,23,24,25,26,27,28,29,30,31], [0,1,2,3,4,5,6,7,8,9,10,11,12,13,14,15,16,17,18,19,20,21,22,23,24,25,26,27,28,29,30,31,32], [0,1,2,3,4,5,6,7,8,9,10,11,12,13,14,15,16,17,18,19,20,21,22,23,24,25,26,27,28,29,30,31,32,33]] (by decide) ?_;refine zd 0 [] 35 (by exact mv1 rfl) ?_;refine zd 1 [0] 35 (by exact g_cmp rfl rfl rfl) ?_;refine zd 2 [0,1] 35 (by exact mv1 rfl) ?_;refine DF.caseD 2 rfl (fun h0 => ?_) (fun h0 => ?_)
  ·refine ze 3 [0,1,2] 35 (by exact g_fa_ref rfl rfl rfl rfl rfl rfl) ?_;refine ze 4 [0,1,2,3] 35 (by exact g_load_ref rfl rfl rfl) ?_;refine ze 5 [0,1,2] 35 (by exact mv1 rfl) ?_;refine ze 6 [0,1,2] 35 (by exact mv1 rfl) ?_;refine ze 7 [0,1,2,6] 35 (by exact g_arith rfl rfl rfl (by exact wrap_i64 (by omega))) ?_;refine ze 8 [0,1,2,5,6,7] 35 (by exact g_ia_view (i := k - 1) rfl rfl rfl rfl rfl (hK (by omega)) (hget (by omega))) ?_;refine ze 9 [0,1,2,5,6,7,8] 35 (by exact g_fa_ref rfl rfl rfl rfl rfl rfl) ?_;refine ze 10 [0,1,2,5,6,7,8,9] 35 (by exact g_load_ref rfl rfl rfl) ?_;refine ze 11 (List.range 11) 35 (by exact g_cmp rfl rfl rfl) ?_;refine ze 12 (List.range 12) 35 (by exact mv1 rfl) ?_;refine DF.caseD 12 rfl (fun h1 => ?_) (fun h1 => ?_)
   ·refine zg 13 (List.range 13) 35 ?_;refine zg 14 (List.range 14) 35 ?_;refine zg 15 (List.range 13) 35 ?_;refine zg 16 (List.range 13) 35 ?_;refine zg 17 [0,1,2,3,4,5,6,7,8,9,10,11,12,16] 35 ?_;refine zg 18 [0,1,2,3,4,5,6,7,8,9,10,11,12,15,16,17] 35 ?_;refine zg 19 [0,1,2,3,4,5,6,7,8,9,10,11,12,15,16,17,18] 35 ?_;refine zg 20 [0,1,2,3,4,5,6,7,8,9,10,11,12,15,16,17,18,19] 35 ?_;refine zg 21 (List.range 21) 35 ?_;refine zg 22 (List.range 22) 35 ?_;refine DF.op (ids := []) 23 (List.range 23) 35 rfl rfl rfl (.noU rfl rfl rfl rfl) rfl ?_;refine DF.op (ids := []) 24 (List.range 24) 35 rfl rfl rfl (.noU rfl rfl rfl rfl) rfl ?_;refine DF.op (ids := []) 25 (List.range 23) 35 rfl rfl rfl (.noU rfl rfl rfl rfl) rfl ?_;refine DF.op (ids := []) 26 (List.range 23) 35 rfl rfl rfl (.noU rfl rfl rfl rfl) rfl ?_;refine DF.op (ids := []) 27 [0,1,2,3,4,5,6,7,8,9,10,11,12,13,14,15,16,17,18,19,20,21,22,26] 35 rfl rfl rfl (.noU rfl rfl rfl rfl) rfl ?_;refine DF.op (ids := []) 28 [0,1,2,3,4,5,6,7,8,9,10,11,12,13,14,15,16,17,18,19,20,21,22,25,26,27] 35 rfl rfl rfl (.noU rfl rfl rfl rfl) rfl ?_;refine DF.op (ids := []) 29 [0,1,2,3,4,5,6,7,8,9,10,11,12,13,14,15,16,17,18,19,20,21,22,25,26,27,28] 35 rfl rfl rfl (.noU rfl rfl rfl rfl) rfl ?_;refine DF.op (ids := []) 30 [0,1,2,3,4,5,6,7,8,9,10,11,12,13,14,15,16,17,18,19,20,21,22,25,26,27,28,29] 35 rfl rfl rfl (.noU rfl rfl rfl rfl) rfl ?_;refine DF.op (ids := []) 31 (List.range 31) 35 rfl rfl rfl (.noU rfl rfl rfl rfl) rfl ?_;refine zg 32 (List.range 32) 35 ?_;refine ze 33 (List.range 33) 35 (by exact g_pickT (r := .d _) rfl rfl) ?_;refine zd 34 (List.range 34) 35 (by exact g_pickT (r := .d _) rfl rfl) ?_;refine zj 35 ?_;refine th_n ?_;refine AC.condT rfl ?_;refine AC.skip (th_n (AC.block (AC.region ?_)));refine zm ?_;refine zA ?_;refine za ?_;refine AL.nil (ib_n (th_n ?_));have h0k : 0 < k := by omega
    have hle : lessE h x = true := by (have q1 : h.t < x.t := (by assumption); rw [hq, decide_eq_true q1]; rfl)
    exact ⟨k - 1, ⟨by omega, hpos.trans (hgo h0k hle)⟩, by omega, Weak.ren _ [] hC rfl (by repeat (first | exact True.intro | refine And.intro ?_ ?_ | exact DLead.same | exact DLead.eqI (by omega))) (by repeat (exact True.intro)) rfl rfl rfl⟩
   refine ze 13 (List.range 13) 35 (by exact g_fa_ref rfl rfl rfl rfl rfl rfl) ?_;refine ze 14 (List.range 14) 35 (by exact g_load_ref rfl rfl rfl) ?_;refine ze 15 (List.range 13) 35 (by exact mv1 rfl) ?_;refine ze 16 (List.range 13) 35 (by exact mv1 rfl) ?_;refine ze 17 [0,1,2,3,4,5,6,7,8,9,10,11,12,16] 35 (by exact g_arith rfl rfl rfl (by exact wrap_i64 (by omega))) ?_;refine ze 18 [0,1,2,3,4,5,6,7,8,9,10,11,12,15,16,17] 35 (by exact g_ia_view (i := k - 1) rfl rfl rfl rfl rfl (hK (by omega)) (hget (by omega))) ?_;refine ze 19 [0,1,2,3,4,5,6,7,8,9,10,11,12,15,16,17,18] 35 (by exact g_fa_ref rfl rfl rfl rfl rfl rfl) ?_;refine ze 20 [0,1,2,3,4,5,6,7,8,9,10,11,12,15,16,17,18,19] 35 (by exact g_load_ref rfl rfl rfl) ?_;refine ze 21 (List.range 21) 35 (by exact g_cmp rfl rfl rfl) ?_;refine ze 22 (List.range 22) 35 (by exact mv1 rfl) ?_;refine DF.caseD 22 rfl (fun h2 => ?_) (fun h2 => ?_)
   ·refine ze 23 (List.range 23) 35 (by exact g_fa_ref rfl rfl rfl rfl rfl rfl) ?_;refine ze 24 (List.range 24) 35 (by exact g_load_ref rfl rfl rfl) ?_;refine ze 25 (List.range 23) 35 (by exact mv1 rfl) ?_;refine ze 26 (List.range 23) 35 (by exact mv1 rfl) ?_;refine ze 27 [0,1,2,3,4,5,6,7,8,9,10,11,12,13,14,15,16,17,18,19,20,21,22,26] 35 (by exact g_arith rfl rfl rfl (by exact wrap_i64 (by omega))) ?_;refine ze 28 [0,1,2,3,4,5,6,7,8,9,10,11,12,13,14,15,16,17,18,19,20,21,22,25,26,27] 35 (by exact g_ia_view (i := k - 1) rfl rfl rfl rfl rfl (hK (by omega)) (hget (by omega))) ?_;refine ze 29 [0,1,2,3,4,5,6,7,8,9,10,11,12,13,14,15,16,17,18,19,20,21,22,25,26,27,28] 35 (by exact g_fa_ref rfl rfl rfl rfl rfl rfl) ?_;refine ze 30 [0,1,2,3,4,5,6,7,8,9,10,11,12,13,14,15,16,17,18,19,20,21,22,25,26,27,28,29] 35 (by exact g_load_ref rfl rfl rfl) ?_;refine zi 31 (List.range 31) 35 (by exact h_pure en_l7Ahead rfl rfl (by exact ⟨_, _, rfl, nI_lead _, ⟨_, _, rfl, nI_lead _, rfl⟩⟩) (hA (by omega)) rfl) ?_;refine ze 32 (List.range 32) 35 (by exact g_pickT (r := .d _) rfl rfl) ?_;refine ze 33 (List.range 33) 35 (by exact g_pickF (r := .d _) rfl rfl) ?_;refine zd 34 (List.range 34) 35 (by exact g_pickT (r := .d _) rfl rfl) ?_;refine zj 35 ?_;refine th_n ?_;refine AC.condB rfl (fun h3 => ?_) (fun h3 => ?_)
    ·refine AC.skip (th_n (AC.block (AC.region ?_)));refine zm ?_;refine zA ?_;refine za ?_;refine AL.nil (ib_n (th_n ?_));have h0k : 0 < k := by omega
     have hle : lessE h x = true := by (have q2 : h.t = x.t := (by assumption); have q3 : b = true := (by assumption); rw [hq, decide_eq_true q2, q3, Bool.true_and, Bool.or_true])
     exact ⟨k - 1, ⟨by omega, hpos.trans (hgo h0k hle)⟩, by omega, Weak.ren _ [] hC rfl (by repeat (first | exact True.intro | refine And.intro ?_ ?_ | exact DLead.same | exact DLead.eqI (by omega))) (by repeat (exact True.intro)) rfl rfl rfl⟩
    refine AC.exit (th_e (th_e (ib_y (th_n ?_))));have hle : 0 < k → lessE h x = false := fun q0 => by (have q1 : ¬ h.t < x.t := (by assumption); have q3 : b = false := (by assumption); rw [hq, decide_eq_false q1, q3, Bool.and_false]; rfl)
    exact ⟨k, ⟨hk, hpos.trans (hno hle)⟩, Weak.ren _ [] hC rfl (by repeat (first | exact True.intro | refine And.intro ?_ ?_ | exact DLead.same)) (by repeat (exact True.intro)) rfl rfl rfl⟩
   refine zg 23 (List.range 23) 35 ?_;refine zg 24 (List.range 24) 35 ?_;refine zg 25 (List.range 23) 35 ?_;refine zg 26 (List.range 23) 35 ?_;refine zg 27 [0,1,2,3,4,5,6,7,8,9,10,11,12,13,14,15,16,17,18,19,20,21,22,26] 35 ?_;refine zg 28 [0,1,2,3,4,5,6,7,8,9,10,11,12,13,14,15,16,17,18,19,20,21,22,25,26,27] 35 ?_;refine zg 29 [0,1,2,3,4,5,6,7,8,9,10,11,12,13,14,15,16,17,18,19,20,21,22,25,26,27,28] 35 ?_;refine zg 30 [0,1,2,3,4,5,6,7,8,9,10,11,12,13,14,15,16,17,18,19,20,21,22,25,26,27,28,29] 35 ?_;refine zg 31 (List.range 31) 35 ?_;refine ze 32 (List.range 32) 35 (by exact g_pickF (r := .d _) rfl rfl) ?_;refine ze 33 (List.range 33) 35 (by exact g_pickF (r := .d _) rfl rfl) ?_;refine zd 34 (List.range 34) 35 (by exact g_pickT (r := .d _) rfl rfl) ?_;refine zj 35 ?_;refine th_n ?_;refine AC.condF rfl ?_;refine AC.exit (th_e (th_e (ib_y (th_n ?_))));have hle : 0 < k → lessE h x = false := fun q0 => by (have q1 : ¬ h.t < x.t := (by assumption); have q2 : ¬ h.t = x.t := (by assumption); rw [hq, decide_eq_false q1, decide_eq_false q2]; rfl)
   exact ⟨k, ⟨hk, hpos.trans (hno hle)⟩, Weak.ren _ [] hC rfl (by repeat (first | exact True.intro | refine And.intro ?_ ?_ | exact DLead.same)) (by repeat (exact True.intro)) rfl rfl rfl⟩
  refine zg 3 [0,1,2] 35 ?_;refine zg 4 [0,1,2,3] 35 ?_;refine zg 5 [0,1,2] 35 ?_;refine zg 6 [0,1,2] 35 ?_;refine zg 7 [0,1,2,6] 35 ?_;refine zg 8 [0,1,2,5,6,7] 35 ?_;refine zg 9 [0,1,2,5,6,7,8] 35 ?_;refine zg 10 [0,1,2,5,6,7,8,9] 35 ?_;refine zg 11 (List.range 11) 35 ?_;refine zg 12 (List.range 12) 35 ?_;refine DF.op (ids := []) 13 (List.range 13) 35 rfl rfl rfl (.noU rfl rfl rfl rfl) rfl ?_;refine DF.op (ids := []) 14 (List.range 14) 35 rfl rfl rfl (.noU rfl rfl rfl rfl) rfl ?_;refine DF.op (ids := []) 15 (List.range 13) 35 rfl rfl rfl (.noU rfl rfl rfl rfl) rfl ?_;refine DF.op (ids := []) 16 (List.range 13) 35 rfl rfl rfl (.noU rfl rfl rfl rfl) rfl ?_;refine DF.op (ids := []) 17 [0,1,2,3,4,5,6,7,8,9,10,11,12,16] 35 rfl rfl rfl (.noU rfl rfl rfl rfl) rfl ?_;refine DF.op (ids := []) 18 [0,1,2,3,4,5,6,7,8,9,10,11,12,15,16,17] 35 rfl rfl rfl (.noU rfl rfl rfl rfl) rfl ?_;refine DF.op (ids := []) 19 [0,1,2,3,4,5,6,7,8,9,10,11,12,15,16,17,18] 35 rfl rfl rfl (.noU rfl rfl rfl rfl) rfl ?_;refine DF.op (ids := []) 20 [0,1,2,3,4,5,6,7,8,9,10,11,12,15,16,17,18,19] 35 rfl rfl rfl (.noU rfl rfl rfl rfl) rfl ?_;refine DF.op (ids := []) 21 (List.range 21) 35 rfl rfl rfl (.noU rfl rfl rfl rfl) rfl ?_;refine DF.op (ids := []) 22 (List.range 22) 35 rfl rfl rfl (.noU rfl rfl rfl rfl) rfl ?_;refine DF.op (ids := []) 23 (List.range 23) 35 rfl rfl rfl (.noU rfl rfl rfl rfl) rfl ?_;refine DF.op (ids := []) 24 (List.range 24) 35 rfl rfl rfl (.noU rfl rfl rfl rfl) rfl ?_;refine DF.op (ids := []) 25 (List.range 23) 35 rfl rfl rfl (.noU rfl rfl rfl rfl) rfl ?_;refine DF.op (ids := []) 26 (List.range 23) 35 rfl rfl rfl (.noU rfl rfl rfl rfl) rfl ?_;refine DF.op (ids := []) 27 [0,1,2,3,4,5,6,7,8,9,10,11,12,13,14,15,16,17,18,19,20,21,22,26] 35 rfl rfl rfl (.noU rfl rfl rfl rfl) rfl ?_;refine DF.op (ids := []) 28 [0,1,2,3,4,5,6,7,8,9,10,11,12,13,14,15,16,17,18,19,20,21,22,25,26,27] 35 rfl rfl rfl (.noU rfl rfl rfl rfl) rfl ?_;refine DF.op (ids := []) 29 [0,1,2,3,4,5,6,7,8,9,10,11,12,13,14,15,16,17,18,19,20,21,22,25,26,27,28] 35 rfl rfl rfl (.noU rfl rfl rfl rfl) rfl ?_;refine DF.op (ids := []) 30 [0,1,2,3,4,5,6,7,8,9,10,11,12,13,14,15,16,17,18,19,20,21,22,25,26,27,28,29] 35 rfl rfl rfl (.noU rfl rfl rfl rfl) rfl ?_;refine DF.op (ids := []) 31 (List.range 31) 35 rfl rfl rfl (.noU rfl rfl rfl rfl) rfl ?_;refine DF.op (ids := []) 32 (List.range 32) 35 rfl rfl rfl (.noU rfl rfl rfl rfl) rfl ?_;refine zg 33 (List.range 33) 35 ?_;refine zd 34 (List.range 34) 35 (by exact g_pickF (r := .d _) rfl rfl) ?_;refine zj 35 ?_;refine th_n ?_;refine AC.condF rfl ?_;refine AC.exit (th_e (th_e (ib_y (th_n ?_))));have hle : 0 < k → lessE h x = false := fun q0 => by (exact absurd q0 (by omega))
  exact ⟨k, ⟨hk, hpos.trans (hno hle)⟩, Weak.ren _ [] hC rfl (by repeat (first | exact True.intro | refine And.intro ?_ ?_ | exact DLead.same)) (by repeat (exact True.intro)) rfl rfl rfl⟩
 intro k ⟨hk, hpos⟩;refine AC.seq ?_;rw [hpos] at hPE;have h1 : (l.take k).length = k := by rw [List.length_take]; omega
 have h2 : (l.drop k).length = l.length - k := by rw [List.length_drop]
 refine AC.region ?_;refine AL.q (by exact h_lit rfl rfl rfl rfl rfl rfl rfl rfl) rfl ?_;refine zm ?_;refine zm ?_;refine AL.p (by exact g_slice_view (r := nEs (l.drop k)) (l := k) (h := (nEs l).length) rfl rfl rfl rfl (.some rfl rfl) .none (by rw [nEs_len]; exact hk) (Nat.le_refl _) (by rw [List.take_length]; exact (List.map_drop ..).symm)) rfl ?_;refine AL.q (by exact h_appendNE [] (l.drop k) (.own rfl rfl rfl) (.view rfl) (by rw [List.nil_append]; omega) (by simp)) rfl ?_;refine AL.p (by exact as2 rfl) rfl ?_;refine AL.nil (th_n (AC.seq ?_));refine AC.weak (Weak.freeze (els := nEs (l.drop k)) (i := 6) rfl rfl (Nat.le_of_eq (nEs_len _).symm) (List.take_of_length_le (Nat.le_of_eq (nEs_len _)))) ?_;refine AC.drawn' mixed_ok [[], [], [], [1,2], [0,1,2,3], [], [5], [0,1,2,3,4,5,6], [], [0,1,2,3,4,5,6,7,8], [0,1,2,3,4,5,6,7,8,9]] (by decide) ?_;refine zh 0 [] 11 (by exact h_lit rfl rfl rfl rfl rfl rfl rfl rfl) ?_;refine zd 1 [] 11 (by exact mv1 rfl) ?_;refine zd 2 [] 11 (by exact mv1 rfl) ?_;refine zd 3 [1,2] 11 (by exact g_slice_view (r := nEs (l.take k)) (l := 0) (h := k) rfl rfl rfl rfl .none (.some rfl rfl) (Nat.zero_le _) (by rw [nEs_len]; exact hk) (by rw [List.drop_zero]; exact (List.map_take ..).symm)) ?_;refine zh 4 [0,1,2,3] 11 (by exact h_appendNE [] (l.take k) (.own rfl rfl rfl) (.view rfl) (by rw [List.nil_append]; omega) (by simp)) ?_;refine zd 5 [] 11 (by exact g_load_refN rfl rfl rfl rfl) ?_;refine zh 6 [5] 11 (by exact h_litF rfl rfl rfl rfl rfl rfl rfl rfl) ?_;refine zh 7 [0,1,2,3,4,5,6] 11 (by exact h_appendNE ([] ++ l.take k) [h] (.own rfl rfl (nEs_len _).symm) (.view rfl) (by rw [List.nil_append, List.length_append, h1]; simp only [List.length_cons, List.length_nil]; omega) (by simp)) ?_;refine zd 8 [] 11 (by exact mv1 rfl) ?_;refine zh 9 (List.range 9) 11 (by exact h_appendNE ([] ++ l.take k ++ [h]) (l.drop k) (.own rfl rfl (nEs_len _).symm) (.view rfl) (by rw [List.nil_append, List.length_append, List.length_append, h1, h2]; simp only [List.length_cons, List.length_nil]; omega) (by simp)) ?_;refine zd 10 (List.range 10) 11 (by exact as2 rfl) ?_;refine zj 11 ?_;refine th_n ?_;refine AC.weak (Weak.freeze (els := nEs ([] ++ l.take k ++ [h] ++ l.drop k)) (i := 4) rfl rfl (Nat.le_of_eq (nEs_len _).symm) (List.take_of_length_le (Nat.le_of_eq (nEs_len _)))) ?_;refine AC.ret (bq_r ?_);exact ret1 rfl (by rw [hPE]; rfl)
theorem en_l7Put : Enters Tryz.prog 143 := enters_of Tryz.func143 rfl rfl
def exS (N : Net) (u : Unf) (t : Int) (acc : List Ev) (l : List Int) : List Ev := if fitsI N u ⟨t, l⟩ = true then putE acc ⟨t, l⟩ else acc
def exO (N : Net) (u : Unf) (t : Int) (acc : List Ev) (L : List (List Int)) : List Ev := L.foldl (exS N u t) acc
def exK (N : Net) (u : Unf) : Nat → List Ev
 | 0 => []
 | k + 1 => exO N u (k : Int) (exK N u k) (chF u (tAt N (k : Int)).pre)
def exI (N : Net) (u : Unf) : List Ev := exK N u N.ts.length
theorem exO_succ {N : Net} {u : Unf} {t : Int} {acc : List Ev} {L : List (List Int)} {j : Nat} (h : j < L.length) : exO N u t acc (L.take (j + 1)) = exS N u t (exO N u t acc (L.take j)) L[j] := by
 unfold exO;rw [List.take_add_one, List.getElem?_eq_getElem h, List.foldl_append]; rfl
theorem putE_mem {l : List Ev} {h x : Ev} (hx : x ∈ putE l h) : x ∈ l ∨ x = h := by
 unfold putE at hx;rcases List.mem_append.1 hx with q | q
 ·rcases List.mem_append.1 q with q | q
  ·exact .inl (List.mem_of_mem_take q)
  exact .inr (List.mem_singleton.1 q)
 exact .inl (List.mem_of_mem_drop q)
theorem exO_len (N : Net) (u : Unf) (t : Int) (acc : List Ev) (L : List (List Int)) : ∀ j, j ≤ L.length → (exO N u t acc (L.take j)).length ≤ acc.length + j
 | 0, _ => Nat.le_refl _
 | j + 1, h => by
  have ih := exO_len N u t acc L j (Nat.le_of_succ_le h);rw [exO_succ h];unfold exS
  split
  ·rw [putE_len]; omega
  omega
theorem exO_mem {N : Net} {u : Unf} {t : Int} {acc : List Ev} : ∀ (L : List (List Int)) {x : Ev}, x ∈ exO N u t acc L → x ∈ acc ∨ (fitsI N u x = true ∧ x.t = t ∧ x.pre ∈ L) := by
 intro L
 induction L generalizing acc with
 | nil => intro x hx; exact .inl hx
 | cons l L ih =>
  intro x hx;rcases ih (show x ∈ exO N u t (exS N u t acc l) L from hx) with q | ⟨q1, q2, q3⟩
  ·unfold exS at q
   split at q
   ·rename_i hf;rcases putE_mem q with w | rfl
    ·exact .inl w
    exact .inr ⟨hf, rfl, List.mem_cons_self ..⟩
   exact .inl q
  exact .inr ⟨q1, q2, List.mem_cons_of_mem _ q3⟩
theorem exK_fit {N : Net} {u : Unf} : ∀ (k : Nat) {x : Ev}, x ∈ exK N u k → fitsI N u x = true
 | 0, x, h => absurd h List.not_mem_nil
 | k + 1, x, h => by
  rcases exO_mem _ h with q | q
  ·exact exK_fit k q
  exact q.1
theorem chF_all (u : Unf) (ps : List Int) : ChOk u ps.length (chF u ps) := by have := chF_ok u ps ps.length (Nat.le_refl _); rwa [List.take_length] at this
theorem chF_len3 {u : Unf} {ps : List Int} (hc : u.cs.length ≤ 100) (hp : ps.length ≤ 3) : (chF u ps).length ≤ 1000000 := by
 have := chF_len u ps ps.length (Nat.le_refl _);rw [List.take_length] at this;exact Nat.le_trans this (Nat.le_trans (Nat.pow_le_pow_left hc _) (Nat.le_trans (Nat.pow_le_pow_right (by decide) hp) (by decide)))
theorem exK_len {N : Net} {u : Unf} (hc : u.cs.length ≤ 100) (hp : ∀ t, t ∈ N.ts → t.pre.length ≤ 3) : ∀ k, k ≤ N.ts.length → (exK N u k).length ≤ k * 1000000
 | 0, _ => Nat.zero_le _
 | k + 1, h => by
  have ih := exK_len hc hp k (Nat.le_of_succ_le h);have hps : (tAt N (k : Int)).pre.length ≤ 3 := by rw [tAt_nat h]; exact hp _ (List.getElem_mem h)
  have h2 := chF_len3 hc hps;have h3 := exO_len N u (k : Int) (exK N u k) (chF u (tAt N (k : Int)).pre) _ (Nat.le_refl _);rw [List.take_length] at h3;show (exO N u (k : Int) (exK N u k) (chF u (tAt N (k : Int)).pre)).length ≤ _;rw [Nat.succ_mul];omega
def vNo : List Ev → DV
 | [] => .val (.slice none 0 0)
 | x :: l => vNE (x :: l)
theorem vNo_lead : ∀ l : List Ev, DLead (vNE l) (.d (vNo l))
 | [] => .nil
 | _ :: _ => .same
theorem vNo_ne : ∀ {l : List Ev}, l ≠ [] → vNo l = vNE l
 | [], h => absurd rfl h
 | _ :: _, _ => rfl
theorem putE_ne (l : List Ev) (h : Ev) : putE l h ≠ [] := fun e => by have := putE_len l h; rw [e] at this; simp at this
set_option maxHeartbeats 16000000 in
theorem l7Extend_spec (N : Net) (u : Unf) (hB : NetB N) (hN : N.ts.length ≤ 24) (hp : ∀ t, t ∈ N.ts → t.pre.length ≤ 3) (hw : WF u) (hc : u.cs.length ≤ 100) : ASpec Tryz.prog 99 [netA N, unfA u] [] (Pure1 (.d (vNo (exI N u)))) := by
 refine ASpec.of Tryz.func99 rfl rfl fun C hC => ?_
 refine AC.seq (AC.region ?_);refine kD ?_;refine kD ?_;refine za ?_;refine AL.nil (th_n (AC.seq (AC.region ?_)));refine za ?_;refine AL.nil (th_n (AC.seq (AC.seq (AC.region ?_))));refine zf ?_;refine zr ?_;refine kI N.ts.length (List.length_map _) ?_;refine zm ?_;refine AL.nil (th_n (AC.block ?_));refine AC.loop (ι := Nat) (fun k => ⟨42, 300, [(2, .d (.ref (netD N))), (3, .d (.ref (unfD u))), (5, .d (vNo (exK N u k))), (12, aI N.ts.length), (13, aI k)], []⟩) (fun k => k ≤ N.ts.length) (fun k => N.ts.length - k) (0) ?_ (Nat.zero_le _) ?_
 ·exact Weak.ren _ [] hC rfl (by repeat (first | exact True.intro | refine And.intro ?_ ?_ | exact DLead.same)) (by repeat (exact True.intro)) rfl rfl rfl
 intro k hk;refine AC.seq (AC.region ?_);refine zc ?_;refine AL.nil (th_n (AC.seq ?_));refine AC.condD rfl (fun h0 => ?_) (fun h0 => ?_)
 ·refine AC.skip (th_n (AC.seq (AC.block (AC.seq ?_))));have hk1 : k < N.ts.length := by omega
  have hgt := tsL_get hk1;have hta : tAt N (k : Int) = N.ts[k] := tAt_nat hk1;have hps := hp _ (List.getElem_mem hk1);have hel := exK_len hc hp k hk;have hes : exK N u (k + 1) = exO N u (k : Int) (exK N u k) (chF u N.ts[k].pre) := by rw [← hta]; rfl
  have hCh := l7Choices_spec u N.ts[k].pre hw (by omega) hps;have hol := chF_len3 hc hps;have hok := chF_all u N.ts[k].pre;have hef := fun (x : Ev) (hx : x ∈ exK N u k) => exK_fit k hx
  obtain ⟨L, hL⟩ := eqx (chF u N.ts[k].pre);rw [← hL] at hCh hes hol hok;obtain ⟨acc, hacc⟩ := eqx (exK N u k);rw [← hacc] at hes hel hef ⊢;refine AC.region ?_;refine zm ?_;refine za ?_;refine AL.nil (th_n (AC.seq ?_));refine AC.drawn' mixed_ok [[], [], [1], [], [1,2,3], [1,2,3,4], [1,2,3,4,5], [0,1,2,3,4,5,6], [0,1,2,3,4,5,6,7], []] (by decide) ?_;refine zd 0 [] 10 (by exact g_load_refN rfl rfl rfl rfl) ?_;refine zd 1 [] 10 (by exact g_fa_ref rfl rfl rfl rfl rfl rfl) ?_;refine zd 2 [1] 10 (by exact g_load_ref rfl rfl rfl) ?_;refine zd 3 [] 10 (by exact mv1 rfl) ?_;refine zd 4 [1,2,3] 10 (by exact g_ia_view (i := k) rfl rfl rfl rfl rfl rfl hgt) ?_;refine zd 5 [1,2,3,4] 10 (by exact g_fa_ref rfl rfl rfl rfl rfl rfl) ?_;refine zd 6 [1,2,3,4,5] 10 (by exact g_load_ref rfl rfl rfl) ?_;refine zh 7 [0,1,2,3,4,5,6] 10 (by exact h_pure en_l7Choices rfl rfl (by repeat (first | exact rfl | exact DLead.same | refine ⟨_, _, rfl, ?_, ?_⟩ | refine ⟨_, rfl, ?_⟩)) hCh rfl) ?_;refine zd 8 [0,1,2,3,4,5,6,7] 10 (by exact g_len_view (k := L.length) rfl rfl (nIs_len _)) ?_;refine zd 9 [] 10 (by exact mv1 rfl) ?_;refine zj 10 ?_;refine th_n (AC.block ?_);refine AC.loop (ι := Nat) (fun j => ⟨42, 700, [(2, .d (.ref (netD N))), (3, .d (.ref (unfD u))), (5, .d (vNo (exO N u (k : Int) acc (L.take j)))), (6, aI k), (12, aI N.ts.length), (13, aI k), (23, .d (vNs L)), (24, aI L.length), (25, aI j)], []⟩) (fun j => j ≤ L.length) (fun j => L.length - j) (0) ?_ (Nat.zero_le _) ?_
  ·exact Weak.ren _ [] hC rfl (by repeat (first | exact True.intro | refine And.intro ?_ ?_ | exact DLead.same)) (by repeat (exact True.intro)) rfl rfl rfl
  intro j hj;refine AC.seq (AC.region ?_);refine zc ?_;refine AL.nil (th_n (AC.seq ?_));refine AC.condD rfl (fun h1 => ?_) (fun h1 => ?_)
  ·refine AC.skip (th_n (AC.seq (AC.block (AC.seq ?_))));have hj1 : j < L.length := by omega
   have hgl := nIs_get hj1;have hlj := hok _ (List.getElem_mem hj1);have hsn := exO_succ (N := N) (u := u) (t := (k : Int)) (acc := acc) hj1;have hln := exO_len N u (k : Int) acc L j hj;have hmm := fun x hx => @exO_mem N u (k : Int) acc (L.take j) x hx
   obtain ⟨l, hl⟩ := eqx (L[j]);rw [← hl] at hgl hlj hsn;obtain ⟨B, hBB⟩ := eqx (exO N u (k : Int) acc (L.take j));rw [← hBB] at hsn hln hmm ⊢;have hF := l7Fits_spec N u ⟨(k : Int), l⟩ hB hw (by dsimp only; omega);have hBp : ∀ x, x ∈ B → x.pre.length ≤ 1000000 := fun x hx => by rcases hmm x hx with q | q; (have h1 := rising_len (fits_rising (hef x q)); omega); (have h1 := (hok _ (List.mem_of_mem_take q.2.2)).2.1; omega)
   have hP := l7Put_spec B ⟨(k : Int), l⟩ (by omega) (by dsimp only; omega) hBp;have hex : exS N u (k : Int) B l = if fitsI N u ⟨(k : Int), l⟩ = true then putE B ⟨(k : Int), l⟩ else B := rfl
   obtain ⟨b, hb⟩ := eqx (fitsI N u ⟨(k : Int), l⟩);rw [← hb] at hF hex;refine AC.region ?_;refine AL.p (by exact g_ia_view rfl rfl rfl rfl rfl (by rfl) (by assumption)) rfl ?_;refine zr ?_;refine za ?_;refine AL.nil (th_n (AC.seq (AC.region ?_)));refine zm ?_;refine zm ?_;refine AL.p (by exact g_build rfl rfl rfl) rfl ?_;refine kE ?_;refine zs ?_;refine AL.nil (th_n (AC.seq (AC.region ?_)));refine kG ?_;refine kG ?_;refine AL.p (by exact g_load_ptrN rfl rfl rfl rfl rfl) rfl ?_;refine AL.q (by exact h_pure en_l7Fits rfl rfl (by repeat (first | exact rfl | exact DLead.same | exact nI_lead _ | refine ⟨_, _, rfl, ?_, ?_⟩ | refine ⟨_, rfl, ?_⟩)) hF rfl) rfl ?_;refine AL.nil (th_n ?_);refine AC.condB rfl (fun h2 => ?_) (fun h2 => ?_)
   ·refine AC.region ?_;refine zm ?_;refine AL.p (by exact g_load_ptrN rfl rfl rfl rfl rfl) rfl ?_;refine AL.q (by exact h_pure en_l7Put rfl rfl (by repeat (first | exact rfl | exact vNo_lead _ | exact DLead.same | refine ⟨_, _, rfl, ?_, ?_⟩ | refine ⟨_, rfl, ?_⟩)) hP rfl) rfl ?_;refine za ?_;refine AL.nil (ib_n (th_n (AC.region ?_)));refine zA ?_;refine zm ?_;refine AL.nil (th_n ?_)
    (have q := ‹b = true›; rw [if_pos q] at hex; rw [hex] at hsn; exact ⟨j + 1, by omega, by omega, Weak.ren _ [] hC rfl (by rw [hsn, vNo_ne (putE_ne _ _)]; repeat (first | exact True.intro | refine And.intro ?_ ?_ | exact DLead.same)) (by repeat (exact True.intro)) rfl rfl rfl⟩)
   refine AC.skip (ib_n (th_n (AC.region ?_)));refine zA ?_;refine zm ?_;refine AL.nil (th_n ?_)
   (have q := ‹b = false›; rw [if_neg (by rw [q]; decide)] at hex; rw [hex] at hsn; exact ⟨j + 1, by omega, by omega, Weak.ren _ [] hC rfl (by rw [hsn]; repeat (first | exact True.intro | refine And.intro ?_ ?_ | exact DLead.same)) (by repeat (exact True.intro)) rfl rfl rfl⟩)
  refine AC.exit (th_e (th_e (ib_y (ib_n (th_n (AC.region ?_))))));refine zA ?_;refine zm ?_;refine AL.nil (th_n ?_);have hjj : j = L.length := by omega
  rw [hjj, List.take_length, ← hes];exact ⟨k + 1, by omega, by omega, Weak.ren _ [] hC rfl (by repeat (first | exact True.intro | refine And.intro ?_ ?_ | exact DLead.same)) (by repeat (exact True.intro)) rfl rfl rfl⟩
 refine AC.exit (th_e (th_e (ib_y (th_n (AC.seq ?_)))));have hkk : k = N.ts.length := by omega
 rw [hkk];refine AC.region ?_;refine zm ?_;refine za ?_;refine AL.nil (th_n (AC.ret (bq_r ?_)));exact ret1 rfl rfl
theorem en_l7Extend : Enters Tryz.prog 99 := enters_of Tryz.func99 rfl rfl
set_option maxHeartbeats 4000000 in
theorem l7WithO_spec (N : Net) (u : Unf) (h : Ev) (hB : NetB N) (hw : WF u) (hh : h.pre.length ≤ 1000000) (hr : inR N h.t = true) : ASpec Tryz.prog 66 [netA N, unfA u, evA h] [] (Fun1 (.agg [.own 0 (withI N u h).cs.length, .own 1 (withI N u h).es.length]) [(0, .arr 143 2 (condsL (withI N u h).cs)), (1, .arr 59 2 (evsL (withI N u h).es))]) := by
 have hel := hw.e;have hcl := hw.c;obtain ⟨i, hi, hin⟩ := inR_nat hr;have hgetT := tsL_get hin;have hpl := (hB.t _ (List.getElem_mem hin)).2;have hwi : withI N u h = ⟨withC u N.ts[i].post, u.es ++ [h]⟩ := by unfold withI; rw [hi, tAt_nat hin]
 obtain ⟨ht, hp⟩ := h;obtain rfl : ht = (i : Int) := hi;rw [hwi];refine ASpec.of Tryz.func66 rfl rfl fun C hC => ?_
 refine AC.seq (AC.region ?_);refine kD ?_;refine kD ?_;refine kD ?_;refine kE ?_;refine AL.nil (th_n (AC.seq (AC.region ?_)));refine AL.q (by exact h_lit rfl rfl rfl rfl rfl rfl rfl rfl) rfl ?_;refine zf ?_;refine zr ?_;refine AL.q (by exact h_appendC [] u.cs (.own rfl rfl rfl) (.view rfl) (by simp; omega) (by simp)) rfl ?_;refine AL.p (by exact g_build rfl rfl rfl) rfl ?_;refine kE ?_;refine zs ?_;refine AL.nil (th_n (AC.seq (AC.seq (AC.region ?_))));refine zf ?_;refine zr ?_;refine kH ?_;refine zm ?_;refine AL.nil (th_n (AC.block ?_));refine AC.loop (ι := Nat) (fun k => ⟨63, 136, [(3, .d (.ref (netD N))), (4, .d (.ref (unfD u))), (5, .d (.ref (evD ⟨(i : Int), hp⟩))), (6, .ptr 103 0), (7, .ptr 100 0), (18, .d (vEs u.es)), (19, aI u.es.length), (20, aI k)], [(100, some (.cells 29 [.own 101 u.cs.length, .own 102 k])), (101, some (.arr 143 2 (condsL u.cs))), (102, some (.arr 59 2 (evsL (u.es.take k)))), (103, some (.cells 29 [.d (.val (.slice none 0 0)), .d (.val (.slice none 0 0))]))]⟩) (fun k => k ≤ u.es.length) (fun k => u.es.length - k) (0) ?_ (Nat.zero_le _) ?_
 ·exact (Weak.nilOwnP 7 1 (e := 59) (sz := 2) rfl rfl rfl rfl rfl).trans (zw [(100, _), (101, _), (102, _), (103, _)] hC)
 intro k hk;refine AC.seq (AC.region ?_);refine zc ?_;refine AL.nil (th_n (AC.seq ?_));refine AC.condD rfl (fun h0 => ?_) (fun h0 => ?_)
 ·refine AC.skip (th_n (AC.seq (AC.block (AC.seq ?_))));have hk1 : k < u.es.length := by omega
  have hget := evsL_get hk1;have hl1 := hw.l _ (List.getElem_mem hk1);have htl : (u.es.take k).length = k := by rw [List.length_take]; omega
  have htk : u.es.take (k + 1) = u.es.take k ++ [u.es[k]] := by rw [List.take_add_one, List.getElem?_eq_getElem hk1]; rfl
  refine AC.region ?_;refine AL.p (by exact g_ia_view rfl rfl rfl rfl rfl (by rfl) (by assumption)) rfl ?_;refine kG ?_;refine kE ?_;refine zs ?_;refine AL.nil (th_n ?_);refine AC.drawn' mixed_ok [[], [0], [], [2], [2,3], [0,1,2,3,4], [0,1,2,3,4,5], [0,1,2,3,4,5,6]] (by decide) ?_;refine zd 0 [] 8 (by exact g_fa_ptr rfl rfl rfl rfl rfl) ?_;refine zd 1 [0] 8 (by exact g_load_ptr rfl rfl rfl rfl rfl) ?_;refine zd 2 [] 8 (by exact g_load_ptrN rfl rfl rfl rfl rfl) ?_;refine zh 3 [2] 8 (by exact h_pure en_l7OwnH rfl rfl (by repeat (first | exact rfl | exact DLead.same | refine ⟨_, _, rfl, ?_, ?_⟩ | refine ⟨_, rfl, ?_⟩)) (l7OwnH_spec _ (by assumption)) rfl) ?_;refine zh 4 [2,3] 8 (by exact h_litF rfl rfl rfl rfl rfl rfl rfl rfl) ?_;refine zh 5 [0,1,2,3,4] 8 (by exact h_appendE (u.es.take k) [u.es[k]] (.own rfl rfl (by rw [evsL_len, htl])) (.view rfl) (by simp; omega) (by simp)) ?_;refine zd 6 [0,1,2,3,4,5] 8 (by exact g_fa_ptr rfl rfl rfl rfl rfl) ?_;refine zh 7 [0,1,2,3,4,5,6] 8 (by exact h_store rfl rfl rfl rfl rfl rfl) ?_;refine zj 8 ?_;refine ib_n (th_n (AC.region ?_));refine zA ?_;refine zm ?_;refine AL.nil (th_n ?_);have hl3 : (u.es.take k ++ [u.es[k]]).length = k + 1 := by rw [List.length_append, htl]; rfl
  exact ⟨k + 1, by omega, by omega, zw [(100, _), (101, _), (102, _), (103, _)] hC (b := by rw [htk, ← hl3]; repeat (first | exact True.intro | refine And.intro ?_ ?_ | exact DLead.same | exact rfl | refine ⟨_, _, rfl, rfl, ?_⟩ | refine ⟨_, rfl, ?_⟩ | refine ⟨_, _, rfl, ?_, ?_⟩))⟩
 refine AC.exit (th_e (th_e (ib_y (th_n (AC.seq ?_)))));have hkk : k = u.es.length := by omega
 subst hkk;rw [List.take_length];refine AC.drawn' mixed_ok [[], [0], [], [2], [2,3], [0,1,2,3,4], [0,1,2,3,4,5], [0,1,2,3,4,5,6]] (by decide) ?_;refine zd 0 [] 8 (by exact g_fa_ptr rfl rfl rfl rfl rfl) ?_;refine zd 1 [0] 8 (by exact g_load_ptr rfl rfl rfl rfl rfl) ?_;refine zd 2 [] 8 (by exact g_load_refN rfl rfl rfl rfl) ?_;refine zh 3 [2] 8 (by exact h_pure en_l7OwnH rfl rfl (by repeat (first | exact rfl | exact DLead.same | refine ⟨_, _, rfl, ?_, ?_⟩ | refine ⟨_, rfl, ?_⟩)) (l7OwnH_spec _ (by assumption)) rfl) ?_;refine zh 4 [2,3] 8 (by exact h_litF rfl rfl rfl rfl rfl rfl rfl rfl) ?_;refine zh 5 [0,1,2,3,4] 8 (by exact h_appendE u.es [⟨(i : Int), hp⟩] (.own rfl rfl (evsL_len _).symm) (.view rfl) (by simp; omega) (by simp)) ?_;refine zd 6 [0,1,2,3,4,5] 8 (by exact g_fa_ptr rfl rfl rfl rfl rfl) ?_;refine zh 7 [0,1,2,3,4,5,6] 8 (by exact h_store rfl rfl rfl rfl rfl rfl) ?_;refine zj 8 ?_;refine th_n (AC.seq (AC.seq (AC.region ?_)));refine zf ?_;refine zr ?_;refine zf ?_;refine zr ?_;refine AL.p (by exact g_ia_view rfl rfl rfl rfl rfl (by rfl) (by assumption)) rfl ?_;refine zf ?_;refine zr ?_;refine kH ?_;refine zm ?_;refine AL.nil (th_n (AC.block ?_));refine AC.loop (ι := Nat) (fun k => ⟨63, 136, [(4, .d (.ref (unfD u))), (6, .ptr 103 0), (7, .ptr 100 0), (45, .d (vI N.ts[i].post)), (46, aI N.ts[i].post.length), (47, aI k)], [(100, some (.cells 29 [.own 101 (u.cs.length + k), .own 102 (u.es ++ [(⟨(i : Int), hp⟩ : Ev)]).length])), (101, some (.arr 143 2 (condsL (withC u (N.ts[i].post.take k))))), (102, some (.arr 59 2 (evsL (u.es ++ [(⟨(i : Int), hp⟩ : Ev)])))), (103, some (.cells 29 [.d (.val (.slice none 0 0)), .d (.val (.slice none 0 0))]))]⟩) (fun k => k ≤ N.ts[i].post.length) (fun k => N.ts[i].post.length - k) (0) ?_ (Nat.zero_le _) ?_
 ·exact Weak.ren _ [(100, _), (101, _), (102, _), (103, _)] hC rfl (by repeat (first | exact True.intro | refine And.intro ?_ ?_ | exact DLead.same | exact rfl | refine ⟨_, rfl, ?_⟩)) (by rw [show withC u (N.ts[i].post.take 0) = u.cs from List.append_nil _]; repeat (first | exact True.intro | refine And.intro ?_ ?_ | exact DLead.same | exact rfl | refine ⟨_, _, rfl, rfl, ?_⟩ | refine ⟨_, rfl, ?_⟩ | refine ⟨_, _, rfl, ?_, ?_⟩)) rfl rfl rfl
 intro k hk;refine AC.seq (AC.region ?_);refine zc ?_;refine AL.nil (th_n (AC.seq ?_));refine AC.condD rfl (fun h1 => ?_) (fun h1 => ?_)
 ·refine AC.skip (th_n (AC.seq (AC.block (AC.seq ?_))));have hk1 : k < N.ts[i].post.length := by omega
  have hget := ints_at hk1;have hwt := withC_take (u := u) hk1;have hwl : (withC u (N.ts[i].post.take k)).length = u.cs.length + k := by rw [withC_len, List.length_take]; omega
  refine AC.region ?_;refine AL.p (by exact g_ia_view rfl rfl rfl rfl rfl (by rfl) (by assumption)) rfl ?_;refine zr ?_;refine za ?_;refine AL.nil (th_n (AC.region ?_));refine zF ?_;refine zl ?_;refine zm ?_;refine zf ?_;refine zr ?_;refine kH ?_;refine AL.p (by exact g_build rfl rfl rfl) rfl ?_;refine AL.q (by exact h_litF rfl rfl rfl rfl rfl rfl rfl rfl) rfl ?_;refine AL.q (by exact h_appendC (withC u (N.ts[i].post.take k)) [⟨N.ts[i].post[k], (u.es.length : Int)⟩] (.own rfl rfl (by rw [condsL_len, hwl])) (.view rfl) (by rw [List.length_append, hwl]; show u.cs.length + k + 1 ≤ _; omega) (by simp)) rfl ?_;refine zF ?_;refine zs ?_;refine AL.nil (ib_n (th_n (AC.region ?_)));refine zA ?_;refine zm ?_;refine AL.nil (th_n ?_);have hl5 : (withC u (N.ts[i].post.take k) ++ [(⟨N.ts[i].post[k], (u.es.length : Int)⟩ : Cond)]).length = u.cs.length + (k + 1) := by rw [List.length_append, hwl]; rfl
  exact ⟨k + 1, by omega, by omega, zw [(100, _), (101, _), (102, _), (103, _)] hC (b := by rw [hwt, ← hl5]; repeat (first | exact True.intro | refine And.intro ?_ ?_ | exact DLead.same | exact rfl | refine ⟨_, _, rfl, rfl, ?_⟩ | refine ⟨_, rfl, ?_⟩ | refine ⟨_, _, rfl, ?_, ?_⟩))⟩
 refine AC.exit (th_e (th_e (ib_y (th_n (AC.seq ?_)))));have hkk : k = N.ts[i].post.length := by omega
 subst hkk;rw [List.take_length];have hwl : (withC u N.ts[i].post).length = u.cs.length + N.ts[i].post.length := withC_len _ _;refine AC.region ?_;refine AL.p (by exact g_load_ptrN rfl rfl rfl rfl rfl) rfl ?_;refine zs ?_;refine AL.nil (th_n (AC.ret (bq_r ?_)));exact retN [(0, 101), (1, 102)] rfl (by rw [hwl]; repeat (first | exact rfl | refine ⟨_, _, rfl, ?_, ?_⟩ | refine ⟨_, rfl, ?_⟩)) (by repeat (first | exact True.intro | refine And.intro ?_ ?_ | exact rfl | refine ⟨_, _, rfl, rfl, ?_⟩)) rfl rfl
def zeroF (m : List UInt8) (k : Nat) : List UInt8 := (List.range k).foldl (fun m i => m.set i 48) m
theorem zeroF_succ (m : List UInt8) (k : Nat) : zeroF m (k + 1) = (zeroF m k).set k 48 := by unfold zeroF; rw [List.range_succ, List.foldl_append]; rfl
theorem zeroF_len (m : List UInt8) : ∀ k, (zeroF m k).length = m.length
 | 0 => rfl
 | k + 1 => by rw [zeroF_succ, List.length_set]; exact zeroF_len m k
set_option maxHeartbeats 8000000 in
theorem curBegun_ex (N : Net) (c : Cur) (hN : 1 ≤ N.places ∧ N.places ≤ 1000) (hp : c.pos ≤ 100000000) : ∃ (m : List UInt8) (c' : Cur), m.length = N.places.toNat ∧ c'.pos ≤ c.pos + 2 * N.places.toNat + 4 ∧ ASpec Tryz.prog 147 [.ptr 0 0, netA N] [(0, curC c)] (Fun1 (aS (bstr m)) [(0, curC c')]) := by
 have hM := markOf_spec c N.places (by omega) (by omega) (by omega);have hMl := markOf_len c N.places;obtain ⟨M, hMM⟩ := eqx (c.markOf N.places);rw [← hMM] at hM hMl;have hO := one_spec M.2 4 (by decide) (by omega);have ho := M.2.pick_pos 4;obtain ⟨o, hoo⟩ := eqx (M.2.pick 4);rw [← hoo] at hO ho;have hQ := pick_spec o.2 N.places (by omega) (by omega);have hq := o.2.pick_in N.places (by omega);have hq2 := o.2.pick_pos N.places;obtain ⟨q, hqq⟩ := eqx (o.2.pick N.places);rw [← hqq] at hQ hq hq2;refine ⟨if o.1 = 0 then M.1 else ((zeroF M.1 M.1.length).set 0 49).set q.1.toNat 49, if o.1 = 0 then o.2 else q.2, ?_, ?_, ?_⟩
 ·split
  ·exact hMl.1
  rw [List.length_set, List.length_set, zeroF_len]; exact hMl.1
 ·split <;> omega
 refine ASpec.of Tryz.func147 rfl rfl fun C hC => ?_
 refine AC.seq (AC.region ?_);refine kD ?_;refine za ?_;refine AL.nil (th_n (AC.seq (AC.region ?_)));refine AL.p (by exact mv3 rfl) rfl ?_;refine zf ?_;refine zr ?_;refine kU [0] en_markOf hM ?_;refine AL.q (by exact h_bytesOfStr rfl rfl rfl rfl) rfl ?_;refine AL.p (by exact as2 rfl) rfl ?_;refine AL.nil (th_n (AC.seq (AC.seq (AC.region ?_))));refine AL.p (by exact mv3 rfl) rfl ?_;refine kU [0] en_one hO ?_;refine AL.nil (th_n ?_);refine AC.condD rfl (fun h0 => ?_) (fun h0 => ?_)
 ·refine AC.seq (AC.region ?_);refine kB ?_;refine AL.p (by exact g_strOfBytes rfl rfl rfl rfl rfl rfl (by rfl)) rfl ?_;refine za ?_;refine AL.nil (th_n (AC.ret (th_r (bq_r ?_))));have q0 : o.1 = 0 := by assumption
  rw [if_pos q0, if_pos q0];exact retF rfl (by repeat (exact DLead.same)) (by repeat (first | exact True.intro | refine And.intro ?_ ?_ | exact DLead.same | exact rfl | refine ⟨_, _, rfl, rfl, ?_⟩ | refine ⟨_, rfl, ?_⟩ | refine ⟨_, _, rfl, ?_, ?_⟩)) rfl
 refine AC.skip (th_n (AC.seq (AC.seq ?_)));have q0 : ¬ o.1 = 0 := by assumption
 rw [if_neg q0, if_neg q0];have hl0 : M.1.length = N.places.toNat := hMl.1;refine AC.region ?_;refine kB ?_;refine AL.p (by exact g_len_own (sz := 1) (els := []) (e' := 0) rfl rfl (by simp only [maxLen]; omega)) rfl ?_;refine zm ?_;refine AL.nil (th_n (AC.block ?_));refine AC.loop (ι := Nat) (fun k => ⟨35, 400, [(0, .ptr 0 0), (3, .d (.ref (netD N))), (5, .own 100 M.1.length), (17, aI M.1.length), (18, aI k)], [(0, some (curC o.2)), (100, some (.arr 5 1 (byteEls (zeroF M.1 k))))]⟩) (fun k => k ≤ M.1.length) (fun k => M.1.length - k) (0) ?_ (Nat.zero_le _) ?_
 ·exact zw [(0, 0), (100, _)] hC
 intro k hk;refine AC.seq (AC.region ?_);refine zc ?_;refine AL.nil (th_n (AC.seq ?_));refine AC.condD rfl (fun h1 => ?_) (fun h1 => ?_)
 ·refine AC.skip (th_n (AC.seq (AC.block (AC.seq ?_))));have hk1 : k < M.1.length := by omega
  have hzl := zeroF_len M.1 k;have hgm := byteEls_get (m := zeroF M.1 k) (k := k) (by omega);refine AC.region ?_;refine zm ?_;refine za ?_;refine AL.nil (th_n (AC.region ?_));refine kB ?_;refine zm ?_;refine AL.p (by exact g_ia_own (i := k) (l := M.1.length) rfl rfl rfl rfl rfl rfl (by omega) rfl) rfl ?_;refine AL.q (by exact h_store_arr (i := k) (j := 0) (d := dB 48) rfl rfl rfl rfl .same rfl hgm (by decide)) rfl ?_;refine AL.nil (ib_n (th_n (AC.region ?_)));refine zA ?_;refine zm ?_;refine AL.nil (th_n ?_);exact ⟨k + 1, by omega, by omega, zw [(0, 0), (100, 100)] hC (b := by rw [zeroF_succ, ← byteEls_set]; repeat (first | exact True.intro | refine And.intro ?_ ?_ | exact DLead.same | exact rfl | refine ⟨_, _, rfl, rfl, ?_⟩ | refine ⟨_, rfl, ?_⟩ | refine ⟨_, _, rfl, ?_, ?_⟩))⟩
 refine AC.exit (th_e (th_e (ib_y (th_n (AC.seq ?_)))));have hkk : k = M.1.length := by omega
 rw [hkk];have hzl := zeroF_len M.1 M.1.length;obtain ⟨Z, hZ⟩ := eqx (zeroF M.1 M.1.length);rw [← hZ] at hzl ⊢;have hg0 := byteEls_get (m := Z) (k := 0) (by omega);obtain ⟨i, hi⟩ : ∃ i : Nat, q.1 = i := ⟨q.1.toNat, by omega⟩;rw [hi] at hQ;rw [hi, Int.toNat_natCast];have hgi := byteEls_get (m := Z.set 0 49) (k := i) (by rw [List.length_set]; omega);refine AC.region ?_;refine kB ?_;refine AL.p (by exact g_ia_own (i := 0) (l := M.1.length) rfl rfl rfl rfl rfl rfl (by omega) rfl) rfl ?_;refine AL.q (by exact h_store_arr (i := 0) (j := 0) (d := dB 49) rfl rfl rfl rfl .same rfl hg0 (by decide)) rfl ?_;refine AL.nil (th_n (AC.seq ?_));refine AC.weak (t := ⟨35, 900, [(0, .ptr 0 0), (3, .d (.ref (netD N))), (5, .own 100 M.1.length)], [(0, some (curC o.2)), (100, some (.arr 5 1 (byteEls (Z.set 0 49))))]⟩) (zw [(0, 0), (100, 100)] hC (b := by rw [← byteEls_set]; repeat (first | exact True.intro | refine And.intro ?_ ?_ | exact DLead.same | exact rfl | refine ⟨_, _, rfl, rfl, ?_⟩ | refine ⟨_, rfl, ?_⟩ | refine ⟨_, _, rfl, ?_, ?_⟩))) ?_;refine AC.region ?_;refine kB ?_;refine AL.p (by exact mv3 rfl) rfl ?_;refine zf ?_;refine zr ?_;refine kU [0] en_pick hQ ?_;refine AL.p (by exact g_ia_own (i := i) (l := M.1.length) rfl rfl rfl rfl rfl rfl (by omega) rfl) rfl ?_;refine AL.q (by exact h_store_arr (i := i) (j := 0) (d := dB 49) rfl rfl rfl rfl .same rfl hgi (by decide)) rfl ?_;refine AL.nil (th_n (AC.seq ?_));refine AC.weak (t := ⟨35, 1200, [(5, .own 100 M.1.length)], [(0, some (curC q.2)), (100, some (.arr 5 1 (byteEls ((Z.set 0 49).set i 49))))]⟩) (zw [(0, 0), (100, 100)] hC (b := by rw [← byteEls_set _ i]; repeat (first | exact True.intro | refine And.intro ?_ ?_ | exact DLead.same | exact rfl | refine ⟨_, _, rfl, rfl, ?_⟩ | refine ⟨_, rfl, ?_⟩ | refine ⟨_, _, rfl, ?_, ?_⟩))) ?_;have hfl : ((Z.set 0 49).set i 49).length = M.1.length := by rw [List.length_set, List.length_set, hzl]
 refine AC.region ?_;refine kB ?_;refine AL.p (by exact g_strOfBytes rfl rfl rfl rfl rfl rfl (by omega)) rfl ?_;refine za ?_;refine AL.nil (th_n (AC.ret (bq_r ?_)));exact retF rfl (by repeat (exact DLead.same)) (by repeat (first | exact True.intro | refine And.intro ?_ ?_ | exact DLead.same | exact rfl | refine ⟨_, _, rfl, rfl, ?_⟩ | refine ⟨_, rfl, ?_⟩ | refine ⟨_, _, rfl, ?_, ?_⟩)) rfl
theorem en_curBegun : Enters Tryz.prog 147 := enters_of Tryz.func147 rfl rfl
set_option maxHeartbeats 1000000 in
theorem l7MadeO_spec (N : Net) (m : List UInt8) (hN : 1 ≤ N.places ∧ N.places ≤ 1000) (hm : (m.length : Int) = N.places) : ASpec Tryz.prog 103 [netA N, aS (bstr m), .d (.val (.slice none 0 0))] [] (Fun1 (.own 0 (madeI N m).length) [(0, .arr 143 2 (condsL (madeI N m)))]) := by
 have hpl := hN;obtain ⟨P, hP⟩ : ∃ P : Nat, N.places = (P : Int) := ⟨N.places.toNat, by omega⟩;have hmd : madeI N m = madeL m P := by unfold madeI; rw [hP, Int.toNat_natCast]
 refine ASpec.of Tryz.func103 rfl rfl fun C hC => ?_
 refine AC.seq (AC.region ?_);refine kD ?_;refine za ?_;refine AL.nil (th_n (AC.seq (AC.region ?_)));refine za ?_;refine AL.nil (th_n (AC.seq (AC.seq (AC.region ?_))));refine za ?_;refine AL.nil (th_n (AC.block ?_));refine AC.loop (ι := Nat) (fun k => ⟨56, 108, [(1, aS (bstr m)), (2, .d (.val (.slice none 0 0))), (3, .d (.ref (netD N))), (7, .own 100 (madeL m k).length), (8, aI k)], [(100, some (.arr 143 2 (condsL (madeL m k))))]⟩) (fun k => k ≤ P) (fun k => P - k) (0) ?_ (Nat.zero_le _) ?_
 ·exact (Weak.nilOwn (i := 7) (e := 143) (sz := 2) rfl (by decide)).trans (zw [(100, _)] hC)
 intro k hk;refine AC.seq (AC.seq (AC.region ?_));refine zm ?_;refine zf ?_;refine zr ?_;refine zc ?_;refine AL.nil (th_n ?_);refine AC.condD rfl (fun h0 => ?_) (fun h0 => ?_)
 ·refine AC.skip (th_n (AC.seq (AC.block (AC.seq ?_))));have hk1 : k < m.length := by omega
  have hget := bstr_at hk1;have hgd : m.getD k 0 = m[k] := by rw [List.getD_eq_getElem?_getD, List.getElem?_eq_getElem hk1]; rfl
  have hln := madeL_len m k;refine AC.region ?_;refine zm ?_;refine zm ?_;refine AL.p (by exact g_index rfl rfl rfl (by rfl) (by assumption)) rfl ?_;refine zc ?_;refine AL.nil (th_n ?_);refine AC.condD rfl (fun h1 => ?_) (fun h1 => ?_)
  ·refine AC.region ?_;refine kB ?_;refine zm ?_;refine AL.p (by exact g_build rfl rfl rfl) rfl ?_;refine AL.q (by exact h_litF rfl rfl rfl rfl rfl rfl rfl rfl) rfl ?_;refine AL.q (by exact h_appendC (madeL m k) [⟨(k : Int), -1⟩] (.own rfl rfl (condsL_len _).symm) (.view rfl) (by simp; omega) (by simp)) rfl ?_;refine AL.p (by exact as2 rfl) rfl ?_;refine AL.nil (ib_n (th_n (AC.region ?_)));refine zm ?_;refine zA ?_;refine za ?_;refine AL.nil (th_n ?_)
   (have e := madeL_t (m := m) (k := k) (mk_t hgd h1); exact ⟨k + 1, by omega, by omega, zw [(100, _)] hC (by rw [e]; repeat (first | exact True.intro | refine And.intro ?_ ?_ | exact DLead.same | exact rfl | refine ⟨_, rfl, ?_⟩)) (by rw [e]; repeat (first | exact True.intro | refine And.intro ?_ ?_ | exact rfl | refine ⟨_, _, rfl, rfl, ?_⟩))⟩)
  refine AC.skip (ib_n (th_n (AC.region ?_)));refine zm ?_;refine zA ?_;refine za ?_;refine AL.nil (th_n ?_)
  (have e := madeL_f (m := m) (k := k) (mk_f hgd h1); exact ⟨k + 1, by omega, by omega, zw [(100, _)] hC (by rw [e]; repeat (first | exact True.intro | refine And.intro ?_ ?_ | exact DLead.same | exact rfl | refine ⟨_, rfl, ?_⟩)) (by rw [e]; repeat (first | exact True.intro | refine And.intro ?_ ?_ | exact rfl | refine ⟨_, _, rfl, rfl, ?_⟩))⟩)
 refine AC.exit (th_e (th_e (ib_y (th_n (AC.seq (AC.seq ?_))))));have hkP : k = P := by omega
 subst hkP;refine AC.region ?_;refine zm ?_;refine AL.p (by exact g_len_nil rfl rfl) rfl ?_;refine zm ?_;refine AL.nil (th_n (AC.block ?_));refine AC.loop (ι := Unit) (fun _ => ⟨56, 108, [(7, .own 100 (madeL m k).length), (29, aI 0), (30, aI 0)], [(100, some (.arr 143 2 (condsL (madeL m k))))]⟩) (fun _ => True) (fun _ => 0) (()) ?_ (trivial) ?_
 ·exact zw [(100, 100)] hC
 intro _ _;refine AC.seq (AC.region ?_);refine zc ?_;refine AL.nil (th_n (AC.seq ?_));refine AC.condD rfl (fun h1 => ?_) (fun h1 => ?_)
 ·refine AC.skip (th_n (AC.seq (AC.block (AC.seq ?_))));exact absurd h1 (by omega)
 refine AC.exit (th_e (th_e (ib_y (th_n (AC.seq (AC.region ?_))))));refine kB ?_;refine AL.p (by exact as2 rfl) rfl ?_;refine AL.nil (th_n (AC.ret (bq_r ?_)));exact retN [(0, 100)] rfl (by rw [hmd]; repeat (first | exact rfl | refine ⟨_, rfl, ?_⟩)) (by rw [hmd]; repeat (first | exact True.intro | refine And.intro ?_ ?_ | exact rfl | refine ⟨_, _, rfl, rfl, ?_⟩)) rfl rfl
inductive TRep (w : World) : (Nat → Prop) → DV → Value → Prop
 | val {S : Nat → Prop} {v : Value} : (∀ k, ¬ S k) → okV v → TRep w S (.val v) v
 | nil {S : Nat → Prop} {e sz : Nat} : (∀ k, ¬ S k) → TRep w S (.view e sz []) (.slice none 0 0)
 | view {S : Nat → Prop} {e sz : Nat} {els : List (List DV)} {b cap : Nat} {vs : Array Value} {fz : Nat × Nat} (Ts : Nat → Nat → Prop) : w.heap[b]? = some (.cells vs e fz) → (∀ (i : Nat), i < vs.size → ¬ (fz.1 ≤ i ∧ i < fz.2)) → vs.size = cap * sz → els.length ≤ cap → cap ≤ maxLen → 0 < sz →
   (∀ (i : Nat) (cs : List DV), els[i]? = some cs → cs.length = sz) → (∀ (i : Nat) (cs : List DV) (j : Nat) (d : DV), els[i]? = some cs → cs[j]? = some d → TRep w (Ts (i * sz + j)) d (vs.getD (i * sz + j) undef)) →
   (∀ c, ¬ Ts c b) → (∀ c c' k, Ts c k → Ts c' k → c = c') → (∀ k, S k ↔ k = b ∨ ∃ c, c < els.length * sz ∧ Ts c k) → TRep w S (.view e sz els) (.slice (some ⟨b, 0, none⟩) els.length cap)
theorem TRep.lt {w : World} {S : Nat → Prop} {x : DV} {v : Value} (h : TRep w S x v) : ∀ k, S k → k < w.heap.size := by
 induction h with
 | val h _ => intro k h'; exact absurd h' (h k)
 | nil h => intro k h'; exact absurd h' (h k)
 | @view S e sz els b cap vs fz Ts hb _ _ _ _ hz hr _ _ _ hS ih =>
  intro k hk;rcases (hS k).1 hk with rfl | ⟨c, hc, hk⟩
  ·exact lt_of_block hb
  have h1 : c / sz < els.length := Nat.div_lt_of_lt_mul (by rw [Nat.mul_comm]; exact hc);have h2 : c % sz < sz := Nat.mod_lt _ hz;have e1 := List.getElem?_eq_getElem h1;have h3 := hr _ _ e1;have e2 : c / sz * sz + c % sz = c := Nat.div_add_mod' c sz;have := ih _ _ _ _ e1 (List.getElem?_eq_getElem (by rw [h3]; exact h2)) k;rw [e2] at this;exact this hk
theorem TRep.turn {w w' : World} {S : Nat → Prop} {x : DV} {v : Value} (h : TRep w S x v) : (∀ k, S k → w'.heap[k]? = w.heap[k]?) → TRep w' S x v := by
 induction h with
 | val h0 h => intro _; exact .val h0 h
 | nil h0 => intro _; exact .nil h0
 | @view S e sz els b cap vs fz Ts hb h1 h2 h3 h4 h5 h6 h7 h8 h9 h10 ih =>
  intro hk;refine .view Ts ((hk _ ((h10 _).2 (.inl rfl))).trans hb) h1 h2 h3 h4 h5 h6 (fun i cs j d hi hj => ih i cs j d hi hj (fun k hk' => hk k ((h10 k).2 (.inr ⟨_, ?_, hk'⟩)))) h8 h9 h10;have hi1 := (List.getElem?_eq_some_iff.1 hi).1;have hj1 := (List.getElem?_eq_some_iff.1 hj).1;rw [h6 i cs hi] at hj1;have h := Nat.mul_le_mul_right sz hi1;rw [Nat.succ_mul] at h;omega
theorem TRep.data {w : World} {S : Nat → Prop} {x : DV} {v : Value} (h : TRep w S x v) : DRep S w x v := by
 induction h with
 | val _ h => exact .val h
 | nil _ => exact .nil
 | @view S e sz els b cap vs fz Ts hb h1 h2 h3 h4 h5 h6 h7 h8 h9 h10 ih =>
  refine .view ((h10 _).2 (.inl rfl)) hb h3 h4 (by rw [Nat.zero_add, h2]; exact Nat.le_refl _) h6 (fun i cs j d hi hj => ?_);rw [Nat.zero_add];refine (ih i cs j d hi hj).mono fun k hk => (h10 k).2 (.inr ⟨_, ?_, hk⟩)
  have hi1 := (List.getElem?_eq_some_iff.1 hi).1;have hj1 := (List.getElem?_eq_some_iff.1 hj).1;rw [h6 i cs hi] at hj1;have h := Nat.mul_le_mul_right sz hi1;rw [Nat.succ_mul] at h;omega
theorem TRep.congr {w : World} {S S' : Nat → Prop} {x : DV} {v : Value} (h : TRep w S x v) (he : ∀ k, S k ↔ S' k) : TRep w S' x v := by
 have : S = S' := funext fun k => propext (he k)
 subst this; exact h
def TL (w : World) (S : Nat → Prop) (L : List DV) (V : List Value) : Prop :=
 ∃ Ts : Nat → Nat → Prop, V.length = L.length ∧ (∀ i d v, L[i]? = some d → V[i]? = some v → TRep w (Ts i) d v) ∧ (∀ i j k, Ts i k → Ts j k → i = j) ∧ ∀ k, S k ↔ ∃ i, i < L.length ∧ Ts i k
theorem TL.turn {w w' : World} {S : Nat → Prop} {L : List DV} {V : List Value} (h : TL w S L V) (hk : ∀ k, S k → w'.heap[k]? = w.heap[k]?) : TL w' S L V := by
 obtain ⟨Ts, h1, h2, h3, h4⟩ := h;exact ⟨Ts, h1, fun i d v hd hv => (h2 i d v hd hv).turn fun k hk' => hk k ((h4 k).2 ⟨i, (List.getElem?_eq_some_iff.1 hd).1, hk'⟩), h3, h4⟩
theorem TL.lt {w : World} {S : Nat → Prop} {L : List DV} {V : List Value} (h : TL w S L V) (k : Nat) (hk : S k) : k < w.heap.size := by
 obtain ⟨Ts, h1, h2, h3, h4⟩ := h;obtain ⟨i, hi, hk'⟩ := (h4 k).1 hk;exact (h2 i _ _ (List.getElem?_eq_getElem hi) (List.getElem?_eq_getElem (by omega))).lt k hk'
theorem TL.data {w : World} {S : Nat → Prop} {L : List DV} {V : List Value} (h : TL w S L V) (i : Nat) {d : DV} {v : Value} (hd : L[i]? = some d) (hv : V[i]? = some v) : DRep S w d v := by
 obtain ⟨Ts, h1, h2, h3, h4⟩ := h;exact (h2 i d v hd hv).data.mono fun k hk => (h4 k).2 ⟨i, (List.getElem?_eq_some_iff.1 hd).1, hk⟩
theorem TL.len {w : World} {S : Nat → Prop} {L : List DV} {V : List Value} (h : TL w S L V) : V.length = L.length := h.choose_spec.1
theorem TL.nil (w : World) : TL w (fun _ => False) [] [] := ⟨fun _ _ => False, rfl, fun i d v h => by simp at h, fun _ _ _ h => h.elim, fun k => ⟨fun h => h.elim, fun ⟨_, h, _⟩ => by simp at h⟩⟩
theorem TL.one {w : World} {S : Nat → Prop} {d : DV} {v : Value} (h : TRep w S d v) : TL w S [d] [v] := by
 refine ⟨fun i k => i = 0 ∧ S k, rfl, fun i d' v' hd hv => ?_, fun i j k h1 h2 => h1.1.trans h2.1.symm, fun k => ⟨fun h => ⟨0, by simp, rfl, h⟩, fun ⟨_, _, h⟩ => h.2⟩⟩;cases i with
 | zero =>
  simp at hd hv; subst hd; subst hv;exact h.congr fun k => by simp
 | succ i => simp at hd
theorem TL.app {w : World} {S S' : Nat → Prop} {L L' : List DV} {V V' : List Value} (h : TL w S L V) (h' : TL w S' L' V') (hd : ∀ k, S k → ¬ S' k) : TL w (fun k => S k ∨ S' k) (L ++ L') (V ++ V') := by
 obtain ⟨Ts, h1, h2, h3, h4⟩ := h;obtain ⟨Ts', g1, g2, g3, g4⟩ := h';refine ⟨fun i k => (i < L.length ∧ Ts i k) ∨ (L.length ≤ i ∧ i < L.length + L'.length ∧ Ts' (i - L.length) k), by simp [h1, g1], fun i d v hd' hv => ?_, fun i j k hi hj => ?_, fun k => ⟨fun h => ?_, fun h => ?_⟩⟩
 ·by_cases hi : i < L.length
  ·rw [List.getElem?_append_left hi] at hd';rw [List.getElem?_append_left (by omega)] at hv;exact (h2 i d v hd' hv).congr fun k => by simp [hi, Nat.not_le.2 hi]
  have hlt := (List.getElem?_eq_some_iff.1 hd').1;rw [List.length_append] at hlt;rw [List.getElem?_append_right (by omega)] at hd' hv;rw [h1] at hv;exact (g2 _ d v hd' hv).congr fun k => by simp [hi, hlt, Nat.le_of_not_lt hi]
 ·rcases hi with ⟨a1, a2⟩ | ⟨a1, a2, a3⟩ <;> rcases hj with ⟨b1, b2⟩ | ⟨b1, b2, b3⟩
  ·exact h3 i j k a2 b2
  ·exact absurd ((g4 k).2 ⟨_, by omega, b3⟩) (hd k ((h4 k).2 ⟨i, a1, a2⟩))
  ·exact absurd ((g4 k).2 ⟨_, by omega, a3⟩) (hd k ((h4 k).2 ⟨j, b1, b2⟩))
  have := g3 _ _ k a3 b3; omega
 ·rcases h with h | h
  ·obtain ⟨i, hi, hk⟩ := (h4 k).1 h;exact ⟨i, by rw [List.length_append]; omega, .inl ⟨hi, hk⟩⟩
  obtain ⟨i, hi, hk⟩ := (g4 k).1 h;refine ⟨L.length + i, by rw [List.length_append]; omega, .inr ⟨by omega, by omega, ?_⟩⟩;rw [show L.length + i - L.length = i by omega]; exact hk
 obtain ⟨i, _, ⟨a1, a2⟩ | ⟨a1, a2, a3⟩⟩ := h
 ·exact .inl ((h4 k).2 ⟨i, a1, a2⟩)
 exact .inr ((g4 k).2 ⟨_, by omega, a3⟩)
theorem TL.cons {w : World} {S S' : Nat → Prop} {d : DV} {v : Value} {L : List DV} {V : List Value} (h : TRep w S d v) (h' : TL w S' L V) (hd : ∀ k, S k → ¬ S' k) : TL w (fun k => S k ∨ S' k) (d :: L) (v :: V) := (TL.one h).app h' hd
def TX (w : World) (S : Nat → Prop) (c : Nat) (L : List DV) (V : List Value) : Prop :=
 ∃ Ts : Nat → Nat → Prop, V.length = L.length ∧ (∀ i d v, i ≠ c → L[i]? = some d → V[i]? = some v → TRep w (Ts i) d v) ∧ (∀ i j k, Ts i k → Ts j k → i = j) ∧ (∀ k, ¬ Ts c k) ∧ ∀ k, S k ↔ ∃ i, i < L.length ∧ Ts i k
theorem TX.turn {w w' : World} {S : Nat → Prop} {c : Nat} {L : List DV} {V : List Value} (h : TX w S c L V) (hk : ∀ k, S k → w'.heap[k]? = w.heap[k]?) : TX w' S c L V := by
 obtain ⟨Ts, h1, h2, h3, h4, h5⟩ := h;exact ⟨Ts, h1, fun i d v hi hd hv => (h2 i d v hi hd hv).turn fun k hk' => hk k ((h5 k).2 ⟨i, (List.getElem?_eq_some_iff.1 hd).1, hk'⟩), h3, h4, h5⟩
theorem TL.split {w : World} {S : Nat → Prop} {L : List DV} {V : List Value} (h : TL w S L V) {c : Nat} {d : DV} {v : Value} (hd : L[c]? = some d) (hv : V[c]? = some v) : ∃ S1 S2, TRep w S1 d v ∧ TX w S2 c L V ∧ (∀ k, S1 k → ¬ S2 k) ∧ ∀ k, S k ↔ S1 k ∨ S2 k := by
 obtain ⟨Ts, h1, h2, h3, h4⟩ := h;have hlt := (List.getElem?_eq_some_iff.1 hd).1;refine ⟨Ts c, fun k => ∃ i, i < L.length ∧ i ≠ c ∧ Ts i k, h2 c d v hd hv, ⟨fun i k => i ≠ c ∧ Ts i k, h1, fun i d v hi hd hv => ?_, fun i j k hi hj => h3 i j k hi.2 hj.2, fun k hk => hk.1 rfl, fun k => Iff.rfl⟩, fun k hk ⟨i, _, hi, hk'⟩ => hi (h3 i c k hk' hk), fun k => ⟨fun hk => ?_, fun hk => ?_⟩⟩
 ·exact (h2 i d v hd hv).congr fun k => by simp [hi]
 ·obtain ⟨i, hi, hk⟩ := (h4 k).1 hk
  by_cases hic : i = c
  ·subst hic; exact .inl hk
  exact .inr ⟨i, hi, hic, hk⟩
 rcases hk with hk | ⟨i, hi, _, hk⟩
 ·exact (h4 k).2 ⟨c, hlt, hk⟩
 exact (h4 k).2 ⟨i, hi, hk⟩
theorem TX.join {w : World} {S1 S2 : Nat → Prop} {c : Nat} {L : List DV} {V : List Value} {d : DV} {v : Value} (h : TX w S2 c L V) (h1 : TRep w S1 d v) (hc : c < L.length) (hv : V[c]? = some v) (hd : ∀ k, S1 k → ¬ S2 k) : TL w (fun k => S1 k ∨ S2 k) (L.set c d) V := by
 obtain ⟨Ts, g1, g2, g3, g4, g5⟩ := h;refine ⟨fun i k => (i = c ∧ S1 k) ∨ (i < L.length ∧ Ts i k), by simpa using g1, fun i d' v' hd' hv' => ?_, fun i j k hi hj => ?_, fun k => ⟨fun hk => ?_, fun hk => ?_⟩⟩
 ·by_cases hi : c = i
  ·subst hi;rw [List.getElem?_set_self hc] at hd';rw [hv] at hv';simp only [Option.some.injEq] at hd' hv';subst hd'; subst hv';exact h1.congr fun k => by simp [g4]
  rw [List.getElem?_set_ne hi] at hd';have hl := (List.getElem?_eq_some_iff.1 hd').1;have hi' : ¬ i = c := fun e => hi e.symm
  exact (g2 i d' v' hi' hd' hv').congr fun k => by simp [hi', hl]
 ·rcases hi with ⟨a1, a2⟩ | ⟨a1, a2⟩ <;> rcases hj with ⟨b1, b2⟩ | ⟨b1, b2⟩
  ·rw [a1, b1]
  ·exact absurd ((g5 k).2 ⟨j, b1, b2⟩) (hd k a2)
  ·exact absurd ((g5 k).2 ⟨i, a1, a2⟩) (hd k b2)
  exact g3 i j k a2 b2
 ·rcases hk with hk | hk
  ·exact ⟨c, by simpa using hc, .inl ⟨rfl, hk⟩⟩
  obtain ⟨i, hi, hk⟩ := (g5 k).1 hk;exact ⟨i, by simpa using hi, .inr ⟨hi, hk⟩⟩
 obtain ⟨i, _, ⟨_, hk⟩ | ⟨hi, hk⟩⟩ := hk
 ·exact .inl hk
 exact .inr ((g5 k).2 ⟨i, hi, hk⟩)
end Go.Proofs.YtbiinjejokhfgaaGreat
