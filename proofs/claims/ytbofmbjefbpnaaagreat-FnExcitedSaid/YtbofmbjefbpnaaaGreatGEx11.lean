/- Contracts of the functions of the program and of the reference, each proved by a walk through its code. -/
import Derived.Test.YtbofmbjefbpnaaaGreatGEx10
set_option linter.all false
set_option maxRecDepth 20000
namespace Go.Proofs.YtbofmbjefbpnaaaGreat
open Go.RowKit
theorem two_txt (x y a b : UInt8) : decide (bstr [x, y] = ⟨#[a, b]⟩) = (decide (x = a) && decide (y = b)) := by
 rw [← Bool.decide_and];refine decide_eq_decide.2 ⟨fun h => ?_, fun h => by rw [h.1, h.2]; rfl⟩;have h2 : [x, y] = [a, b] := congrArg (fun z : ByteArray => z.data.toList) h;simpa using h2
theorem u8_dec (x y : UInt8) : decide ((x.toNat : Int) = (y.toNat : Int)) = decide (x = y) := decide_eq_decide.2 ⟨fun h => UInt8.toNat_inj.1 (by omega), fun h => by rw [h]⟩
theorem mayFollow_spec (x y : UInt8) : ASpec Tryz.prog 125 [aB x, aB y] [] (Pure1 (aT (nxtB x y))) := by
 have hR : nxtB x y = (decide (x = y) || ((decide (x = 48) && decide (y = 43)) || (decide (x = 43) && decide (y = 49)) || (decide (x = 49) && decide (y = 45)) || (decide (x = 45) && decide (y = 48)) || (decide (x = 43) && decide (y = 45)) || (decide (x = 45) && decide (y = 43)))) := rfl;have z1 := two_txt x y 48 43;have z2 := two_txt x y 43 49;have z3 := two_txt x y 49 45;have z4 := two_txt x y 45 48;have z5 := two_txt x y 43 45;have z6 := two_txt x y 45 43;have z0 := u8_dec x y;obtain ⟨b0, e0⟩ := eqx (decide (x = y));obtain ⟨b1, e1⟩ := eqx ((decide (x = 48) && decide (y = 43)));obtain ⟨b2, e2⟩ := eqx ((decide (x = 43) && decide (y = 49)));obtain ⟨b3, e3⟩ := eqx ((decide (x = 49) && decide (y = 45)));obtain ⟨b4, e4⟩ := eqx ((decide (x = 45) && decide (y = 48)));obtain ⟨b5, e5⟩ := eqx ((decide (x = 43) && decide (y = 45)));obtain ⟨b6, e6⟩ := eqx ((decide (x = 45) && decide (y = 43)));rw [← e0] at z0 hR;rw [← e1] at z1 hR;rw [← e2] at z2 hR;rw [← e3] at z3 hR;rw [← e4] at z4 hR;rw [← e5] at z5 hR;rw [← e6] at z6 hR;rw [hR];clear e0 e1 e2 e3 e4 e5 e6 hR;refine ASpec.of Tryz.func125 rfl rfl fun C hC => ?_
 refine AC.seq (AC.region ?_);refine za ?_;refine AL.nil (th_n (AC.seq (AC.seq (AC.region ?_))));refine zm ?_;refine zm ?_;refine AL.q (by exact h_lit rfl rfl rfl rfl rfl rfl rfl rfl) rfl ?_;refine AL.p (by exact g_strOfBytes (l := [x, y]) rfl rfl rfl rfl rfl rfl rfl) rfl ?_;refine AL.nil (th_n (AC.block (AC.seq (AC.seq (AC.region ?_)))));refine AL.p (by exact g_scmp (r := b1) rfl rfl (by show some (decide _) = _; rw [z1])) rfl ?_;refine za ?_;refine AL.nil (th_n ?_);refine AC.condB rfl (fun h0 => ?_) (fun h0 => ?_)
 ·refine AC.skip (th_n ?_);refine AC.condB rfl (fun h1 => ?_) (fun h1 => ?_)
  ·refine AC.seq (AC.region ?_);refine za ?_;refine AL.nil (th_n (AC.ret (ib_r (th_r (bq_r ?_)))));exact ret1 rfl (by clear z0 z1 z2 z3 z4 z5 z6; simp_all)
  refine AC.skip (ib_n (th_n (AC.seq (AC.region ?_))));refine zm ?_;refine zm ?_;refine AL.p (by exact g_cmp (r := b0) rfl rfl (by show some (decide _) = _; rw [z0])) rfl ?_;refine za ?_;refine AL.nil (th_n (AC.ret (bq_r ?_)));exact ret1 rfl (by clear z0 z1 z2 z3 z4 z5 z6; simp_all)
 refine AC.seq (AC.region ?_);refine AL.p (by exact g_scmp (r := b2) rfl rfl (by show some (decide _) = _; rw [z2])) rfl ?_;refine za ?_;refine AL.nil (th_n ?_);refine AC.condB rfl (fun h1 => ?_) (fun h1 => ?_)
 ·refine AC.skip (th_n ?_);refine AC.condB rfl (fun h2 => ?_) (fun h2 => ?_)
  ·refine AC.seq (AC.region ?_);refine za ?_;refine AL.nil (th_n (AC.ret (ib_r (th_r (bq_r ?_)))));exact ret1 rfl (by clear z0 z1 z2 z3 z4 z5 z6; simp_all)
  refine AC.skip (ib_n (th_n (AC.seq (AC.region ?_))));refine zm ?_;refine zm ?_;refine AL.p (by exact g_cmp (r := b0) rfl rfl (by show some (decide _) = _; rw [z0])) rfl ?_;refine za ?_;refine AL.nil (th_n (AC.ret (bq_r ?_)));exact ret1 rfl (by clear z0 z1 z2 z3 z4 z5 z6; simp_all)
 refine AC.seq (AC.region ?_);refine AL.p (by exact g_scmp (r := b3) rfl rfl (by show some (decide _) = _; rw [z3])) rfl ?_;refine za ?_;refine AL.nil (th_n ?_);refine AC.condB rfl (fun h2 => ?_) (fun h2 => ?_)
 ·refine AC.skip (th_n ?_);refine AC.condB rfl (fun h3 => ?_) (fun h3 => ?_)
  ·refine AC.seq (AC.region ?_);refine za ?_;refine AL.nil (th_n (AC.ret (ib_r (th_r (bq_r ?_)))));exact ret1 rfl (by clear z0 z1 z2 z3 z4 z5 z6; simp_all)
  refine AC.skip (ib_n (th_n (AC.seq (AC.region ?_))));refine zm ?_;refine zm ?_;refine AL.p (by exact g_cmp (r := b0) rfl rfl (by show some (decide _) = _; rw [z0])) rfl ?_;refine za ?_;refine AL.nil (th_n (AC.ret (bq_r ?_)));exact ret1 rfl (by clear z0 z1 z2 z3 z4 z5 z6; simp_all)
 refine AC.seq (AC.region ?_);refine AL.p (by exact g_scmp (r := b4) rfl rfl (by show some (decide _) = _; rw [z4])) rfl ?_;refine za ?_;refine AL.nil (th_n ?_);refine AC.condB rfl (fun h3 => ?_) (fun h3 => ?_)
 ·refine AC.skip (th_n ?_);refine AC.condB rfl (fun h4 => ?_) (fun h4 => ?_)
  ·refine AC.seq (AC.region ?_);refine za ?_;refine AL.nil (th_n (AC.ret (ib_r (th_r (bq_r ?_)))));exact ret1 rfl (by clear z0 z1 z2 z3 z4 z5 z6; simp_all)
  refine AC.skip (ib_n (th_n (AC.seq (AC.region ?_))));refine zm ?_;refine zm ?_;refine AL.p (by exact g_cmp (r := b0) rfl rfl (by show some (decide _) = _; rw [z0])) rfl ?_;refine za ?_;refine AL.nil (th_n (AC.ret (bq_r ?_)));exact ret1 rfl (by clear z0 z1 z2 z3 z4 z5 z6; simp_all)
 refine AC.seq (AC.region ?_);refine AL.p (by exact g_scmp (r := b5) rfl rfl (by show some (decide _) = _; rw [z5])) rfl ?_;refine za ?_;refine AL.nil (th_n ?_);refine AC.condB rfl (fun h4 => ?_) (fun h4 => ?_)
 ·refine AC.skip (th_n ?_);refine AC.condB rfl (fun h5 => ?_) (fun h5 => ?_)
  ·refine AC.seq (AC.region ?_);refine za ?_;refine AL.nil (th_n (AC.ret (ib_r (th_r (bq_r ?_)))));exact ret1 rfl (by clear z0 z1 z2 z3 z4 z5 z6; simp_all)
  refine AC.skip (ib_n (th_n (AC.seq (AC.region ?_))));refine zm ?_;refine zm ?_;refine AL.p (by exact g_cmp (r := b0) rfl rfl (by show some (decide _) = _; rw [z0])) rfl ?_;refine za ?_;refine AL.nil (th_n (AC.ret (bq_r ?_)));exact ret1 rfl (by clear z0 z1 z2 z3 z4 z5 z6; simp_all)
 refine AC.region ?_;refine AL.p (by exact g_scmp (r := b6) rfl rfl (by show some (decide _) = _; rw [z6])) rfl ?_;refine za ?_;refine AL.nil (th_n ?_);refine AC.condB rfl (fun h5 => ?_) (fun h5 => ?_)
 ·refine AC.seq (AC.region ?_);refine za ?_;refine AL.nil (th_n (AC.ret (ib_r (th_r (bq_r ?_)))));exact ret1 rfl (by clear z0 z1 z2 z3 z4 z5 z6; simp_all)
 refine AC.skip (ib_n (th_n (AC.seq (AC.region ?_))));refine zm ?_;refine zm ?_;refine AL.p (by exact g_cmp (r := b0) rfl rfl (by show some (decide _) = _; rw [z0])) rfl ?_;refine za ?_;refine AL.nil (th_n (AC.ret (bq_r ?_)));exact ret1 rfl (by clear z0 z1 z2 z3 z4 z5 z6; simp_all)
theorem en_mayFollow : Enters Tryz.prog 125 := enters_of Tryz.func125 rfl rfl
theorem isPartition1_spec (a : Ar) (w : List UInt8) (ha : ArIn w.length a) : ASpec Tryz.prog 124 [arA a, .d (.ref [dS (bstr w)])] [] (Pure1 (aT (!nxtB (w.getD a.from_.toNat 0) (w.getD a.to_.toNat 0)))) := by
 unfold ArIn at ha;obtain ⟨f, hf⟩ := eqx a.from_.toNat;obtain ⟨t, ht⟩ := eqx a.to_.toNat;have hfi : a.from_ = (f : Int) := by omega
 have hti : a.to_ = (t : Int) := by omega
 have h1 := bstr_getD (l := w) (k := f) (by omega);have h2 := bstr_getD (l := w) (k := t) (by omega);have hM := mayFollow_spec (w.getD f 0) (w.getD t 0);rw [← hf, ← ht];refine ASpec.of Tryz.func124 rfl rfl fun C hC => ?_
 refine AC.seq (AC.region ?_);refine kD ?_;refine za ?_;refine AL.nil (th_n (AC.seq ?_));refine AC.drawn' mixed_ok [[], [], [1], [0,1,2], [], [], [5], [4,5,6], [0,1,2,3,4,5,6,7], [0,1,2,3,4,5,6,7,8], [0,1,2,3,4,5,6,7,8,9]] (by decide) ?_;refine zd 0 [] 11 (by exact g_load_ref rfl rfl rfl) ?_;refine zd 1 [] 11 (by exact g_fa_ref rfl rfl rfl rfl rfl rfl) ?_;refine zd 2 [1] 11 (by exact g_load_ref rfl rfl rfl) ?_;refine zd 3 [0,1,2] 11 (by exact g_index (i := f) rfl rfl rfl hfi h1) ?_;refine zd 4 [] 11 (by exact g_load_ref rfl rfl rfl) ?_;refine zd 5 [] 11 (by exact g_fa_ref rfl rfl rfl rfl rfl rfl) ?_;refine zd 6 [5] 11 (by exact g_load_ref rfl rfl rfl) ?_;refine zd 7 [4,5,6] 11 (by exact g_index (i := t) rfl rfl rfl hti h2) ?_;refine zh 8 [0,1,2,3,4,5,6,7] 11 (by exact h_pure en_mayFollow rfl rfl (by repeat (first | exact rfl | exact DLead.same | refine ⟨_, _, rfl, ?_, ?_⟩)) hM rfl) ?_;refine zd 9 (List.range 9) 11 (by exact g_not rfl) ?_;refine zd 10 (List.range 10) 11 (by exact as1 rfl) ?_;refine zj 11 ?_;refine th_n (AC.ret (bq_r ?_));exact ret1 rfl rfl
theorem en_isPartition1 : Enters Tryz.prog 124 := enters_of Tryz.func124 rfl rfl
theorem isPartition_spec (c : SG) (w : List UInt8) (hl : c.arcs.length ≤ 1000000) (hin : ∀ a, a ∈ c.arcs → ArIn w.length a) : ASpec Tryz.prog 69 [sgA c, aS (bstr w)] [] (Pure1 (aT (parB c w))) := by
 have hCf := cfAr_spec c.arcs hl 124 [.ref [dS (bstr w)]] en_isPartition1 (fun a => !nxtB (w.getD a.from_.toNat 0) (w.getD a.to_.toNat 0)) (fun a h => isPartition1_spec a w (hin a h))
 have hR : (!c.arcs.any fun a => !nxtB (w.getD a.from_.toNat 0) (w.getD a.to_.toNat 0)) = parB c w := by
  unfold parB;rw [List.all_eq_not_any_not]
 refine ASpec.of Tryz.func69 rfl rfl fun C hC => ?_
 refine AC.seq (AC.region ?_);refine kD ?_;refine kD ?_;refine za ?_;refine AL.nil (th_n (AC.seq (AC.region ?_)));refine zf ?_;refine zr ?_;refine AL.p (by exact g_fn rfl) rfl ?_;refine AL.q (by exact h_pure en_cfAr rfl rfl (by exact ⟨_, _, rfl, .same, _, _, rfl, ⟨_, rfl, leadsL_data _ [.ref [dS (bstr w)]]⟩, rfl⟩) hCf rfl) rfl ?_;refine kC ?_;refine za ?_;refine AL.nil (th_n (AC.ret (bq_r ?_)));exact ret1 rfl (by rw [hR])
theorem en_isPartition : Enters Tryz.prog 69 := enters_of Tryz.func69 rfl rfl
def okSg (b : UInt8) : Bool := decide (b = 48) || decide (b = 43) || decide (b = 49) || decide (b = 45)
noncomputable def areS (c : SG) (w : List UInt8) : Bool := w.all okSg && (decide (w.length = c.codes.length) && validC c)
set_option maxHeartbeats 2000000 in
theorem areSigns_spec (c : SG) (w : List UInt8) (hw : w.length ≤ 1000000) (hc : SgL c) : ASpec Tryz.prog 68 [sgA c, aS (bstr w)] [] (Pure1 (aT (areS c w))) := by
 have hV := iValidSg_spec c hc;have hn := hc.n;have hR : areS c w = (w.all okSg && (decide (w.length = c.codes.length) && validC c)) := rfl;obtain ⟨v, hv⟩ := eqx (validC c);rw [← hv] at hV hR;clear hv;rw [hR];clear hR;refine ASpec.of Tryz.func68 rfl rfl fun C hC => ?_
 refine AC.seq (AC.region ?_);refine kD ?_;refine za ?_;refine AL.nil (th_n (AC.seq (AC.seq (AC.region ?_))));refine za ?_;refine AL.nil (th_n (AC.block ?_));refine AC.loop (ι := Nat) (fun i => ⟨40, 300, [(1, aS (bstr w)), (2, .d (.ref (sgD c))), (5, aI i)], []⟩) (fun i => i ≤ w.length ∧ (w.take i).all okSg = true) (fun i => w.length - i) (0) ?_ (⟨Nat.zero_le _, rfl⟩) ?_
 ·exact Weak.ren _ [] hC rfl (by repeat (first | exact True.intro | refine And.intro ?_ ?_ | exact DLead.same)) (by repeat (exact True.intro)) rfl rfl rfl
 rintro i ⟨hi, hal⟩;refine AC.seq (AC.seq (AC.region ?_));refine zm ?_;refine zm ?_;refine AL.p (by exact g_len_str (k := w.length) rfl rfl (bstr_size _)) rfl ?_;refine zc ?_;refine AL.nil (th_n ?_);refine AC.condD rfl (fun h0 => ?_) (fun h0 => ?_)
 ·refine AC.skip (th_n (AC.seq (AC.block (AC.seq ?_))));have hi1 : i < w.length := by omega
  have hg := bstr_at hi1;have hnx : (w.take (i + 1)).all okSg = okSg w[i] := by rw [List.take_add_one, List.getElem?_eq_getElem hi1, List.all_append, hal]; simp
  have hwi : okSg w[i] = false → w.all okSg = false := fun h => List.all_eq_false.2 ⟨_, List.getElem_mem hi1, by rw [h]; decide⟩
  obtain ⟨b, hb⟩ := eqx (w[i]);rw [← hb] at hg hnx hwi;have k1 : decide ((b.toNat : Int) = 48) = decide (b = 48) := u8_dec b 48;have k2 : decide ((b.toNat : Int) = 43) = decide (b = 43) := u8_dec b 43;have k3 : decide ((b.toNat : Int) = 49) = decide (b = 49) := u8_dec b 49;have k4 : decide ((b.toNat : Int) = 45) = decide (b = 45) := u8_dec b 45;have hok : okSg b = (decide (b = 48) || decide (b = 43) || decide (b = 49) || decide (b = 45)) := rfl;refine AC.region ?_;refine zm ?_;refine zm ?_;refine AL.p (by exact g_index (i := i) rfl rfl rfl rfl hg) rfl ?_;refine za ?_;refine AL.nil (th_n (AC.seq (AC.region ?_)));refine zm ?_;refine AL.p (by exact g_cmp (r := !decide (b = 48)) rfl rfl (by show some (!decide _) = _; rw [k1])) rfl ?_;refine zm ?_;refine AL.caseGN rfl rfl (fun h1 => ?_) (fun h1 => ?_)
  ·refine zy ?_;refine zm ?_;refine zy ?_;refine AL.p (by exact g_cmp (r := !decide (b = 43)) rfl rfl (by show some (!decide _) = _; rw [k2])) rfl ?_;refine zQ ?_;refine zm ?_;refine AL.caseGN rfl rfl (fun h2 => ?_) (fun h2 => ?_)
   ·refine zy ?_;refine zm ?_;refine zy ?_;refine AL.p (by exact g_cmp (r := !decide (b = 49)) rfl rfl (by show some (!decide _) = _; rw [k3])) rfl ?_;refine zQ ?_;refine zm ?_;refine AL.caseGN rfl rfl (fun h3 => ?_) (fun h3 => ?_)
    ·refine zy ?_;refine zm ?_;refine zy ?_;refine AL.p (by exact g_cmp (r := !decide (b = 45)) rfl rfl (by show some (!decide _) = _; rw [k4])) rfl ?_;refine zQ ?_;refine AL.nil (th_n ?_);refine AC.condND rfl (fun h4 => ?_) (fun h4 => ?_)
     ·refine AC.seq (AC.region ?_);refine za ?_;refine AL.nil (th_n (AC.ret (ib_r (th_r (th_r (ib_r (th_r (bq_r ?_))))))));exact ret1 rfl (by rw [hwi (by rw [hok]; simp_all), Bool.false_and])
     refine AC.skip (ib_n (th_n (AC.region ?_)));refine zm ?_;refine zA ?_;refine za ?_;refine AL.nil (th_n ?_);exact ⟨i + 1, ⟨by omega, by rw [hnx, hok]; simp_all⟩, by omega, Weak.ren _ [] hC rfl (by repeat (first | exact True.intro | refine And.intro ?_ ?_ | exact DLead.same)) (by repeat (exact True.intro)) rfl rfl rfl⟩
    refine zn ?_;refine zn ?_;refine zP ?_;refine AL.nil (th_n ?_);refine AC.condF rfl ?_;refine AC.skip (ib_n (th_n (AC.region ?_)));refine zm ?_;refine zA ?_;refine za ?_;refine AL.nil (th_n ?_);exact ⟨i + 1, ⟨by omega, by rw [hnx, hok]; simp_all⟩, by omega, Weak.ren _ [] hC rfl (by repeat (first | exact True.intro | refine And.intro ?_ ?_ | exact DLead.same)) (by repeat (exact True.intro)) rfl rfl rfl⟩
   refine zn ?_;refine zn ?_;refine zP ?_;refine zm ?_;refine zn ?_;refine zn ?_;refine zP ?_;refine AL.nil (th_n ?_);refine AC.condF rfl ?_;refine AC.skip (ib_n (th_n (AC.region ?_)));refine zm ?_;refine zA ?_;refine za ?_;refine AL.nil (th_n ?_);exact ⟨i + 1, ⟨by omega, by rw [hnx, hok]; simp_all⟩, by omega, Weak.ren _ [] hC rfl (by repeat (first | exact True.intro | refine And.intro ?_ ?_ | exact DLead.same)) (by repeat (exact True.intro)) rfl rfl rfl⟩
  refine zn ?_;refine zn ?_;refine zP ?_;refine zm ?_;refine zn ?_;refine zn ?_;refine zP ?_;refine zm ?_;refine zn ?_;refine zn ?_;refine zP ?_;refine AL.nil (th_n ?_);refine AC.condF rfl ?_;refine AC.skip (ib_n (th_n (AC.region ?_)));refine zm ?_;refine zA ?_;refine za ?_;refine AL.nil (th_n ?_);exact ⟨i + 1, ⟨by omega, by rw [hnx, hok]; simp_all⟩, by omega, Weak.ren _ [] hC rfl (by repeat (first | exact True.intro | refine And.intro ?_ ?_ | exact DLead.same)) (by repeat (exact True.intro)) rfl rfl rfl⟩
 refine AC.exit (th_e (th_e (ib_y (th_n (AC.seq ?_)))));have hii : i = w.length := by omega
 rw [hii, List.take_length] at hal;have hz : decide ((w.length : Int) = (c.codes.length : Int)) = decide (w.length = c.codes.length) := decide_eq_decide.2 ⟨fun h => by omega, fun h => by omega⟩;refine AC.region ?_;refine zm ?_;refine AL.p (by exact g_len_str (k := w.length) rfl rfl (bstr_size _)) rfl ?_;refine zf ?_;refine zr ?_;refine kI c.codes.length (tsX_len _) ?_;refine AL.p (by exact g_cmp (r := decide (w.length = c.codes.length)) rfl rfl (by show some (decide _) = _; rw [hz])) rfl ?_;refine zm ?_;refine AL.caseG rfl rfl (fun h1 => ?_) (fun h1 => ?_)
 ·refine zy ?_;refine kG ?_;refine zy ?_;refine kV en_iValidSg hV ?_;refine zQ ?_;refine za ?_;refine AL.nil (th_n (AC.ret (bq_r ?_)))
  (have q := ‹w.length = c.codes.length›; exact ret1 rfl (by rw [hal, decide_eq_true q]; rfl))
 refine zn ?_;refine zn ?_;refine zP ?_;refine za ?_;refine AL.nil (th_n (AC.ret (bq_r ?_)))
 (have q := ‹¬ w.length = c.codes.length›; exact ret1 rfl (by rw [hal, decide_eq_false q]; rfl))
theorem en_areSigns : Enters Tryz.prog 68 := enters_of Tryz.func68 rfl rfl
theorem h_appendBz (acc new : List UInt8) {s : ASt} {dst : Option Nat} {ty : Nat} {pos : String} {af : Array Edge} {gd : Option (Nat × Bool)} {x y : Operand} {f : Nat} {ids ids2 : List Nat} {gone : List (Nat × Option Chunk)}
  (hto : AppTo s x 5 1 (byteEls acc) ids gone) (harg : AppArg s y 1 (byteEls new) ids2) (h : (acc ++ new).length ≤ 100000000) (hnew : gone = [] → 0 < new.length) :
  NOp Tryz.prog (ids ++ ids2) s ⟨dst, .call { callee := .builtin .append, args := #[x, y], argTypes := #[22, 22] }, ty, pos, af, gd⟩ f ⟨.own f (acc ++ new).length, (f, some (.arr 5 1 (byteEls (acc ++ new)))) :: gone⟩ := by
 have := h_append (P := Tryz.prog) (s := s) (dst := dst) (ty := ty) (pos := pos) (af := af) (gd := gd) (x := x) (y := y) (f := f) (t := 22) (tx := 22) (k := (acc ++ new).length) rfl rfl rfl rfl rfl rfl hto harg (by simp) (by omega) (by show (acc ++ new).length * 1 ≤ _; omega) (fun h => by rw [List.length_map]; exact hnew h)
 rwa [← List.map_append] at this
structure ChO (L : List Ar) (q : Ar → Bool) (S : Nat → Prop) (n : Nat) (W : List Bool) (ch : Bool) : Prop where
 len : W.length = n
 inn : ∀ v, vW W v = true → Rch (ArR L q) S v
 bas : ∀ v, S v → vW W v = true
 fin : ch = false → W = (List.range n).map (rchB (ArR L q) S)
theorem ChO.start {L : List Ar} {q : Ar → Bool} {S : Nat → Prop} {n : Nat} {W : List Bool} {ch : Bool} (h : ChO L q S n W ch) : ChW L q S n (cnT W) 0 W false := ⟨h.len, h.inn, h.bas, .inr ⟨rfl, rfl, fun i _ hi => absurd hi (Nat.not_lt_zero _)⟩⟩
theorem ChW.out {L : List Ar} {q : Ar → Bool} {S : Nat → Prop} {n u j : Nat} {W : List Bool} {ch : Bool} (h : ChW L q S n u j W ch) (hj : j = L.length) : ChO L q S n W ch ∧ (ch = true → u < cnT W) ∧ (ch = false → u = cnT W) := by
 refine ⟨⟨h.len, h.inn, h.bas, fun e => ?_⟩, fun e => ?_, fun e => ?_⟩
 ·subst e; exact h.end_ hj
 ·rcases h.prg with g | g
  ·exact g.2
  rw [e] at g; cases g.1
 rcases h.prg with g | g
 ·rw [e] at g; cases g.1
 exact g.2.1
noncomputable def vptR (c : SG) (w : List UInt8) : Bool × Bool := if areS c w = true then (parB c w, true) else (false, false)
theorem areS_v {c : SG} {w : List UInt8} (h : areS c w = true) : validC c = true ∧ w.length = c.codes.length := by
 unfold areS at h;simp only [Bool.and_eq_true, decide_eq_true_eq] at h;exact ⟨h.2.2, h.2.1⟩
theorem iVPt_spec (c : SG) (w : List UInt8) (hw : w.length ≤ 1000000) (hc : SgL c) : ASpec Tryz.prog 20 [sgA c, aS (bstr w)] [] (Pure1 (.tup [aT (vptR c w).1, aT (vptR c w).2])) := by
 have hA := areSigns_spec c w hw hc;have hP := fun (h : areS c w = true) => isPartition_spec c w hc.a (by obtain ⟨h1, h2⟩ := areS_v h; obtain ⟨_, _, hin, _⟩ := validC_at h1; rw [h2]; exact hin)
 have hR : vptR c w = if areS c w = true then (parB c w, true) else (false, false) := rfl
 obtain ⟨b, hb⟩ := eqx (areS c w);rw [← hb] at hA hP hR;obtain ⟨R, hRR⟩ := eqx (vptR c w);rw [← hRR] at hR ⊢;obtain ⟨Q, hQ⟩ := eqx (parB c w);rw [← hQ] at hP hR;clear hb hRR hQ;refine ASpec.of Tryz.func20 rfl rfl fun C hC => ?_
 refine AC.seq (AC.region ?_);refine kD ?_;refine za ?_;refine za ?_;refine AL.nil (th_n (AC.seq (AC.seq (AC.region ?_))));refine kG ?_;refine zm ?_;refine kV en_areSigns hA ?_;refine kC ?_;refine AL.nil (th_n ?_);refine AC.condB rfl (fun h0 => ?_) (fun h0 => ?_)
 ·refine AC.seq (AC.region ?_);refine za ?_;refine za ?_;refine AL.nil (th_n (AC.ret (th_r (bq_r ?_))));have e : R = (false, false) := hR.trans (if_neg (by simpa using ‹(!b) = true›));exact ret0 rfl (by rw [e]; show AV.leads _ (.tup [aT false, aT false]) _; repeat (first | exact DLead.same | exact rfl | refine ⟨_, rfl, ?_⟩ | refine ⟨_, _, rfl, ?_, ?_⟩))
 refine AC.skip (th_n (AC.seq ?_));have hb1 : b = true := by simpa using ‹(!b) = false›
 have hP1 := hP hb1;refine AC.region ?_;refine kG ?_;refine zm ?_;refine kV en_isPartition hP1 ?_;refine za ?_;refine za ?_;refine AL.nil (th_n (AC.ret (bq_r ?_)));have e : R = (Q, true) := hR.trans (if_pos hb1);exact ret0 rfl (by rw [e]; repeat (first | exact DLead.same | exact rfl | refine ⟨_, rfl, ?_⟩ | refine ⟨_, _, rfl, ?_, ?_⟩))
theorem en_iVPt : Enters Tryz.prog 20 := enters_of Tryz.func20 rfl rfl
def bitK (c : SG) (g : Nat) (k : Nat) : UInt8 := (cAtS c k).getD g 0
def stP (c : SG) (g : Nat) (u : Bool) (k : Nat) : Bool := decide (bitK c g k = bitLb u) && !excB c (k : Int) (g : Int)
def stL (c : SG) (g : Nat) (u : Bool) (j : Nat) : List Int := nI ((List.range j).filter (stP c g u))
theorem stL_succ (c : SG) (g : Nat) (u : Bool) (j : Nat) : stL c g u (j + 1) = stL c g u j ++ (if stP c g u j = true then [(j : Int)] else []) := by
 unfold stL nI;rw [List.range_succ, List.filter_append, List.map_append];congr 1;cases h : stP c g u j <;> simp [h]
theorem stL_len (c : SG) (g : Nat) (u : Bool) (j : Nat) : (stL c g u j).length ≤ j := by
 unfold stL;rw [nI_len];have := List.length_filter_le (stP c g u) (List.range j)
 rwa [List.length_range] at this
set_option maxHeartbeats 4000000 in
theorem stableI_spec (c : SG) (g : Nat) (u : Bool) (hl : c.arcs.length ≤ 1000000) (hn : c.codes.length ≤ 100000) (hg : ∀ k, k < c.codes.length → g < (cAtS c k).length) : ASpec Tryz.prog 63 [sgA c, aI g, aT u] [] (Pure1 (.d (vI (stL c g u c.codes.length)))) := by
 have hE := fun k => isExc_spec c k (g : Int) hl
 have hS := stL_succ c g u;have hSl := stL_len c g u;have hS0 : stL c g u 0 = [] := rfl;have hP : ∀ k : Nat, stP c g u k = (decide (bitK c g k = bitLb u) && !excB c (k : Int) (g : Int)) := fun _ => rfl
 obtain ⟨A, hA⟩ := eqx (stL c g u);rw [← hA] at hS hSl hS0 ⊢;clear hA;have hBt := iBit_spec u;refine ASpec.of Tryz.func63 rfl rfl fun C hC => ?_
 refine AC.seq (AC.region ?_);refine kD ?_;refine za ?_;refine AL.nil (th_n (AC.seq (AC.region ?_)));refine AL.q (by exact h_lit rfl rfl rfl rfl rfl rfl rfl rfl) rfl ?_;refine AL.p (by exact as2 rfl) rfl ?_;refine AL.nil (th_n (AC.seq (AC.seq (AC.region ?_))));refine zf ?_;refine zr ?_;refine kI c.codes.length (tsX_len _) ?_;refine zm ?_;refine AL.nil (th_n (AC.block ?_));refine AC.loop (ι := Nat) (fun k => ⟨38, 300, [(1, aI g), (2, aT u), (3, .d (.ref (sgD c))), (7, .own 100 (A k).length), (12, .d (.view 9 1 (tsX c.codes))), (13, aI c.codes.length), (14, aI k)], [(100, some (.arr 3 1 (ints (A k))))]⟩) (fun k => k ≤ c.codes.length) (fun k => c.codes.length - k) (0) ?_ (Nat.zero_le _) ?_
 ·exact zw [(100, _)] hC (by rw [hS0]; repeat (first | exact True.intro | refine And.intro ?_ ?_ | exact DLead.same | exact rfl | refine ⟨_, rfl, ?_⟩)) (by rw [hS0]; repeat (first | exact True.intro | refine And.intro ?_ ?_ | exact rfl | refine ⟨_, _, rfl, rfl, ?_⟩))
 intro k hk;refine AC.seq (AC.region ?_);refine zc ?_;refine AL.nil (th_n (AC.seq ?_));refine AC.condD rfl (fun h0 => ?_) (fun h0 => ?_)
 ·refine AC.skip (th_n (AC.seq (AC.block (AC.seq ?_))));have hk1 : k < c.codes.length := by omega
  have hget := cAtS_get hk1;have hgi := bstr_getD (hg k hk1);have hEk := hE (k : Int);have hSk := hS k;have hSlk := hSl k;have hPk := hP k;rw [show (cAtS c k).getD g 0 = bitK c g k from rfl] at hgi;obtain ⟨w, hw⟩ := eqx (cAtS c k);rw [← hw] at hget hgi;have z1 := u8_dec (bitK c g k) (bitLb u);obtain ⟨y, hy⟩ := eqx (bitK c g k);rw [← hy] at hgi hPk z1;obtain ⟨b, hb⟩ := eqx (excB c (k : Int) (g : Int));rw [← hb] at hEk hPk;obtain ⟨e, he⟩ := eqx (decide (y = bitLb u));rw [← he] at hPk z1;obtain ⟨v, hv⟩ := eqx (bitLb u);rw [← hv] at hBt z1;rw [hPk] at hSk;obtain ⟨T, hT⟩ := eqx (A k);rw [← hT] at hSk hSlk ⊢;clear hw hy hb he hv hT hPk;refine AC.region ?_;refine zm ?_;refine AL.p (by exact g_ia_view (i := k) rfl rfl rfl rfl rfl rfl hget) rfl ?_;refine zr ?_;refine za ?_;refine za ?_;refine AL.nil (th_n (AC.seq ?_));refine AC.drawn' mixed_ok [[], [], [0,1], [], [3], [0,1,2,3,4], [0,1,2,3,4,5], [0,1,2,3,4,5,6], [0,1,2,3,4,5,6], [0,1,2,3,4,5,6], [0,1,2,3,4,5,6,7,8,9], [0,1,2,3,4,5,6,7,8,9,10], [0,1,2,3,4,5,6,7,8,9,10,11]] (by decide) ?_;refine zd 0 [] 13 (by exact mv1 rfl) ?_;refine zd 1 [] 13 (by exact mv1 rfl) ?_;refine zd 2 [0,1] 13 (by exact g_index (i := g) rfl rfl rfl rfl hgi) ?_;refine zd 3 [] 13 (by exact mv1 rfl) ?_;refine zh 4 [3] 13 (by exact h_pure en_iBit rfl rfl (by repeat (first | exact rfl | exact DLead.same | refine ⟨_, _, rfl, ?_, ?_⟩)) hBt rfl) ?_;refine zd 5 [0,1,2,3,4] 13 (by exact g_cmp (r := e) rfl rfl (congrArg some z1)) ?_;refine zd 6 [0,1,2,3,4,5] 13 (by exact mv1 rfl) ?_;refine DF.caseB 6 rfl (fun h1 => ?_) (fun h1 => ?_)
  ·refine ze 7 [0,1,2,3,4,5,6] 13 (by exact g_load_refN rfl rfl rfl rfl) ?_;refine ze 8 [0,1,2,3,4,5,6] 13 (by exact mv1 rfl) ?_;refine ze 9 [0,1,2,3,4,5,6] 13 (by exact mv1 rfl) ?_;refine zi 10 (List.range 10) 13 (by exact h_pure en_isExc rfl rfl (by repeat (first | exact rfl | exact DLead.same | refine ⟨_, _, rfl, ?_, ?_⟩ | refine ⟨_, rfl, ?_⟩)) hEk rfl) ?_;refine ze 11 (List.range 11) 13 (by exact g_not rfl) ?_;refine zd 12 (List.range 12) 13 (by exact g_pickT (r := .d _) rfl rfl) ?_;refine zj 13 ?_;refine th_n ?_;refine AC.condB rfl (fun h2 => ?_) (fun h2 => ?_)
   ·refine AC.region ?_;refine kB ?_;refine zm ?_;refine AL.q (by exact h_litF rfl rfl rfl rfl rfl rfl rfl rfl) rfl ?_;refine AL.q (by exact h_appendI T [(k : Int)] (.own rfl rfl (ints_len _).symm) (.view rfl) (by rw [List.length_append]; simp only [List.length_cons, List.length_nil]; omega) (by simp)) rfl ?_;refine AL.p (by exact as2 rfl) rfl ?_;refine AL.nil (ib_n (th_n (AC.region ?_)));refine zA ?_;refine zm ?_;refine AL.nil (th_n ?_)
    (have q1 := ‹e = true›; have q2 := ‹(!b) = true›; rw [q1, q2, if_pos (by rfl)] at hSk; exact ⟨k + 1, by omega, by omega, zw [(100, _)] hC (by rw [hSk]; repeat (first | exact True.intro | refine And.intro ?_ ?_ | exact DLead.same | exact rfl | refine ⟨_, rfl, ?_⟩)) (by rw [hSk]; repeat (first | exact True.intro | refine And.intro ?_ ?_ | exact rfl | refine ⟨_, _, rfl, rfl, ?_⟩))⟩)
   refine AC.skip (ib_n (th_n (AC.region ?_)));refine zA ?_;refine zm ?_;refine AL.nil (th_n ?_)
   (have q1 : (e && !b) = false := (by (rw [‹(!b) = false›, Bool.and_false])); rw [q1, if_neg (by decide), List.append_nil] at hSk; exact ⟨k + 1, by omega, by omega, zw [(100, 100)] hC (by rw [hSk]; repeat (first | exact True.intro | refine And.intro ?_ ?_ | exact DLead.same | exact rfl | refine ⟨_, rfl, ?_⟩)) (by rw [hSk]; repeat (first | exact True.intro | refine And.intro ?_ ?_ | exact rfl | refine ⟨_, _, rfl, rfl, ?_⟩))⟩)
  refine zg 7 [0,1,2,3,4,5,6] 13 ?_;refine zg 8 [0,1,2,3,4,5,6] 13 ?_;refine zg 9 [0,1,2,3,4,5,6] 13 ?_;refine zg 10 (List.range 10) 13 ?_;refine zg 11 (List.range 11) 13 ?_;refine zd 12 (List.range 12) 13 (by exact g_pickF (r := .d _) rfl rfl) ?_;refine zj 13 ?_;refine th_n ?_;refine AC.condF rfl ?_;refine AC.skip (ib_n (th_n (AC.region ?_)));refine zA ?_;refine zm ?_;refine AL.nil (th_n ?_)
  (have q1 : (e && !b) = false := (by (rw [‹e = false›]; rfl)); rw [q1, if_neg (by decide), List.append_nil] at hSk; exact ⟨k + 1, by omega, by omega, zw [(100, 100)] hC (by rw [hSk]; repeat (first | exact True.intro | refine And.intro ?_ ?_ | exact DLead.same | exact rfl | refine ⟨_, rfl, ?_⟩)) (by rw [hSk]; repeat (first | exact True.intro | refine And.intro ?_ ?_ | exact rfl | refine ⟨_, _, rfl, rfl, ?_⟩))⟩)
 refine AC.exit (th_e (th_e (ib_y (th_n (AC.seq (AC.region ?_))))));refine kB ?_;refine AL.p (by exact as2 rfl) rfl ?_;refine AL.nil (th_n ?_);have hkk : k = c.codes.length := by omega
 rw [hkk];refine AC.weak (Weak.freeze (i := 6) rfl rfl (Nat.le_of_eq (ints_len _).symm) (List.take_of_length_le (Nat.le_of_eq (ints_len _)))) ?_;refine AC.ret (bq_r ?_);exact ret1 rfl rfl
theorem en_stableI : Enters Tryz.prog 63 := enters_of Tryz.func63 rfl rfl
noncomputable def exR (c : SG) (g : Int) (u : Bool) : List Int × Bool := if sigQ c g = true then (exFL c ⟨g, u⟩, true) else ([], false)
noncomputable def swR (c : SG) (g : Int) (u : Bool) : List Int × Bool := if sigQ c g = true then (swL c ⟨g, u⟩, true) else ([], false)
noncomputable def stR (c : SG) (g : Int) (u : Bool) : List Int × Bool := if sigQ c g = true then (stL c g.toNat u c.codes.length, true) else ([], false)
noncomputable def exCR (c : SG) (g : Int) (u : Bool) : List (List Int) × Bool := if sigQ c g = true then (grpL c.arcs (exFL c ⟨g, u⟩) c.codes.length, true) else ([], false)
theorem sigQ_of {c : SG} {g : Int} (h : sigQ c g = true) : validC c = true ∧ 0 ≤ g ∧ g < c.sigs.length := by
 unfold sigQ at h;simp only [Bool.and_eq_true, decide_eq_true_eq] at h;exact ⟨h.1, h.2.1, by omega⟩
theorem code_in {c : SG} (h : validC c = true) {g : Nat} (hg : g < c.sigs.length) (k : Nat) (hk : k < c.codes.length) : g < (cAtS c k).length := by rw [validC_code h hk]; exact hg
theorem exFL_in {c : SG} (hv : validC c = true) (x : Lab) : srtd (exFL c x) ∧ ∀ t, t ∈ exFL c x → 0 ≤ t ∧ t < c.codes.length := by
 obtain ⟨_, _, hin, _⟩ := validC_at hv;refine ⟨(setP_srtd _).1, fun t ht => ?_⟩;obtain ⟨a, h1, _, rfl⟩ := exFL_mem.1 ht;have := hin a h1;unfold ArIn at this;exact this.1
theorem iExS_spec (c : SG) (g : Int) (u : Bool) (hc : SgL c) : ASpec Tryz.prog 8 [sgA c, aI g, aT u] [] (Pure1 (.tup [.d (vI (exR c g u).1), aT (exR c g u).2])) := by
 have hH := hasSignal_spec c g hc;have hE := excitedI_spec c ⟨g, u⟩ hc.a;have hR : exR c g u = if sigQ c g = true then (exFL c ⟨g, u⟩, true) else ([], false) := rfl
 obtain ⟨b, e⟩ := eqx (sigQ c g);rw [← e] at hH hR;obtain ⟨R, hRR⟩ := eqx (exR c g u);rw [← hRR] at hR ⊢;obtain ⟨L, hL⟩ := eqx (exFL c ⟨g, u⟩);rw [← hL] at hE hR;clear e hRR hL;refine ASpec.of Tryz.func8 rfl rfl fun C hC => ?_
 refine AC.seq (AC.region ?_);refine kD ?_;refine za ?_;refine za ?_;refine AL.nil (th_n (AC.seq (AC.seq (AC.region ?_))));refine kG ?_;refine zm ?_;refine kV en_hasSignal hH ?_;refine kC ?_;refine AL.nil (th_n ?_);refine AC.condB rfl (fun h0 => ?_) (fun h0 => ?_)
 ·refine AC.seq (AC.region ?_);refine za ?_;refine za ?_;refine AL.nil (th_n (AC.ret (th_r (bq_r ?_))));have e : R = ([], false) := hR.trans (if_neg (by simpa using ‹(!b) = true›));exact ret0 rfl (by rw [e]; show AV.leads _ (.tup [.d (vI []), aT false]) _; repeat (first | exact DLead.same | exact DLead.nil | exact rfl | refine ⟨_, rfl, ?_⟩ | refine ⟨_, _, rfl, ?_, ?_⟩))
 refine AC.skip (th_n (AC.seq (AC.region ?_)));refine kG ?_;refine zm ?_;refine zm ?_;refine AL.p (by exact g_build rfl rfl rfl) rfl ?_;refine kV en_excitedI hE ?_;refine za ?_;refine za ?_;refine AL.nil (th_n (AC.ret (bq_r ?_)));have e : R = (L, true) := hR.trans (if_pos (by simpa using ‹(!b) = false›));exact ret0 rfl (by rw [e]; show AV.leads _ (.tup [.d (vI L), aT true]) _; repeat (first | exact DLead.same | exact rfl | refine ⟨_, rfl, ?_⟩ | refine ⟨_, _, rfl, ?_, ?_⟩))
theorem en_iExS : Enters Tryz.prog 8 := enters_of Tryz.func8 rfl rfl
theorem iSwS_spec (c : SG) (g : Int) (u : Bool) (hc : SgL c) : ASpec Tryz.prog 10 [sgA c, aI g, aT u] [] (Fun1 (.tup [.own 0 (swR c g u).1.length, aT (swR c g u).2]) [(0, .arr 3 1 (ints (swR c g u).1))]) := by
 have hH := hasSignal_spec c g hc;have hE := switchedI_spec c ⟨g, u⟩ hc.a;have hR : swR c g u = if sigQ c g = true then (swL c ⟨g, u⟩, true) else ([], false) := rfl
 obtain ⟨b, e⟩ := eqx (sigQ c g);rw [← e] at hH hR;obtain ⟨R, hRR⟩ := eqx (swR c g u);rw [← hRR] at hR ⊢;obtain ⟨L, hL⟩ := eqx (swL c ⟨g, u⟩);rw [← hL] at hE hR;clear e hRR hL;refine ASpec.of Tryz.func10 rfl rfl fun C hC => ?_
 refine AC.seq (AC.region ?_);refine kD ?_;refine za ?_;refine za ?_;refine AL.nil (th_n (AC.seq (AC.seq (AC.region ?_))));refine kG ?_;refine zm ?_;refine kV en_hasSignal hH ?_;refine kC ?_;refine AL.nil (th_n ?_);refine AC.condB rfl (fun h0 => ?_) (fun h0 => ?_)
 ·refine AC.seq (AC.region ?_);refine za ?_;refine za ?_;refine AL.nil (th_n ?_);have e : R = ([], false) := hR.trans (if_neg (by simpa using ‹(!b) = true›));refine AC.weak (Weak.nilOwn (i := 6) (e := 3) (sz := 1) rfl (by decide)) ?_;refine AC.ret (th_r (bq_r ?_));exact retN [(0, _)] rfl (by rw [e]; repeat (first | exact rfl | exact DLead.same | refine ⟨_, _, rfl, ?_, ?_⟩ | refine ⟨_, rfl, ?_⟩)) (by rw [e]; repeat (first | exact True.intro | refine And.intro ?_ ?_ | exact rfl | refine ⟨_, _, rfl, rfl, ?_⟩)) rfl rfl
 refine AC.skip (th_n (AC.seq (AC.region ?_)));refine kG ?_;refine zm ?_;refine zm ?_;refine AL.p (by exact g_build rfl rfl rfl) rfl ?_;refine kU [] en_switchedI hE ?_;refine AL.p (by exact as2 rfl) rfl ?_;refine za ?_;refine AL.nil (th_n (AC.ret (bq_r ?_)));have e : R = (L, true) := hR.trans (if_pos (by simpa using ‹(!b) = false›));exact retN [(0, _)] rfl (by rw [e]; repeat (first | exact rfl | exact DLead.same | refine ⟨_, _, rfl, ?_, ?_⟩ | refine ⟨_, rfl, ?_⟩)) (by rw [e]; repeat (first | exact True.intro | refine And.intro ?_ ?_ | exact rfl | refine ⟨_, _, rfl, rfl, ?_⟩)) rfl rfl
theorem en_iSwS : Enters Tryz.prog 10 := enters_of Tryz.func10 rfl rfl
theorem iStS_spec (c : SG) (g : Int) (u : Bool) (hc : SgL c) : ASpec Tryz.prog 12 [sgA c, aI g, aT u] [] (Pure1 (.tup [.d (vI (stR c g u).1), aT (stR c g u).2])) := by
 have hH := hasSignal_spec c g hc;have hE := fun (h : sigQ c g = true) => stableI_spec c g.toNat u hc.a hc.n (fun k hk => code_in (sigQ_of h).1 (by have := (sigQ_of h).2; omega) k hk)
 have hI : sigQ c g = true → ((g.toNat : Nat) : Int) = g := fun h => Int.toNat_of_nonneg (sigQ_of h).2.1
 have hR : stR c g u = if sigQ c g = true then (stL c g.toNat u c.codes.length, true) else ([], false) := rfl
 obtain ⟨b, e⟩ := eqx (sigQ c g);rw [← e] at hH hR hE hI;obtain ⟨R, hRR⟩ := eqx (stR c g u);rw [← hRR] at hR ⊢;obtain ⟨L, hL⟩ := eqx (stL c g.toNat u c.codes.length);rw [← hL] at hE hR;clear e hRR hL;refine ASpec.of Tryz.func12 rfl rfl fun C hC => ?_
 refine AC.seq (AC.region ?_);refine kD ?_;refine za ?_;refine za ?_;refine AL.nil (th_n (AC.seq (AC.seq (AC.region ?_))));refine kG ?_;refine zm ?_;refine kV en_hasSignal hH ?_;refine kC ?_;refine AL.nil (th_n ?_);refine AC.condB rfl (fun h0 => ?_) (fun h0 => ?_)
 ·refine AC.seq (AC.region ?_);refine za ?_;refine za ?_;refine AL.nil (th_n (AC.ret (th_r (bq_r ?_))));have e : R = ([], false) := hR.trans (if_neg (by simpa using ‹(!b) = true›));exact ret0 rfl (by rw [e]; show AV.leads _ (.tup [.d (vI []), aT false]) _; repeat (first | exact DLead.same | exact DLead.nil | exact rfl | refine ⟨_, rfl, ?_⟩ | refine ⟨_, _, rfl, ?_, ?_⟩))
 refine AC.skip (th_n (AC.seq ?_));have hb1 : b = true := by simpa using ‹(!b) = false›
 have hE1 := hE hb1;rw [hI hb1] at hE1;refine AC.region ?_;refine kG ?_;refine zm ?_;refine zm ?_;refine kV en_stableI hE1 ?_;refine za ?_;refine za ?_;refine AL.nil (th_n (AC.ret (bq_r ?_)));have e : R = (L, true) := hR.trans (if_pos hb1);exact ret0 rfl (by rw [e]; show AV.leads _ (.tup [.d (vI L), aT true]) _; repeat (first | exact DLead.same | exact rfl | refine ⟨_, rfl, ?_⟩ | refine ⟨_, _, rfl, ?_, ?_⟩))
theorem en_iStS : Enters Tryz.prog 12 := enters_of Tryz.func12 rfl rfl
theorem iExC_spec (c : SG) (g : Int) (u : Bool) (hc : SgL c) : ASpec Tryz.prog 14 [sgA c, aI g, aT u] [] (Pure1 (.tup [.d (vIs (exCR c g u).1), aT (exCR c g u).2])) := by
 have hH := hasSignal_spec c g hc;have hE := excitedI_spec c ⟨g, u⟩ hc.a
 have hK := fun (h : sigQ c g = true) => by
  have hv := (sigQ_of h).1;obtain ⟨hn, hal, hin, _⟩ := validC_at hv;obtain ⟨h1, h2⟩ := exFL_in hv ⟨g, u⟩;exact components_spec c (exFL c ⟨g, u⟩) c.codes.length (by omega) hal hin h1 h2 (by have := exFL_len c ⟨g, u⟩; omega)
 have hR : exCR c g u = if sigQ c g = true then (grpL c.arcs (exFL c ⟨g, u⟩) c.codes.length, true) else ([], false) := rfl
 obtain ⟨b, e⟩ := eqx (sigQ c g);rw [← e] at hH hR hK;obtain ⟨R, hRR⟩ := eqx (exCR c g u);rw [← hRR] at hR ⊢;obtain ⟨L, hL⟩ := eqx (exFL c ⟨g, u⟩);rw [← hL] at hE hR hK;obtain ⟨G, hG⟩ := eqx (grpL c.arcs L c.codes.length);rw [← hG] at hR hK;clear e hRR hL hG;refine ASpec.of Tryz.func14 rfl rfl fun C hC => ?_
 refine AC.seq (AC.region ?_);refine kD ?_;refine za ?_;refine za ?_;refine AL.nil (th_n (AC.seq (AC.seq (AC.region ?_))));refine kG ?_;refine zm ?_;refine kV en_hasSignal hH ?_;refine kC ?_;refine AL.nil (th_n ?_);refine AC.condB rfl (fun h0 => ?_) (fun h0 => ?_)
 ·refine AC.seq (AC.region ?_);refine za ?_;refine za ?_;refine AL.nil (th_n (AC.ret (th_r (bq_r ?_))));have e : R = ([], false) := hR.trans (if_neg (by simpa using ‹(!b) = true›));exact ret0 rfl (by rw [e]; show AV.leads _ (.tup [.d (vIs []), aT false]) _; repeat (first | exact DLead.same | exact DLead.nil | exact rfl | refine ⟨_, rfl, ?_⟩ | refine ⟨_, _, rfl, ?_, ?_⟩))
 refine AC.skip (th_n (AC.seq ?_));have hb1 : b = true := by simpa using ‹(!b) = false›
 have hK1 := hK hb1;refine AC.drawn' mixed_ok [[], [], [], [], [2,3], [1,2,3,4], [0,1,2,3,4,5], [0,1,2,3,4,5,6], [0,1,2,3,4,5,6,7]] (by decide) ?_;refine zd 0 [] 9 (by exact g_load_refN rfl rfl rfl rfl) ?_;refine zd 1 [] 9 (by exact g_load_refN rfl rfl rfl rfl) ?_;refine zd 2 [] 9 (by exact mv1 rfl) ?_;refine zd 3 [] 9 (by exact mv1 rfl) ?_;refine zd 4 [2,3] 9 (by exact g_build rfl rfl rfl) ?_;refine zh 5 [1,2,3,4] 9 (by exact h_pure en_excitedI rfl rfl (by repeat (first | exact rfl | exact DLead.same | refine ⟨_, _, rfl, ?_, ?_⟩ | refine ⟨_, rfl, ?_⟩)) hE rfl) ?_;refine zh 6 [0,1,2,3,4,5] 9 (by exact h_pure en_components rfl rfl (by repeat (first | exact rfl | exact DLead.same | refine ⟨_, _, rfl, ?_, ?_⟩ | refine ⟨_, rfl, ?_⟩)) hK1 rfl) ?_;refine zd 7 [0,1,2,3,4,5,6] 9 (by exact as1 rfl) ?_;refine zd 8 [0,1,2,3,4,5,6,7] 9 (by exact as1 rfl) ?_;refine zj 9 ?_;refine th_n (AC.ret (bq_r ?_));have e : R = (G, true) := hR.trans (if_pos hb1);exact ret0 rfl (by rw [e]; show AV.leads _ (.tup [.d (vIs G), aT true]) _; repeat (first | exact DLead.same | exact rfl | refine ⟨_, rfl, ?_⟩ | refine ⟨_, _, rfl, ?_, ?_⟩))
theorem en_iExC : Enters Tryz.prog 14 := enters_of Tryz.func14 rfl rfl
theorem l10Is_spec (a : Ar) (g : Int) (u : Bool) : ASpec Tryz.prog 61 [arA a, aI g, aT u] [] (Pure1 (aT (isLb ⟨g, u⟩ a))) := by
 have hR : isLb ⟨g, u⟩ a = (decide (a.sig = g) && (a.up == u)) := by unfold isLb; dsimp only; cases a.up <;> cases u <;> rfl
 rw [hR];obtain ⟨b, hb⟩ := eqx ((a.up == u));refine ASpec.of Tryz.func61 rfl rfl fun C hC => ?_
 refine AC.seq (AC.region ?_);refine kD ?_;refine za ?_;refine AL.nil (th_n (AC.seq (AC.region ?_)));refine zf ?_;refine zr ?_;refine zm ?_;refine zc ?_;refine zm ?_;refine AL.caseG rfl rfl (fun h0 => ?_) (fun h0 => ?_)
 ·refine zy ?_;refine zf ?_;refine zy ?_;refine zr ?_;refine zy ?_;refine zm ?_;refine zy ?_;refine AL.p (by exact g_eqB rfl rfl rfl) rfl ?_;refine zQ ?_;refine za ?_;refine AL.nil (th_n (AC.ret (bq_r ?_)))
  (have q := ‹a.sig = g›; exact ret1 rfl (by rw [decide_eq_true q]; rfl))
 refine zn ?_;refine zn ?_;refine zn ?_;refine zn ?_;refine zP ?_;refine za ?_;refine AL.nil (th_n (AC.ret (bq_r ?_)))
 (have q := ‹¬ a.sig = g›; exact ret1 rfl (by rw [decide_eq_false q]; rfl))
theorem en_l10Is : Enters Tryz.prog 61 := enters_of Tryz.func61 rfl rfl
theorem hasI_dec (l : List Int) (n : Int) : hasI l n = sdB l n := by
 unfold hasI sdB;rw [Bool.eq_iff_iff, List.any_eq_true, decide_eq_true_eq];exact ⟨fun ⟨x, h1, h2⟩ => by rw [← of_decide_eq_true h2]; exact h1, fun h => ⟨_, h, decide_eq_true rfl⟩⟩
def tgP (c : SG) (x : Lab) (j : Nat) : List Int := setP (swT c x j)
theorem tgP_succ {c : SG} {x : Lab} {j : Nat} (hj : j < c.arcs.length) : tgP c x (j + 1) = if isLb x c.arcs[j] = true then putI (tgP c x j) c.arcs[j].to_ else tgP c x j := by
 unfold tgP;rw [swT_succ hj]
 split
 ·unfold setP; rw [List.foldl_append]; rfl
 rw [List.append_nil]
theorem putF_len : ∀ (l a : List Int), (l.foldl putI a).length ≤ a.length + l.length
 | [], a => by simp
 | x :: l, a => by
  have := putF_len l (putI a x);have := putI_len a x;rw [List.foldl_cons, List.length_cons];omega
theorem tgP_len (c : SG) (x : Lab) (j : Nat) : (tgP c x j).length ≤ j := by
 have h1 := putF_len (swT c x j) [];have h2 := swT_len c x j;unfold tgP setP;simp only [List.length_nil, Nat.zero_add] at h1;omega
def sgnB (v e : Bool) : UInt8 := if e then (if v then 45 else 43) else (if v then 49 else 48)
def sgnT (c : SG) (g : Nat) (j : Nat) : List UInt8 := (List.range j).map fun (k : Nat) => sgnB (decide (bitK c g k = 49)) (excB c (k : Int) (g : Int))
theorem sgnT_len (c : SG) (g j : Nat) : (sgnT c g j).length = j := by unfold sgnT; simp
theorem sgnT_succ (c : SG) (g j : Nat) : sgnT c g (j + 1) = sgnT c g j ++ [sgnB (decide (bitK c g j = 49)) (excB c (j : Int) (g : Int))] := by unfold sgnT; rw [List.range_succ, List.map_append]; rfl
noncomputable def sgR (c : SG) (g : Int) : List UInt8 × Bool := if sigQ c g = true then (sgnT c g.toNat c.codes.length, true) else ([], false)
set_option maxHeartbeats 8000000 in
theorem iSgP_spec (c : SG) (g : Int) (hc : SgL c) : ASpec Tryz.prog 16 [sgA c, aI g] [] (Pure1 (.tup [aS (bstr (sgR c g).1), aT (sgR c g).2])) := by
 have hH := hasSignal_spec c g hc;have hE := fun k => isExc_spec c k g hc.a
 have hQ := @sigQ_of c g;have hCd := fun (h : validC c = true) g hg k hk => code_in (c := c) h (g := g) hg k hk
 have hR : sgR c g = if sigQ c g = true then (sgnT c g.toNat c.codes.length, true) else ([], false) := rfl
 obtain ⟨b0, e⟩ := eqx (sigQ c g);rw [← e] at hH hR hQ;obtain ⟨R, hRR⟩ := eqx (sgR c g);rw [← hRR] at hR ⊢;have hn := hc.n;clear e hRR;refine ASpec.of Tryz.func16 rfl rfl fun C hC => ?_
 refine AC.seq (AC.region ?_);refine kD ?_;refine za ?_;refine za ?_;refine AL.nil (th_n (AC.seq (AC.seq (AC.region ?_))));refine kG ?_;refine zm ?_;refine kV en_hasSignal hH ?_;refine kC ?_;refine AL.nil (th_n ?_);refine AC.condB rfl (fun h0 => ?_) (fun h0 => ?_)
 ·refine AC.seq (AC.region ?_);refine za ?_;refine za ?_;refine AL.nil (th_n (AC.ret (th_r (bq_r ?_))));have e : R = ([], false) := hR.trans (if_neg (by simpa using ‹(!b0) = true›));exact ret0 rfl (by rw [e]; show AV.leads _ (.tup [aS ⟨#[]⟩, aT false]) _; repeat (first | exact DLead.same | exact rfl | refine ⟨_, rfl, ?_⟩ | refine ⟨_, _, rfl, ?_, ?_⟩))
 refine AC.skip (th_n (AC.seq ?_));have hb1 : b0 = true := by simpa using ‹(!b0) = false›
 obtain ⟨hv, hg0, hg1⟩ := hQ hb1;obtain ⟨q, hq⟩ : ∃ q : Nat, g = (q : Int) := ⟨g.toNat, by omega⟩;subst hq;rw [if_pos hb1, Int.toNat_natCast] at hR;have hCk := hCd hv q (by omega);have hS := sgnT_succ c q;have hSl := sgnT_len c q;have hS0 : sgnT c q 0 = [] := rfl;obtain ⟨A, hA⟩ := eqx (sgnT c q);rw [← hA] at hS hSl hS0 hR;clear hA hQ hCd;refine AC.region ?_;refine AL.q (by exact h_lit rfl rfl rfl rfl rfl rfl rfl rfl) rfl ?_;refine AL.p (by exact as2 rfl) rfl ?_;refine AL.nil (th_n (AC.seq (AC.seq (AC.region ?_))));refine zf ?_;refine zr ?_;refine kI c.codes.length (tsX_len _) ?_;refine zm ?_;refine AL.nil (th_n (AC.block ?_));refine AC.loop (ι := Nat) (fun k => ⟨41, 300, [(1, aI q), (2, .d (.ref (sgD c))), (6, .own 100 (A k).length), (16, .d (.view 9 1 (tsX c.codes))), (17, aI c.codes.length), (18, aI k)], [(100, some (.arr 5 1 (byteEls (A k))))]⟩) (fun k => k ≤ c.codes.length) (fun k => c.codes.length - k) (0) ?_ (Nat.zero_le _) ?_
 ·exact zw [(100, _)] hC (by rw [hS0]; repeat (first | exact True.intro | refine And.intro ?_ ?_ | exact DLead.same | exact rfl | refine ⟨_, rfl, ?_⟩)) (by rw [hS0]; repeat (first | exact True.intro | refine And.intro ?_ ?_ | exact rfl | refine ⟨_, _, rfl, rfl, ?_⟩))
 intro k hk;refine AC.seq (AC.region ?_);refine zc ?_;refine AL.nil (th_n (AC.seq ?_));refine AC.condD rfl (fun h1 => ?_) (fun h1 => ?_)
 ·refine AC.skip (th_n (AC.seq (AC.block (AC.seq ?_))));have hk1 : k < c.codes.length := by omega
  have hget := cAtS_get hk1;have hgi := bstr_getD (hCk k hk1);have hEk := hE (k : Int);have hSk := hS k;have hSlk := hSl k;rw [show (cAtS c k).getD q 0 = bitK c q k from rfl] at hgi;obtain ⟨w, hw⟩ := eqx (cAtS c k);rw [← hw] at hget hgi;have z1 : decide (((bitK c q k).toNat : Int) = 49) = decide (bitK c q k = 49) := u8_dec _ 49;obtain ⟨y, hy⟩ := eqx (bitK c q k);rw [← hy] at hgi hSk z1;obtain ⟨b, hb⟩ := eqx (excB c (k : Int) (q : Int));rw [← hb] at hEk hSk;obtain ⟨e, he⟩ := eqx (decide (y = 49));rw [← he] at hSk z1;obtain ⟨T, hT⟩ := eqx (A k);rw [← hT] at hSk hSlk ⊢;clear hw hy hb he hT;refine AC.region ?_;refine zm ?_;refine AL.p (by exact g_ia_view (i := k) rfl rfl rfl rfl rfl rfl hget) rfl ?_;refine zr ?_;refine za ?_;refine za ?_;refine AL.nil (th_n (AC.seq (AC.region ?_)));refine za ?_;refine AL.nil (th_n (AC.seq (AC.seq (AC.region ?_))));refine zm ?_;refine zm ?_;refine AL.p (by exact g_index (i := q) rfl rfl rfl rfl hgi) rfl ?_;refine AL.p (by exact g_cmp (r := e) rfl rfl (congrArg some z1)) rfl ?_;refine AL.nil (th_n ?_);refine AC.condB rfl (fun h2 => ?_) (fun h2 => ?_)
  ·refine AC.region ?_;refine za ?_;refine AL.nil (th_n (AC.seq (AC.seq (AC.region ?_))));refine kG ?_;refine zm ?_;refine zm ?_;refine kV en_isExc hEk ?_;refine AL.nil (th_n ?_);refine AC.condB rfl (fun h3 => ?_) (fun h3 => ?_)
   ·refine AC.region ?_;refine zm ?_;refine zA ?_;refine za ?_;refine AL.nil (th_n (AC.region ?_));refine kB ?_;refine zm ?_
    (have q1 := ‹e = true›; have q2 := ‹b = true›; refine AL.p (by exact g_index (i := 3) (b := 45) rfl rfl rfl rfl rfl) rfl ?_)
    refine AL.q (by exact h_litF rfl rfl rfl rfl rfl rfl rfl rfl) rfl ?_
    (have q1 := ‹e = true›; have q2 := ‹b = true›; refine AL.q (by exact h_appendBz T [45] (.own rfl rfl (List.length_map _).symm) (.view rfl) (by rw [List.length_append]; simp only [List.length_cons, List.length_nil]; omega) (by simp)) rfl ?_)
    refine AL.p (by exact as2 rfl) rfl ?_;refine AL.nil (ib_n (th_n (AC.region ?_)));refine zA ?_;refine zm ?_;refine AL.nil (th_n ?_)
    (have q1 := ‹e = true›; have q2 := ‹b = true›; rw [q1, q2, show sgnB true true = 45 from rfl] at hSk; exact ⟨k + 1, by omega, by omega, zw [(100, _)] hC (by rw [hSk]; repeat (first | exact True.intro | refine And.intro ?_ ?_ | exact DLead.same | exact rfl | refine ⟨_, rfl, ?_⟩)) (by rw [hSk]; repeat (first | exact True.intro | refine And.intro ?_ ?_ | exact rfl | refine ⟨_, _, rfl, rfl, ?_⟩))⟩)
   refine AC.skip (th_n (AC.region ?_));refine kB ?_;refine zm ?_
   (have q1 := ‹e = true›; have q2 := ‹b = false›; refine AL.p (by exact g_index (i := 2) (b := 49) rfl rfl rfl rfl rfl) rfl ?_)
   refine AL.q (by exact h_litF rfl rfl rfl rfl rfl rfl rfl rfl) rfl ?_
   (have q1 := ‹e = true›; have q2 := ‹b = false›; refine AL.q (by exact h_appendBz T [49] (.own rfl rfl (List.length_map _).symm) (.view rfl) (by rw [List.length_append]; simp only [List.length_cons, List.length_nil]; omega) (by simp)) rfl ?_)
   refine AL.p (by exact as2 rfl) rfl ?_;refine AL.nil (ib_n (th_n (AC.region ?_)));refine zA ?_;refine zm ?_;refine AL.nil (th_n ?_)
   (have q1 := ‹e = true›; have q2 := ‹b = false›; rw [q1, q2, show sgnB true false = 49 from rfl] at hSk; exact ⟨k + 1, by omega, by omega, zw [(100, _)] hC (by rw [hSk]; repeat (first | exact True.intro | refine And.intro ?_ ?_ | exact DLead.same | exact rfl | refine ⟨_, rfl, ?_⟩)) (by rw [hSk]; repeat (first | exact True.intro | refine And.intro ?_ ?_ | exact rfl | refine ⟨_, _, rfl, rfl, ?_⟩))⟩)
  refine AC.skip (th_n (AC.seq (AC.seq (AC.region ?_))));refine kG ?_;refine zm ?_;refine zm ?_;refine kV en_isExc hEk ?_;refine AL.nil (th_n ?_);refine AC.condB rfl (fun h3 => ?_) (fun h3 => ?_)
  ·refine AC.region ?_;refine zm ?_;refine zA ?_;refine za ?_;refine AL.nil (th_n (AC.region ?_));refine kB ?_;refine zm ?_
   (have q1 := ‹e = false›; have q2 := ‹b = true›; refine AL.p (by exact g_index (i := 1) (b := 43) rfl rfl rfl rfl rfl) rfl ?_)
   refine AL.q (by exact h_litF rfl rfl rfl rfl rfl rfl rfl rfl) rfl ?_
   (have q1 := ‹e = false›; have q2 := ‹b = true›; refine AL.q (by exact h_appendBz T [43] (.own rfl rfl (List.length_map _).symm) (.view rfl) (by rw [List.length_append]; simp only [List.length_cons, List.length_nil]; omega) (by simp)) rfl ?_)
   refine AL.p (by exact as2 rfl) rfl ?_;refine AL.nil (ib_n (th_n (AC.region ?_)));refine zA ?_;refine zm ?_;refine AL.nil (th_n ?_)
   (have q1 := ‹e = false›; have q2 := ‹b = true›; rw [q1, q2, show sgnB false true = 43 from rfl] at hSk; exact ⟨k + 1, by omega, by omega, zw [(100, _)] hC (by rw [hSk]; repeat (first | exact True.intro | refine And.intro ?_ ?_ | exact DLead.same | exact rfl | refine ⟨_, rfl, ?_⟩)) (by rw [hSk]; repeat (first | exact True.intro | refine And.intro ?_ ?_ | exact rfl | refine ⟨_, _, rfl, rfl, ?_⟩))⟩)
  refine AC.skip (th_n (AC.region ?_));refine kB ?_;refine zm ?_
  (have q1 := ‹e = false›; have q2 := ‹b = false›; refine AL.p (by exact g_index (i := 0) (b := 48) rfl rfl rfl rfl rfl) rfl ?_)
  refine AL.q (by exact h_litF rfl rfl rfl rfl rfl rfl rfl rfl) rfl ?_
  (have q1 := ‹e = false›; have q2 := ‹b = false›; refine AL.q (by exact h_appendBz T [48] (.own rfl rfl (List.length_map _).symm) (.view rfl) (by rw [List.length_append]; simp only [List.length_cons, List.length_nil]; omega) (by simp)) rfl ?_)
  refine AL.p (by exact as2 rfl) rfl ?_;refine AL.nil (ib_n (th_n (AC.region ?_)));refine zA ?_;refine zm ?_;refine AL.nil (th_n ?_)
  (have q1 := ‹e = false›; have q2 := ‹b = false›; rw [q1, q2, show sgnB false false = 48 from rfl] at hSk; exact ⟨k + 1, by omega, by omega, zw [(100, _)] hC (by rw [hSk]; repeat (first | exact True.intro | refine And.intro ?_ ?_ | exact DLead.same | exact rfl | refine ⟨_, rfl, ?_⟩)) (by rw [hSk]; repeat (first | exact True.intro | refine And.intro ?_ ?_ | exact rfl | refine ⟨_, _, rfl, rfl, ?_⟩))⟩)
 refine AC.exit (th_e (th_e (ib_y (th_n (AC.seq ?_)))));have hkk : k = c.codes.length := by omega
 rw [hkk];refine AC.region ?_;refine kB ?_;refine AL.p (by exact g_strOfBytes (l := A c.codes.length) rfl rfl rfl rfl rfl rfl rfl) rfl ?_;refine za ?_;refine za ?_;refine AL.nil (th_n (AC.ret (bq_r ?_)));exact ret0 rfl (by rw [hR]; show AV.leads _ (.tup [aS (bstr (A c.codes.length)), aT true]) _; repeat (first | exact DLead.same | exact rfl | refine ⟨_, rfl, ?_⟩ | refine ⟨_, _, rfl, ?_, ?_⟩))
theorem en_iSgP : Enters Tryz.prog 16 := enters_of Tryz.func16 rfl rfl
theorem l10Asked_spec (c : SG) (g : Int) (hc : SgL c) : ASpec Tryz.prog 58 [sgA c, aI g] [] (Pure1 (aT (sigQ c g))) := by
 have hV := l5Good_spec c hc;have hI := l1In_spec g 0 ((c.sigs.length : Int) - 1);have hn := hc.sg;have hR : sigQ c g = (validC c && (decide (0 ≤ g) && decide (g ≤ (c.sigs.length : Int) - 1))) := rfl;obtain ⟨b, hb⟩ := eqx (validC c);rw [← hb] at hV hR;obtain ⟨d, hd⟩ := eqx ((decide (0 ≤ g) && decide (g ≤ (c.sigs.length : Int) - 1)));rw [← hd] at hI hR;rw [hR];clear hR hb hd;refine ASpec.of Tryz.func58 rfl rfl fun C hC => ?_
 refine AC.seq (AC.region ?_);refine kD ?_;refine za ?_;refine AL.nil (th_n (AC.seq (AC.region ?_)));refine kG ?_;refine kV en_l5Good hV ?_;refine zm ?_;refine AL.caseGB rfl rfl (fun h0 => ?_) (fun h0 => ?_)
 ·refine zy ?_;refine zm ?_;refine zy ?_;refine zf ?_;refine zy ?_;refine zr ?_;refine zy ?_;refine kI c.sigs.length (List.length_map _) ?_;refine zy ?_;refine zA ?_;refine zy ?_;refine kV en_l1In hI ?_;refine zQ ?_;refine za ?_;refine AL.nil (th_n (AC.ret (bq_r ?_)))
  (have q := ‹b = true›; exact ret1 rfl (by rw [q, Bool.true_and]))
 refine zn ?_;refine zn ?_;refine zn ?_;refine zn ?_;refine zn ?_;refine zn ?_;refine zP ?_;refine za ?_;refine AL.nil (th_n (AC.ret (bq_r ?_)))
 (have q := ‹b = false›; exact ret1 rfl (by rw [q]; rfl))
theorem en_l10Asked : Enters Tryz.prog 58 := enters_of Tryz.func58 rfl rfl
def xgP (c : SG) (x : Lab) (j : Nat) : List Int := setP (exFT c x j)
theorem xgP_succ {c : SG} {x : Lab} {j : Nat} (hj : j < c.arcs.length) : xgP c x (j + 1) = if isLb x c.arcs[j] = true then putI (xgP c x j) c.arcs[j].from_ else xgP c x j := by
 unfold xgP;rw [exFT_succ hj]
 split
 ·unfold setP; rw [List.foldl_append]; rfl
 rw [List.append_nil]
theorem xgP_len (c : SG) (x : Lab) (j : Nat) : (xgP c x j).length ≤ j := Nat.le_trans (setP_len _) (exFT_len c x j)
set_option maxHeartbeats 4000000 in
theorem l10Excited_spec (c : SG) (g : Int) (u : Bool) (hl : c.arcs.length ≤ 1000000) : ASpec Tryz.prog 59 [sgA c, aI g, aT u] [] (Pure1 (.d (vI (exFL c ⟨g, u⟩)))) := by
 have hT := fun j (hj : j < c.arcs.length) => xgP_succ (x := ⟨g, u⟩) hj
 have hTl := xgP_len c ⟨g, u⟩;have ht0 : xgP c ⟨g, u⟩ 0 = [] := rfl;have hR : exFL c ⟨g, u⟩ = xgP c ⟨g, u⟩ c.arcs.length := rfl;rw [hR];obtain ⟨P, hP⟩ := eqx (xgP c ⟨g, u⟩);rw [← hP] at hT hTl ht0 ⊢;have hT : ∀ j (hj : j < c.arcs.length), P (j + 1) = if isLb ⟨g, u⟩ c.arcs[j] = true then putI (P j) c.arcs[j].from_ else P j := hT
 clear hP hR;refine ASpec.of Tryz.func59 rfl rfl fun C hC => ?_
 refine AC.seq (AC.region ?_);refine kD ?_;refine za ?_;refine AL.nil (th_n (AC.seq (AC.region ?_)));refine za ?_;refine AL.nil (th_n (AC.seq (AC.seq (AC.region ?_))));refine zf ?_;refine zr ?_;refine kI c.arcs.length (arL_len _) ?_;refine zm ?_;refine AL.nil (th_n (AC.block ?_));refine AC.loop (ι := Nat) (fun j => ⟨27, 300, [(1, aI g), (2, aT u), (7, .d (vI (P j))), (11, .d (vArs c.arcs)), (12, aI c.arcs.length), (13, aI j)], []⟩) (fun j => j ≤ c.arcs.length) (fun j => c.arcs.length - j) (0) ?_ (Nat.zero_le _) ?_
 ·exact Weak.ren _ [] hC rfl (by rw [ht0]; repeat (first | exact True.intro | refine And.intro ?_ ?_ | exact DLead.same | exact DLead.nil)) (by repeat (exact True.intro)) rfl rfl rfl
 intro j hj;refine AC.seq (AC.region ?_);refine zc ?_;refine AL.nil (th_n (AC.seq ?_));refine AC.condD rfl (fun h0 => ?_) (fun h0 => ?_)
 ·refine AC.skip (th_n (AC.seq (AC.block (AC.seq ?_))));have hj1 : j < c.arcs.length := by omega
  have hget := arL_get hj1;have hTj := hT j hj1;have hTlj := hTl j;obtain ⟨a, ha⟩ := eqx (c.arcs[j]);rw [← ha] at hget hTj;clear ha;have hLs := l10Is_spec a g u;obtain ⟨b, hb⟩ := eqx (isLb ⟨g, u⟩ a);rw [← hb] at hLs hTj;clear hb;obtain ⟨X, hX⟩ := eqx (P j);rw [← hX] at hTj hTlj ⊢;clear hX;refine AC.region ?_;refine AL.p (by exact g_ia_view rfl rfl rfl rfl rfl (by rfl) (by assumption)) rfl ?_;refine kG ?_;refine kE ?_;refine zs ?_;refine AL.nil (th_n (AC.seq (AC.region ?_)));refine AL.p (by exact g_load_ptrN rfl rfl rfl rfl rfl) rfl ?_;refine zm ?_;refine zm ?_;refine kV en_l10Is hLs ?_;refine AL.nil (th_n ?_);refine AC.condB rfl (fun h1 => ?_) (fun h1 => ?_)
  ·refine AC.region ?_;refine zm ?_;refine zF ?_;refine zl ?_;refine AL.q (by exact h_pure en_l1Put rfl rfl (by repeat (first | exact rfl | exact DLead.same | refine ⟨_, _, rfl, ?_, ?_⟩)) (l1Put_spec X a.from_ (by omega)) rfl) rfl ?_;refine za ?_;refine AL.nil (ib_n (th_n (AC.region ?_)));refine zA ?_;refine zm ?_;refine AL.nil (th_n ?_)
   (have q := ‹b = true›; rw [if_pos q] at hTj; exact ⟨j + 1, by omega, by omega, Weak.ren _ [] hC rfl (by rw [hTj]; repeat (first | exact True.intro | refine And.intro ?_ ?_ | exact DLead.same)) (by repeat (exact True.intro)) rfl rfl rfl⟩)
  refine AC.skip (ib_n (th_n (AC.region ?_)));refine zA ?_;refine zm ?_;refine AL.nil (th_n ?_)
  (have q := ‹b = false›; rw [if_neg (by rw [q]; decide)] at hTj; exact ⟨j + 1, by omega, by omega, Weak.ren _ [] hC rfl (by rw [hTj]; repeat (first | exact True.intro | refine And.intro ?_ ?_ | exact DLead.same)) (by repeat (exact True.intro)) rfl rfl rfl⟩)
 refine AC.exit (th_e (th_e (ib_y (th_n (AC.seq ?_)))));have hjj : j = c.arcs.length := by omega
 rw [hjj];refine AC.region ?_;refine zm ?_;refine za ?_;refine AL.nil (th_n (AC.ret (bq_r ?_)));exact ret1 rfl rfl
theorem en_l10Excited : Enters Tryz.prog 59 := enters_of Tryz.func59 rfl rfl
theorem sExS_spec (c : SG) (g : Int) (u : Bool) (hc : SgL c) : ASpec Tryz.prog 9 [sgA c, aI g, aT u] [] (Pure1 (.tup [.d (vI (exR c g u).1), aT (exR c g u).2])) := by
 have hH := l10Asked_spec c g hc;have hE := l10Excited_spec c g u hc.a;have hR : exR c g u = if sigQ c g = true then (exFL c ⟨g, u⟩, true) else ([], false) := rfl
 obtain ⟨b, e⟩ := eqx (sigQ c g);rw [← e] at hH hR;obtain ⟨R, hRR⟩ := eqx (exR c g u);rw [← hRR] at hR ⊢;obtain ⟨L, hL⟩ := eqx (exFL c ⟨g, u⟩);rw [← hL] at hE hR;clear e hRR hL;refine ASpec.of Tryz.func9 rfl rfl fun C hC => ?_
 refine AC.seq (AC.region ?_);refine kD ?_;refine za ?_;refine za ?_;refine AL.nil (th_n (AC.seq (AC.seq (AC.region ?_))));refine kG ?_;refine zm ?_;refine kV en_l10Asked hH ?_;refine kC ?_;refine AL.nil (th_n ?_);refine AC.condB rfl (fun h0 => ?_) (fun h0 => ?_)
 ·refine AC.seq (AC.region ?_);refine za ?_;refine za ?_;refine AL.nil (th_n (AC.ret (th_r (bq_r ?_))));have e : R = ([], false) := hR.trans (if_neg (by simpa using ‹(!b) = true›));exact ret0 rfl (by rw [e]; show AV.leads _ (.tup [.d (vI []), aT false]) _; repeat (first | exact DLead.same | exact DLead.nil | exact rfl | refine ⟨_, rfl, ?_⟩ | refine ⟨_, _, rfl, ?_, ?_⟩))
 refine AC.skip (th_n (AC.seq (AC.region ?_)));refine kG ?_;refine zm ?_;refine zm ?_;refine kV en_l10Excited hE ?_;refine za ?_;refine za ?_;refine AL.nil (th_n (AC.ret (bq_r ?_)));have e : R = (L, true) := hR.trans (if_pos (by simpa using ‹(!b) = false›));exact ret0 rfl (by rw [e]; show AV.leads _ (.tup [.d (vI L), aT true]) _; repeat (first | exact DLead.same | exact rfl | refine ⟨_, rfl, ?_⟩ | refine ⟨_, _, rfl, ?_, ?_⟩))
theorem en_sExS : Enters Tryz.prog 9 := enters_of Tryz.func9 rfl rfl
set_option maxHeartbeats 4000000 in
theorem sSwS_spec (c : SG) (g : Int) (u : Bool) (hc : SgL c) : ASpec Tryz.prog 11 [sgA c, aI g, aT u] [] (Pure1 (.tup [.d (vI (swR c g u).1), aT (swR c g u).2])) := by
 have hH := l10Asked_spec c g hc;have hl := hc.a;have hT := fun j (hj : j < c.arcs.length) => tgP_succ (x := ⟨g, u⟩) hj
 have hTl := tgP_len c ⟨g, u⟩;have ht0 : tgP c ⟨g, u⟩ 0 = [] := rfl;have hR : swR c g u = if sigQ c g = true then (tgP c ⟨g, u⟩ c.arcs.length, true) else ([], false) := rfl
 obtain ⟨b0, e⟩ := eqx (sigQ c g);rw [← e] at hH hR;obtain ⟨R, hRR⟩ := eqx (swR c g u);rw [← hRR] at hR ⊢;obtain ⟨P, hP⟩ := eqx (tgP c ⟨g, u⟩);rw [← hP] at hT hTl ht0 hR;have hT : ∀ j (hj : j < c.arcs.length), P (j + 1) = if isLb ⟨g, u⟩ c.arcs[j] = true then putI (P j) c.arcs[j].to_ else P j := hT
 clear hP hRR e;refine ASpec.of Tryz.func11 rfl rfl fun C hC => ?_
 refine AC.seq (AC.region ?_);refine kD ?_;refine za ?_;refine za ?_;refine AL.nil (th_n (AC.seq (AC.seq (AC.region ?_))));refine kG ?_;refine zm ?_;refine kV en_l10Asked hH ?_;refine kC ?_;refine AL.nil (th_n ?_);refine AC.condB rfl (fun h0 => ?_) (fun h0 => ?_)
 ·refine AC.seq (AC.region ?_);refine za ?_;refine za ?_;refine AL.nil (th_n (AC.ret (th_r (bq_r ?_))));have e : R = ([], false) := hR.trans (if_neg (by simpa using ‹(!b0) = true›));exact ret0 rfl (by rw [e]; show AV.leads _ (.tup [.d (vI []), aT false]) _; repeat (first | exact DLead.same | exact DLead.nil | exact rfl | refine ⟨_, rfl, ?_⟩ | refine ⟨_, _, rfl, ?_, ?_⟩))
 refine AC.skip (th_n (AC.seq (AC.region ?_)));refine za ?_;refine AL.nil (th_n (AC.seq (AC.seq (AC.region ?_))));refine zf ?_;refine zr ?_;refine kI c.arcs.length (arL_len _) ?_;refine zm ?_;refine AL.nil (th_n (AC.block ?_));refine AC.loop (ι := Nat) (fun j => ⟨32, 300, [(1, aI g), (2, aT u), (8, .d (vI (P j))), (16, .d (vArs c.arcs)), (17, aI c.arcs.length), (18, aI j)], []⟩) (fun j => j ≤ c.arcs.length) (fun j => c.arcs.length - j) (0) ?_ (Nat.zero_le _) ?_
 ·exact Weak.ren _ [] hC rfl (by rw [ht0]; repeat (first | exact True.intro | refine And.intro ?_ ?_ | exact DLead.same | exact DLead.nil)) (by repeat (exact True.intro)) rfl rfl rfl
 intro j hj;refine AC.seq (AC.region ?_);refine zc ?_;refine AL.nil (th_n (AC.seq ?_));refine AC.condD rfl (fun h1 => ?_) (fun h1 => ?_)
 ·refine AC.skip (th_n (AC.seq (AC.block (AC.seq ?_))));have hj1 : j < c.arcs.length := by omega
  have hget := arL_get hj1;have hTj := hT j hj1;have hTlj := hTl j;obtain ⟨a, ha⟩ := eqx (c.arcs[j]);rw [← ha] at hget hTj;clear ha;have hLs := l10Is_spec a g u;obtain ⟨b, hb⟩ := eqx (isLb ⟨g, u⟩ a);rw [← hb] at hLs hTj;clear hb;obtain ⟨X, hX⟩ := eqx (P j);rw [← hX] at hTj hTlj ⊢;clear hX;refine AC.region ?_;refine AL.p (by exact g_ia_view rfl rfl rfl rfl rfl (by rfl) (by assumption)) rfl ?_;refine kG ?_;refine kE ?_;refine zs ?_;refine AL.nil (th_n (AC.seq (AC.region ?_)));refine AL.p (by exact g_load_ptrN rfl rfl rfl rfl rfl) rfl ?_;refine zm ?_;refine zm ?_;refine kV en_l10Is hLs ?_;refine AL.nil (th_n ?_);refine AC.condB rfl (fun h2 => ?_) (fun h2 => ?_)
  ·refine AC.region ?_;refine zm ?_;refine zF ?_;refine zl ?_;refine AL.q (by exact h_pure en_l1Put rfl rfl (by repeat (first | exact rfl | exact DLead.same | refine ⟨_, _, rfl, ?_, ?_⟩)) (l1Put_spec X a.to_ (by omega)) rfl) rfl ?_;refine za ?_;refine AL.nil (ib_n (th_n (AC.region ?_)));refine zA ?_;refine zm ?_;refine AL.nil (th_n ?_)
   (have q := ‹b = true›; rw [if_pos q] at hTj; exact ⟨j + 1, by omega, by omega, Weak.ren _ [] hC rfl (by rw [hTj]; repeat (first | exact True.intro | refine And.intro ?_ ?_ | exact DLead.same)) (by repeat (exact True.intro)) rfl rfl rfl⟩)
  refine AC.skip (ib_n (th_n (AC.region ?_)));refine zA ?_;refine zm ?_;refine AL.nil (th_n ?_)
  (have q := ‹b = false›; rw [if_neg (by rw [q]; decide)] at hTj; exact ⟨j + 1, by omega, by omega, Weak.ren _ [] hC rfl (by rw [hTj]; repeat (first | exact True.intro | refine And.intro ?_ ?_ | exact DLead.same)) (by repeat (exact True.intro)) rfl rfl rfl⟩)
 refine AC.exit (th_e (th_e (ib_y (th_n (AC.seq ?_)))));have hjj : j = c.arcs.length := by omega
 rw [hjj];have e : R = (P c.arcs.length, true) := hR.trans (if_pos (by simpa using ‹(!b0) = false›));refine AC.region ?_;refine zm ?_;refine za ?_;refine za ?_;refine AL.nil (th_n (AC.ret (bq_r ?_)));exact ret0 rfl (by rw [e]; show AV.leads _ (.tup [.d (vI (P c.arcs.length)), aT true]) _; repeat (first | exact DLead.same | exact rfl | refine ⟨_, rfl, ?_⟩ | refine ⟨_, _, rfl, ?_, ?_⟩))
theorem en_sSwS : Enters Tryz.prog 11 := enters_of Tryz.func11 rfl rfl
def BdI (M : Int) (l : List Int) : Prop := ∀ v, 0 ≤ l.getD v 0 ∧ l.getD v 0 ≤ M
theorem BdI.set {M : Int} {l : List Int} (h : BdI M l) (i : Nat) {x : Int} (hx : 0 ≤ x ∧ x ≤ M) : BdI M (l.set i x) := fun v => by
 rw [iget_set]; split
 ·exact hx
 exact h v
theorem BdI.zero {M : Int} (hM : 0 ≤ M) (n : Nat) : BdI M (List.replicate n 0) := fun v => by rw [iget_rep]; exact ⟨Int.le_refl _, hM⟩
theorem cutM_in {M a : Int} (hM : 0 ≤ M) (ha : 0 ≤ a) : 0 ≤ cutM M a ∧ cutM M a ≤ M := by unfold cutM; split <;> omega
theorem BdI.add {M : Int} (hM : 0 ≤ M) {now : List Int} (hn : BdI M now) : ∀ (L : List Mv) {a : List Int}, BdI M a → BdI M (addC M now L a)
 | [], a, h => h
 | v :: L, a, h => by
  rw [addC];exact BdI.add hM hn L (h.set _ (cutM_in hM (by have := h v.to_.toNat; have := hn v.from_.toNat; omega)))
theorem BdI.cnt {M : Int} (hM : 1 ≤ M) (L : List Mv) (n : Nat) : ∀ k, BdI M (cntC M L n k)
 | 0 => (BdI.zero (by omega) n).set 0 ⟨by decide, hM⟩
 | k + 1 => (BdI.cnt hM L n k).add (by omega) L (BdI.zero (by omega) n)
theorem l1Least_spec (a b : Int) : ASpec Tryz.prog 121 [aI a, aI b] [] (Pure1 (aI (if a < b then a else b))) := by
 refine ASpec.of Tryz.func121 rfl rfl fun C hC => ?_
 refine AC.seq (AC.region ?_);refine za ?_;refine AL.nil (th_n (AC.seq (AC.seq (AC.region ?_))));refine zm ?_;refine zm ?_;refine zc ?_;refine AL.nil (th_n ?_);refine AC.condD rfl (fun h0 => ?_) (fun h0 => ?_)
 ·refine AC.seq (AC.region ?_);refine zm ?_;refine za ?_;refine AL.nil (th_n (AC.ret (th_r (bq_r ?_))));exact ret1 rfl (by rw [if_pos (by assumption)])
 refine AC.skip (th_n (AC.seq (AC.region ?_)));refine zm ?_;refine za ?_;refine AL.nil (th_n (AC.ret (bq_r ?_)));exact ret1 rfl (by rw [if_neg (by assumption)])
theorem en_l1Least : Enters Tryz.prog 121 := enters_of Tryz.func121 rfl rfl
end Go.Proofs.YtbofmbjefbpnaaaGreat
