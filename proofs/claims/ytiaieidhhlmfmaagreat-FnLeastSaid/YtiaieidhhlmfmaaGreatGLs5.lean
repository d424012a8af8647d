/- Contracts of the functions of the program and of the reference, each proved by a walk through its code. -/
import Derived.Test.YtiaieidhhlmfmaaGreatGLs4
set_option linter.all false
set_option maxRecDepth 20000
namespace Go.Proofs.YtiaieidhhlmfmaaGreat
open Go.RowKit
section
variable {P : Program} [PT P] {s : ASt} {dst : Option Nat} {ty : Nat} {pos : String} {af : Array Edge} {gd : Option (Nat × Bool)} {x y : Operand} {xt yt : Nat}
theorem g_sgt {a b : Tx} {r : Bool} (hx : s.ev x = aS (bstr a)) (hy : s.ev y = aS (bstr b)) (hr : decide (b < a) = r) :
  GOp P [] s ⟨dst, .binOp .gtr xt x y yt, ty, pos, af, gd⟩ (aT r) := by
 subst hr;refine g_vals2 x y (by simp [Op.operands]) (by simp [Op.operands]) hx hy fun A w e1 e2 _ _ => ⟨?_, trivial⟩
 have hk : (!(Op.bytesLess (bstr a).toList (bstr b).toList || (bstr a).toList == (bstr b).toList)) = decide (b < a) := by
  rw [bless, ByteArray.toList_eq, ByteArray.toList_eq, bstr_data, bstr_data, Bool.eq_iff_iff];simp only [Bool.not_eq_true', Bool.or_eq_false_iff, decide_eq_false_iff_not, beq_eq_false_iff_ne, ne_eq, decide_eq_true_eq];constructor
  ·rintro ⟨h1, h2⟩; exact tx_lt_of (tx_not_lt.1 h1) (Ne.symm h2)
  intro h; exact ⟨fun q => tx_irr _ (tx_lt_trans h q), fun e => tx_irr _ (e ▸ h)⟩
 have hrun : (binOp .gtr xt (.string (bstr a)) (.string (bstr b))).run P w = .ok (.bool (decide (b < a))) w := by
  rw [← hk]; simp [binOp, Op.stringOp]
 simp [execOp, e1, e2, eqGuard, hrun]
end
def cmpS (a b : Tx) : Int := if a < b then -1 else if b < a then 1 else 0
theorem isNaNS_spec (a : Tx) : ASpec Tryz.prog 115 [aS (bstr a)] [] (Pure1 (aT false)) := by
 refine ASpec.of Tryz.func115 rfl rfl fun C hC => ?_
 refine AC.seq (AC.region ?_);refine za ?_;refine AL.nil (th_n (AC.seq (AC.region ?_)));refine zm ?_;refine zm ?_;refine AL.p (by exact g_scmp rfl rfl rfl) rfl ?_;refine za ?_;refine AL.nil (th_n (AC.ret (bq_r ?_)));exact ret1 rfl (by simp)
theorem en_isNaNS : Enters Tryz.prog 115 := enters_of Tryz.func115 rfl rfl
theorem cmpCompareS_spec (a b : Tx) : ASpec Tryz.prog 120 [aS (bstr a), aS (bstr b)] [] (Pure1 (aI (cmpS a b))) := by
 have h1 := isNaNS_spec a;have h2 := isNaNS_spec b;have hl := bless a b;have hR : cmpS a b = if a < b then -1 else if b < a then 1 else 0 := rfl
 refine ASpec.of Tryz.func120 rfl rfl fun C hC => ?_
 refine AC.seq (AC.region ?_);refine za ?_;refine AL.nil (th_n (AC.seq (AC.region ?_)));refine zm ?_;refine kV en_isNaNS h1 ?_;refine za ?_;refine AL.nil (th_n (AC.seq (AC.region ?_)));refine zm ?_;refine kV en_isNaNS h2 ?_;refine za ?_;refine AL.nil (th_n (AC.seq (AC.seq (AC.region ?_))));refine zm ?_;refine AL.nil (th_n ?_);refine AC.condF rfl ?_;refine AC.skip (th_n (AC.seq (AC.seq (AC.region ?_))));refine zm ?_;refine AL.nil (th_n ?_);refine AC.condF rfl ?_;refine AC.skip (th_n (AC.seq (AC.seq (AC.region ?_))));refine zm ?_;refine zm ?_;refine AL.p (by exact g_scmp (r := decide (a < b)) rfl rfl (congrArg some hl)) rfl ?_;refine AL.nil (th_n ?_);refine AC.condD rfl (fun h0 => ?_) (fun h0 => ?_)
 ·refine AC.seq (AC.region ?_);refine za ?_;refine AL.nil (th_n (AC.ret (th_r (bq_r ?_))));exact ret1 rfl (by rw [hR, if_pos (by assumption)])
 refine AC.skip (th_n (AC.seq (AC.seq (AC.region ?_))));refine zm ?_;refine zm ?_;refine AL.p (by exact g_sgt (a := a) (b := b) rfl rfl rfl) rfl ?_;refine AL.nil (th_n ?_);refine AC.condD rfl (fun h1 => ?_) (fun h1 => ?_)
 ·refine AC.seq (AC.region ?_);refine za ?_;refine AL.nil (th_n (AC.ret (th_r (bq_r ?_))));exact ret1 rfl (by rw [hR, if_neg (by assumption), if_pos (by assumption)])
 refine AC.skip (th_n (AC.seq (AC.region ?_)));refine za ?_;refine AL.nil (th_n (AC.ret (bq_r ?_)));exact ret1 rfl (by rw [hR, if_neg (by assumption), if_neg (by assumption)])
theorem en_cmpCompareS : Enters Tryz.prog 120 := enters_of Tryz.func120 rfl rfl
def cmpT : List Tx → List Tx → Int
 | x :: xs, y :: ys => if x = y then cmpT xs ys else cmpS x y
 | _, _ => 0
theorem cmpT_ltL : ∀ {a b : List Tx}, a.length = b.length → decide (cmpT a b < 0) = ltL a b
 | [], [], _ => by simp [cmpT, ltL]
 | [], _ :: _, h => by cases h
 | _ :: _, [], h => by cases h
 | x :: xs, y :: ys, h => by
  rw [cmpT, ltL]
  by_cases e : x = y
  ·rw [if_pos e, if_pos e]; exact cmpT_ltL (by simpa using h)
  rw [if_neg e, if_neg e];refine decide_eq_decide.2 ?_;unfold cmpS;constructor
  ·intro hc
   split at hc
   ·assumption
   split at hc
   ·exact absurd hc (by decide)
   exact absurd hc (by decide)
  intro hl; rw [if_pos hl]; decide
theorem cmpT_drop {a b : List Tx} {i : Nat} (ha : i < a.length) (hb : i < b.length) : cmpT (a.drop i) (b.drop i) = if a.getD i [] = b.getD i [] then cmpT (a.drop (i + 1)) (b.drop (i + 1)) else cmpS (a.getD i []) (b.getD i []) := by
 rw [← List.getElem_cons_drop ha, ← List.getElem_cons_drop hb, cmpT, tx_at ha, tx_at hb]
theorem cmpS_zero {a b : Tx} : cmpS a b = 0 ↔ a = b := by
 unfold cmpS;constructor
 ·intro h
  split at h
  ·exact absurd h (by decide)
  rename_i h1
  split at h
  ·exact absurd h (by decide)
  rename_i h2; exact tx_le_anti (tx_not_lt.1 h2) (tx_not_lt.1 h1)
 rintro rfl; rw [if_neg (tx_irr _), if_neg (tx_irr _)]
set_option maxHeartbeats 4000000 in
theorem compareStr_spec (a b : List Tx) (ha : a.length ≤ 1000000) (hab : a.length = b.length) : ASpec Tryz.prog 117 [.d (vSs a), .d (vSs b)] [] (Pure1 (aI (cmpT a b))) := by
 have hD := fun i h1 h2 => cmpT_drop (a := a) (b := b) (i := i) h1 h2
 refine ASpec.of Tryz.func117 rfl rfl fun C hC => ?_
 refine AC.seq (AC.region ?_);refine za ?_;refine AL.nil (th_n (AC.seq (AC.seq (AC.region ?_))));refine zm ?_;refine kI a.length (strsL_len _) ?_;refine zm ?_;refine AL.nil (th_n (AC.block ?_));refine AC.loop (ι := Nat) (fun i => ⟨36, 100, [(0, .d (vSs a)), (1, .d (vSs b)), (9, .d (vSs a)), (10, aI a.length), (11, aI i)], []⟩) (fun i => i ≤ a.length ∧ cmpT a b = cmpT (a.drop i) (b.drop i)) (fun i => a.length - i) (0) ?_ (⟨Nat.zero_le _, rfl⟩) ?_
 ·exact Weak.ren _ [] hC rfl (by repeat (first | exact True.intro | refine And.intro ?_ ?_ | exact DLead.same)) (by repeat (exact True.intro)) rfl rfl rfl
 rintro i ⟨hi, hc⟩;refine AC.seq (AC.region ?_);refine zc ?_;refine AL.nil (th_n (AC.seq ?_));refine AC.condD rfl (fun h0 => ?_) (fun h0 => ?_)
 ·refine AC.skip (th_n (AC.seq (AC.block (AC.seq ?_))));have hi1 : i < a.length := by omega
  have hg1 := strs_get hi1;have hg2 := strs_get (l := b) (k := i) (by omega);have hDi := hD i hi1 (by omega);have hz := @cmpS_zero (a.getD i []) (b.getD i []);obtain ⟨u, hu⟩ := eqx (a.getD i []);obtain ⟨v, hv⟩ := eqx (b.getD i []);rw [← hu] at hg1 hDi hz;rw [← hv] at hg2 hDi hz;have hCs := cmpCompareS_spec u v;obtain ⟨q, hq⟩ := eqx (cmpS u v);rw [← hq] at hCs hDi hz;clear hu hv hq;refine AC.region ?_;refine zm ?_;refine AL.p (by exact g_ia_view (i := i) rfl rfl rfl rfl rfl rfl hg1) rfl ?_;refine zr ?_;refine za ?_;refine za ?_;refine AL.nil (th_n (AC.seq (AC.seq (AC.region ?_))));refine zm ?_;refine zm ?_;refine kI b.length (strsL_len _) ?_;refine zc ?_;refine AL.nil (th_n ?_);refine AC.condD rfl (fun h1 => ?_) (fun h1 => ?_)
  ·refine AC.seq (AC.region ?_);refine za ?_;refine AL.nil (th_n (AC.ret (th_r (ib_r (th_r (th_r (ib_r (th_r (bq_r ?_)))))))));exfalso;omega
  refine AC.skip (th_n (AC.seq (AC.region ?_)));refine zm ?_;refine zm ?_;refine AL.p (by exact g_ia_view (i := i) rfl rfl rfl rfl rfl rfl hg2) rfl ?_;refine zr ?_;refine za ?_;refine AL.nil (th_n (AC.seq (AC.region ?_)));refine zm ?_;refine zm ?_;refine kV en_cmpCompareS hCs ?_;refine za ?_;refine AL.nil (th_n (AC.seq (AC.region ?_)));refine zm ?_;refine zc ?_;refine AL.nil (th_n ?_);refine AC.condND rfl (fun h2 => ?_) (fun h2 => ?_)
  ·refine AC.seq (AC.region ?_);refine zm ?_;refine za ?_;refine AL.nil (th_n (AC.ret (ib_r (th_r (th_r (ib_r (th_r (bq_r ?_))))))));have hne : ¬ u = v := fun e => absurd (hz.2 e) (by assumption)
   exact ret1 rfl (by rw [hc, hDi, if_neg hne])
  refine AC.skip (ib_n (th_n (AC.region ?_)));refine zA ?_;refine zm ?_;refine AL.nil (th_n ?_);have he : u = v := hz.1 (by assumption);exact ⟨i + 1, ⟨by omega, by rw [hc, hDi, if_pos he]⟩, by omega, Weak.ren _ [] hC rfl (by repeat (first | exact True.intro | refine And.intro ?_ ?_ | exact DLead.same)) (by repeat (exact True.intro)) rfl rfl rfl⟩
 refine AC.exit (th_e (th_e (ib_y (th_n (AC.seq (AC.seq (AC.region ?_)))))));refine zm ?_;refine kI a.length (strsL_len _) ?_;refine zm ?_;refine kI b.length (strsL_len _) ?_;refine zc ?_;refine AL.nil (th_n ?_);refine AC.condD rfl (fun h1 => ?_) (fun h1 => ?_)
 ·refine AC.seq (AC.region ?_);refine za ?_;refine AL.nil (th_n (AC.ret (th_r (bq_r ?_))));exfalso;omega
 refine AC.skip (th_n (AC.seq (AC.region ?_)));refine za ?_;refine AL.nil (th_n (AC.ret (bq_r ?_)));have hii : i = a.length := by omega
 exact ret1 rfl (by rw [hc, hii, List.drop_length, hab, List.drop_length]; rfl)
theorem en_compareStr : Enters Tryz.prog 117 := enters_of Tryz.func117 rfl rfl
def chooC (P : List Tx) (B : Option (List Tx)) : Chunk := .cells 71 [.d (vSs P), .d (vSs (B.getD [])), aT B.isSome]
set_option maxHeartbeats 4000000 in
theorem isBetterI_spec (P l : List Tx) (B : Option (List Tx)) (hl : l.length ≤ 1000000) (hb : ∀ c, c ∈ l → c.length ≤ 1000) (hB : ∀ b, B = some b → b.length = l.length ∧ ∀ c, c ∈ b → c.length ≤ 1000) : ASpec Tryz.prog 106 [.ptr 0 0, .d (vSs l)] [(0, chooC P B)] (Fun1 (aT (betT l B)) [(0, chooC P B)]) := by
 have h1 := literalsI_spec l hl hb
 have hBl : (B.getD []).length ≤ 1000000 ∧ ∀ c, c ∈ B.getD [] → c.length ≤ 1000 := by
  cases B with
  | none => exact ⟨Nat.zero_le _, fun c hc => by cases hc⟩
  | some b => exact ⟨by have := (hB b rfl).1; show b.length ≤ _; omega, (hB b rfl).2⟩
 have h2 := literalsI_spec (B.getD []) hBl.1 hBl.2
 have h3 : B.isSome = true → ASpec Tryz.prog 117 [.d (vSs l), .d (vSs (B.getD []))] [] (Pure1 (aI (cmpT l (B.getD [])))) := fun h => by
  cases B with
  | none => cases h
  | some b => exact compareStr_spec l b hl (hB b rfl).1.symm
 have h4 : B.isSome = true → betT l B = (decide (litS l < litS (B.getD [])) || (decide (litS l = litS (B.getD [])) && decide (cmpT l (B.getD []) < 0))) := fun h => by
  cases B with
  | none => cases h
  | some b => show _ = (_ || (_ && decide (cmpT l b < 0))); rw [cmpT_ltL (hB b rfl).1.symm]; rfl
 have h5 : B.isSome = false → betT l B = true := fun h => by
  cases B with
  | none => rfl
  | some b => cases h
 unfold chooC;obtain ⟨W, hW⟩ := eqx (B.getD []);rw [← hW] at h2 h3 h4 ⊢;obtain ⟨f, hf⟩ := eqx B.isSome;rw [← hf] at h3 h4 h5 ⊢;obtain ⟨R, hR⟩ := eqx (betT l B);rw [← hR] at h4 h5 ⊢;obtain ⟨N, hN⟩ := eqx (litS l);obtain ⟨M, hM⟩ := eqx (litS W);obtain ⟨v, hv⟩ := eqx (cmpT l W);rw [← hN] at h1 h4;rw [← hM] at h2 h4;rw [← hv] at h3 h4;clear hf hR hN hM hv hW hB hBl;refine ASpec.of Tryz.func106 rfl rfl fun C hC => ?_
 refine AC.seq (AC.region ?_);refine za ?_;refine AL.nil (th_n (AC.seq ?_));refine AC.drawn' mixed_ok [[], [0], [], [2], [2,3], [2,3,4], [0,1,2,3,4,5], [0,1,2,3,4,5,6], [0,1,2,3,4,5,6,7]] (by decide) ?_;refine zd 0 [] 9 (by exact mv1 rfl) ?_;refine zh 1 [0] 9 (by exact h_pure en_literalsI rfl rfl (by repeat (first | exact rfl | exact DLead.same | refine ⟨_, _, rfl, ?_, ?_⟩)) h1 rfl) ?_;refine zd 2 [] 9 (by exact mv3 rfl) ?_;refine zd 3 [2] 9 (by exact g_nilP rfl) ?_;refine zd 4 [2,3] 9 (by exact g_fa_ptr rfl rfl rfl rfl rfl) ?_;refine zd 5 [2,3,4] 9 (by exact g_load_ptr rfl rfl rfl rfl rfl) ?_;refine zh 6 [0,1,2,3,4,5] 9 (by exact h_pure en_literalsI rfl rfl (by repeat (first | exact rfl | exact DLead.same | refine ⟨_, _, rfl, ?_, ?_⟩)) h2 rfl) ?_;refine zd 7 [0,1,2,3,4,5,6] 9 (by exact as1 rfl) ?_;refine zd 8 [0,1,2,3,4,5,6,7] 9 (by exact as1 rfl) ?_;refine zj 9 ?_;refine th_n (AC.seq (AC.region ?_));refine AL.p (by exact mv3 rfl) rfl ?_;refine AL.p (by exact g_nilP rfl) rfl ?_;refine zF ?_;refine zl ?_;refine kC ?_;refine zm ?_;refine AL.caseGB rfl rfl (fun h0 => ?_) (fun h0 => ?_)
 ·refine zn ?_;refine zn ?_;refine zn ?_;refine zQ ?_;refine zm ?_;refine zn ?_;refine zn ?_;refine zn ?_;refine zn ?_;refine AL.notU rfl rfl rfl ?_;refine AL.notU rfl rfl rfl ?_;refine AL.notU rfl rfl rfl ?_;refine AL.notU rfl rfl rfl ?_;refine AL.notU rfl rfl rfl ?_;refine AL.notU rfl rfl rfl ?_;refine AL.notU rfl rfl rfl ?_;refine zn ?_;refine zQ ?_;refine za ?_;refine AL.nil (th_n (AC.ret (bq_r ?_)))
  (have q := ‹(!f) = true›; exact retF rfl (by rw [h5 (by simpa using q)]; repeat (exact DLead.same)) (by repeat (first | exact True.intro | refine And.intro ?_ ?_ | exact DLead.same | exact rfl | refine ⟨_, _, rfl, rfl, ?_⟩ | refine ⟨_, rfl, ?_⟩ | refine ⟨_, _, rfl, ?_, ?_⟩)) rfl)
 refine zy ?_;refine zm ?_;refine zy ?_;refine zm ?_;refine zy ?_;refine zc ?_;refine zP ?_;refine zm ?_;refine AL.caseG rfl rfl (fun h1 => ?_) (fun h1 => ?_)
 ·refine zn ?_;refine zn ?_;refine zn ?_;refine zn ?_;refine AL.notU rfl rfl rfl ?_;refine AL.notU rfl rfl rfl ?_;refine AL.notU rfl rfl rfl ?_;refine AL.notU rfl rfl rfl ?_;refine AL.notU rfl rfl rfl ?_;refine AL.notU rfl rfl rfl ?_;refine AL.notU rfl rfl rfl ?_;refine zn ?_;refine zQ ?_;refine za ?_;refine AL.nil (th_n (AC.ret (bq_r ?_)))
  (have q := ‹(!f) = false›; have h6 := h4 (by simpa using q); exact retF rfl (by rw [h6]; (rw [decide_eq_true (show N < M by omega), Bool.true_or]; repeat (exact DLead.same))) (by repeat (first | exact True.intro | refine And.intro ?_ ?_ | exact DLead.same | exact rfl | refine ⟨_, _, rfl, rfl, ?_⟩ | refine ⟨_, rfl, ?_⟩ | refine ⟨_, _, rfl, ?_, ?_⟩)) rfl)
 refine zy ?_;refine zm ?_;refine zy ?_;refine zm ?_;refine zy ?_;refine zc ?_;refine zy ?_;refine zm ?_;refine AL.caseG rfl rfl (fun h2 => ?_) (fun h2 => ?_)
 ·refine zy ?_;refine zm ?_;refine zy ?_;refine AL.p (by exact mv3 rfl) rfl ?_;refine zy ?_;refine AL.p (by exact g_nilP rfl) rfl ?_;refine zy ?_;refine zF ?_;refine zy ?_;refine zl ?_;refine zy ?_;refine AL.q (by exact h_pure en_compareStr rfl rfl (by repeat (first | exact rfl | exact DLead.same | refine ⟨_, _, rfl, ?_, ?_⟩)) (h3 (by have q := ‹(!f) = false›; simpa using q)) rfl) rfl ?_;refine zy ?_;refine zc ?_;refine zy ?_;refine zQ ?_;refine zP ?_;refine za ?_;refine AL.nil (th_n (AC.ret (bq_r ?_)))
  (have q := ‹(!f) = false›; have h6 := h4 (by simpa using q); exact retF rfl (by rw [h6]; (rw [decide_eq_false (show ¬ N < M by omega), Bool.false_or]; (rw [decide_eq_true (show N = M by omega), Bool.true_and]; repeat (exact DLead.same)))) (by repeat (first | exact True.intro | refine And.intro ?_ ?_ | exact DLead.same | exact rfl | refine ⟨_, _, rfl, rfl, ?_⟩ | refine ⟨_, rfl, ?_⟩ | refine ⟨_, _, rfl, ?_, ?_⟩)) rfl)
 refine zn ?_;refine zn ?_;refine zn ?_;refine zn ?_;refine zn ?_;refine zn ?_;refine zn ?_;refine zy ?_;refine zP ?_;refine zP ?_;refine za ?_;refine AL.nil (th_n (AC.ret (bq_r ?_)))
 (have q := ‹(!f) = false›; have h6 := h4 (by simpa using q); exact retF rfl (by rw [h6]; (rw [decide_eq_false (show ¬ N < M by omega), Bool.false_or]; (rw [decide_eq_false (show ¬ N = M by omega), Bool.false_and]; repeat (exact DLead.same)))) (by repeat (first | exact True.intro | refine And.intro ?_ ?_ | exact DLead.same | exact rfl | refine ⟨_, _, rfl, rfl, ?_⟩ | refine ⟨_, rfl, ?_⟩ | refine ⟨_, _, rfl, ?_, ?_⟩)) rfl)
theorem en_isBetterI : Enters Tryz.prog 106 := enters_of Tryz.func106 rfl rfl
theorem choose1_spec (p x : Tx) (hp : p.length ≤ 2000000) (hx : x.length = p.length) : ASpec Tryz.prog 107 [aS (bstr x), .d (.ref [dS (bstr p)])] [] (Pure1 (aT (hasC p x))) := by
 have hI := contains_spec p x hp hx;refine ASpec.of Tryz.func107 rfl rfl fun C hC => ?_
 refine AC.seq (AC.region ?_);refine za ?_;refine AL.nil (th_n (AC.seq (AC.region ?_)));refine zr ?_;refine zm ?_;refine kV en_contains hI ?_;refine za ?_;refine AL.nil (th_n (AC.ret (bq_r ?_)));exact ret1 rfl rfl
theorem en_choose1 : Enters Tryz.prog 107 := enters_of Tryz.func107 rfl rfl
def BOk (M w : Nat) (B : Option (List Tx)) : Prop := ∀ b, B = some b → b.length = M ∧ ∀ x, x ∈ b → x.length = w
structure ChOk (P on l : List Tx) (m M w : Nat) : Prop where
 w8 : w ≤ 8
 m6 : M ≤ 6
 sum : l.length + m = M
 pl : P.length ≤ 60
 ol : on.length ≤ 64
 pw : ∀ p, p ∈ P → p.length = w
 ow : ∀ c, c ∈ on → c.length = w
 lw : ∀ p, p ∈ l → p.length = w
 nd : l.Nodup
 no : ∀ p, p ∈ l → ∀ c, c ∈ on → hasC p c = false
theorem choose_ok {P on l : List Tx} {m M w : Nat} {B : Option (List Tx)} (hs : l.length + m = M) (hp : ∀ p, p ∈ P → p.length = w) (hl : ∀ p, p ∈ l → p.length = w) (hB : BOk M w B) : BOk M w (chooseN P m on l B) := by
 rcases choose_or P m on l B with e | ⟨b, e, ⟨q, h1, h2, h3, _⟩⟩
 ·rw [e]; exact hB
 rw [e];intro b' hb';obtain rfl : b = b' := Option.some.inj hb';have hperm := sortT_perm (l ++ q);rw [← h1] at hperm;refine ⟨by rw [hperm.length_eq, List.length_append, h2, hs], fun x hx => ?_⟩;rcases List.mem_append.1 (hperm.mem_iff.1 hx) with h | h
 ·exact hl x h
 exact hp x (h3 x h)
def chF (P : List Tx) (k : Nat) (on l : List Tx) (c0 : Tx) (B : Option (List Tx)) (p : Tx) : Option (List Tx) := if hasC p c0 = true then chooseN P k (on.filter fun x => !hasC p x) (l ++ [p]) B else B
theorem choose_succ (P : List Tx) (k : Nat) (on l : List Tx) (B : Option (List Tx)) (h : 0 < on.length) : chooseN P (k + 1) on l B = P.foldl (chF P k on l (on.getD 0 [])) B := by
 cases on with
 | nil => cases h
 | cons c t => rw [chooseN]; rfl
theorem fold_snoc {α β : Type} (f : β → α → β) (b : β) {l : List α} {j : Nat} (h : j < l.length) : (l.take (j + 1)).foldl f b = f ((l.take j).foldl f b) l[j] := by
 rw [List.take_add_one, List.getElem?_eq_getElem h, List.foldl_append]; rfl
theorem ch_next {P on l : List Tx} {k M w : Nat} {p : Tx} (h : ChOk P on l (k + 1) M w) (hp : p ∈ P) (h0 : 0 < on.length) (hc : hasC p (on.getD 0 []) = true) : ChOk P (on.filter fun x => !hasC p x) (l ++ [p]) k M w := by
 have hn : ¬ p ∈ l := fun hm => by
  have := h.no p hm (on.getD 0 []) (by rw [tx_at h0]; exact List.getElem_mem h0);rw [hc] at this; cases this
 refine ⟨h.w8, h.m6, by rw [List.length_append]; have := h.sum; simp only [List.length_cons, List.length_nil]; omega, h.pl, Nat.le_trans (List.length_filter_le _ _) h.ol, h.pw, fun c hc => h.ow c (List.mem_filter.1 hc).1, fun q hq => ?_, ?_, fun q hq c hc => ?_⟩
 ·rcases List.mem_append.1 hq with e | e
  ·exact h.lw q e
  rw [List.mem_singleton.1 e]; exact h.pw p hp
 ·rw [List.nodup_append];refine ⟨h.nd, List.pairwise_singleton _ _, fun a ha b hb e => ?_⟩;rw [List.mem_singleton.1 hb] at e;exact hn (e ▸ ha)
 obtain ⟨h1, h2⟩ := List.mem_filter.1 hc;rcases List.mem_append.1 hq with e | e
 ·exact h.no q e c h1
 rw [List.mem_singleton.1 e]; simpa using h2
theorem en_chooseI : Enters Tryz.prog 85 := enters_of Tryz.func85 rfl rfl
def ChSpec (P on l : List Tx) (m : Nat) (B : Option (List Tx)) : Prop := ASpec Tryz.prog 85 [.ptr 0 0, .d (vSs on), .d (vSs l), aI m] [(0, chooC P B)] (Fun1 (.tup []) [(0, chooC P (chooseN P m on l B))])
theorem choose_own {P on l : List Tx} {m : Nat} {B : Option (List Tx)} (h : ChSpec P on l m B) : ASpec Tryz.prog 85 [.ptr 0 0, .d (vSs on), .own 1 l.length, aI m] [(0, chooC P B), (1, .arr 9 1 (strsL l))] (Fun1 (.tup []) [(0, chooC P (chooseN P m on l B))]) := by
 have h2 := ASpec.give (e2 := 9) h 2 rfl rfl (fun j x hj hx => by
  match j with
  | 0 => cases hx; rfl
  | 1 => cases hx; rfl
  | 2 => exact absurd rfl hj
  | 3 => cases hx; rfl
  | j + 4 => simp at hx) (fun id c hc => by
  rw [getL_cons] at hc
  split at hc
  ·cases hc; rfl
  ·simp [getL] at hc) rfl (fun r chs' hr => by
  obtain ⟨rfl, rfl⟩ := hr;refine ⟨rfl, fun id c hc => ?_⟩;rw [getL_cons] at hc
  split at hc
  ·rename_i e; cases hc; subst e; exact ⟨Nat.zero_lt_one, rfl⟩
  simp [getL] at hc)
 rw [strsL_len] at h2;exact h2
set_option maxHeartbeats 16000000 in
theorem choose_step (P : List Tx) (M w m : Nat) (ih : ∀ k, k < m → ∀ on l B, ChOk P on l k M w → BOk M w B → ChSpec P on l k B) (on l : List Tx) (B : Option (List Tx)) (hK : ChOk P on l m M w) (hB : BOk M w B) : ChSpec P on l m B := by
 have hw8 := hK.w8;have hm6 := hK.m6;have hsum := hK.sum;have hpl := hK.pl;have hol := hK.ol;have hC1 := cloneStr_spec l (by omega);have hS1 := sortStr_spec l (by omega);have hsl := sortT_len l;have hC2 := cloneStr_spec (sortT l) (by omega);have hD2 := compactStr_spec (sortT l) (by omega);have hdd := dt_nodup hK.nd;rw [hsl] at hD2;have hSm : ∀ c, c ∈ sortT l → c.length = w := fun c hc => hK.lw c ((sortT_perm l).mem_iff.1 hc)
 have hIs : m = 0 → ASpec Tryz.prog 106 [.ptr 0 0, .d (vSs (sortT l))] [(0, chooC P B)] (Fun1 (aT (betT (sortT l) B)) [(0, chooC P B)]) := fun h0 => isBetterI_spec P (sortT l) B (by omega) (fun c hc => by rw [hSm c hc]; omega) (fun b hb => by obtain ⟨h1, h2⟩ := hB b hb; exact ⟨by omega, fun c hc => by rw [h2 c hc]; omega⟩)
 have hN1 : on = [] → m = 0 → chooseN P m on l B = conT (sortT l) B := fun h1 h2 => by rw [h1, h2, chooseN, if_pos rfl]
 have hN2 : on = [] → ¬ m = 0 → chooseN P m on l B = B := fun h1 h2 => by
  obtain ⟨k, rfl⟩ : ∃ k, m = k + 1 := ⟨m - 1, by omega⟩;rw [h1, chooseN]
 have hN3 : ¬ on = [] → m = 0 → chooseN P m on l B = B := fun h1 h2 => by rw [h2, chooseN, if_neg h1]
 have hCon : conT (sortT l) B = if betT (sortT l) B = true then some (sortT l) else B := rfl
 unfold ChSpec;obtain ⟨S, hS⟩ := eqx (sortT l);rw [← hS] at hS1 hsl hC2 hD2 hIs hN1 hCon hdd;obtain ⟨D, hDD⟩ := eqx (ddT S l.length);rw [← hDD] at hD2 hdd;have hN4 : ¬ on = [] → ∀ k, m = k + 1 → chooseN P m on l B = P.foldl (chF P k on l (on.getD 0 [])) B := fun h1 k h2 => by rw [h2]; exact choose_succ P k on l B (List.length_pos_iff.2 h1)
 obtain ⟨R, hR⟩ := eqx (chooseN P m on l B);rw [← hR] at hN1 hN2 hN3 hN4 ⊢;clear hR hS hDD hSm;refine ASpec.of Tryz.func85 rfl rfl fun C hC => ?_
 refine AC.seq (AC.seq (AC.region ?_));refine zm ?_;refine kI on.length (strsL_len _) ?_;refine zc ?_;refine AL.nil (th_n ?_);refine AC.condD rfl (fun h0 => ?_) (fun h0 => ?_)
 ·refine AC.seq ?_;have hon : on = [] := List.eq_nil_of_length_eq_zero (by omega);refine AC.region ?_;refine zm ?_;refine kU [] en_cloneStr hC1 ?_;refine AL.p (by exact as2 rfl) rfl ?_;refine AL.nil (th_n (AC.seq ?_));refine AC.weak (t := ⟨77, 200, [(0, .ptr 0 0), (2, .d (vSs l)), (3, aI m), (8, .own 100 l.length)], [(0, some (chooC P B)), (100, some (.arr 9 1 (strsL l)))]⟩) (zw [(100, _)] hC) ?_;refine AC.region ?_;refine kB ?_;refine kU [100] en_sortStr hS1 ?_;refine AL.nil (th_n (AC.seq (AC.seq ?_)));refine AC.weak (Weak.freeze (i := 8) rfl rfl (by rw [strsL_len, hsl]; exact Nat.le_refl _) (List.take_of_length_le (by rw [strsL_len, hsl]; exact Nat.le_refl _))) ?_;refine AC.weak (t := ⟨77, 300, [(0, .ptr 0 0), (2, .d (vSs l)), (3, aI m), (8, .d (vSs S))], [(0, some (chooC P B))]⟩) (zw [] hC) ?_;refine AC.region ?_;refine zm ?_;refine kU [] en_cloneStr hC2 ?_;refine AL.q (by exact h_fun (cs := [300]) en_compactStr rfl rfl (by rw [hsl]; repeat (first | exact rfl | refine ⟨_, _, rfl, ?_, ?_⟩ | refine ⟨_, rfl, ?_⟩)) (by repeat (first | exact True.intro | refine And.intro ?_ ?_ | exact rfl | refine ⟨_, _, rfl, rfl, ?_⟩)) hD2 rfl rfl rfl rfl) rfl ?_;refine AL.p (by exact g_len_own (sz := 1) (els := []) (e' := 0) rfl rfl (by simp only [maxLen]; omega)) rfl ?_;refine zm ?_;refine kI l.length (strsL_len _) ?_;refine AL.p (by exact g_cmp (r := true) rfl rfl (by show some (decide _) = some true; rw [decide_eq_true (by omega)])) rfl ?_;refine zm ?_;refine zy ?_;refine zm ?_;refine zy ?_;refine zc ?_;refine zQ ?_;refine zm ?_;refine AL.caseG rfl rfl (fun h1 => ?_) (fun h1 => ?_)
  ·refine zy ?_;refine AL.p (by exact mv3 rfl) rfl ?_;refine zy ?_;refine zm ?_;refine zy ?_;refine AL.q (by exact h_fun (cs := [0]) en_isBetterI rfl rfl (by repeat (first | exact rfl | exact DLead.same | refine ⟨_, _, rfl, ?_, ?_⟩ | refine ⟨_, rfl, ?_⟩)) (by repeat (first | exact True.intro | refine And.intro ?_ ?_ | exact DLead.same | exact rfl | refine ⟨_, _, rfl, rfl, ?_⟩ | refine ⟨_, rfl, ?_⟩ | refine ⟨_, _, rfl, ?_, ?_⟩)) (hIs (by omega)) rfl rfl rfl rfl) rfl ?_;refine zQ ?_;refine AL.nil (th_n ?_);refine AC.condB rfl (fun h2 => ?_) (fun h2 => ?_)
   ·refine AC.region ?_;refine AL.p (by exact mv3 rfl) rfl ?_;refine AL.p (by exact mv3 rfl) rfl ?_;refine zm ?_;refine AL.p (by exact g_nilP rfl) rfl ?_;refine zF ?_;refine zs ?_;refine AL.p (by exact g_nilP rfl) rfl ?_;refine zF ?_;refine zs ?_;refine AL.nil (th_n (AC.ret (th_r (bq_r ?_))))
    (have e : R = some S := (hN1 hon (by omega)).trans (hCon.trans (if_pos ‹betT S B = true›)); exact retF rfl (by repeat (first | exact rfl | refine ⟨_, rfl, ?_⟩)) (by rw [e]; repeat (first | exact True.intro | refine And.intro ?_ ?_ | exact DLead.same | exact rfl | refine ⟨_, _, rfl, rfl, ?_⟩ | refine ⟨_, rfl, ?_⟩ | refine ⟨_, _, rfl, ?_, ?_⟩)) rfl)
   refine AC.skip (th_n (AC.ret (th_r (bq_r ?_))))
   (have e : R = B := (hN1 hon (by omega)).trans (hCon.trans (if_neg (by rw [‹betT S B = false›]; decide))); exact retF rfl (by repeat (first | exact rfl | refine ⟨_, rfl, ?_⟩)) (by rw [e]; repeat (first | exact True.intro | refine And.intro ?_ ?_ | exact DLead.same | exact rfl | refine ⟨_, _, rfl, rfl, ?_⟩ | refine ⟨_, rfl, ?_⟩ | refine ⟨_, _, rfl, ?_, ?_⟩)) rfl)
  refine zn ?_;refine zn ?_;refine zn ?_;refine zP ?_;refine AL.nil (th_n ?_);refine AC.condF rfl ?_;refine AC.skip (th_n (AC.ret (th_r (bq_r ?_))));exact retF rfl (by repeat (first | exact rfl | refine ⟨_, rfl, ?_⟩)) (by rw [hN2 hon (by omega)]; repeat (first | exact True.intro | refine And.intro ?_ ?_ | exact DLead.same | exact rfl | refine ⟨_, _, rfl, rfl, ?_⟩ | refine ⟨_, rfl, ?_⟩ | refine ⟨_, _, rfl, ?_, ?_⟩)) rfl
 refine AC.skip (th_n (AC.seq (AC.seq ?_)));have hon : ¬ on = [] := fun e => absurd (show (on.length : Int) = 0 by rw [e]; rfl) (by assumption)
 refine AC.region ?_;refine zm ?_;refine zc ?_;refine AL.nil (th_n ?_);refine AC.condD rfl (fun h1 => ?_) (fun h1 => ?_)
 ·refine AC.ret (th_r (bq_r ?_));exact retF rfl (by repeat (first | exact rfl | refine ⟨_, rfl, ?_⟩)) (by rw [hN3 hon (by omega)]; repeat (first | exact True.intro | refine And.intro ?_ ?_ | exact DLead.same | exact rfl | refine ⟨_, _, rfl, rfl, ?_⟩ | refine ⟨_, rfl, ?_⟩ | refine ⟨_, _, rfl, ?_, ?_⟩)) rfl
 refine AC.skip (th_n (AC.seq ?_));obtain ⟨k, hk⟩ : ∃ k, m = k + 1 := ⟨m - 1, by omega⟩;subst hk;have hNk := hN4 hon k rfl;have hol0 : 0 < on.length := List.length_pos_iff.2 hon;have hg0 := strs_get hol0;have hIh := ih k (Nat.lt_succ_self k);have hNx := fun (p : Tx) (hp : p ∈ P) (h : hasC p (on.getD 0 []) = true) => ch_next hK hp hol0 h
 have hcw : (on.getD 0 []).length = w := hK.ow _ (by rw [tx_at hol0]; exact List.getElem_mem hol0);have hCo := cloneStr_spec on (by omega);have hFd : ∀ (B' : Option (List Tx)) (p : Tx), chF P k on l (on.getD 0 []) B' p = if hasC p (on.getD 0 []) = true then chooseN P k (on.filter fun x => !hasC p x) (l ++ [p]) B' else B' := fun _ _ => rfl
 obtain ⟨c0, hc0⟩ := eqx (on.getD 0 []);rw [← hc0] at hNk hg0 hNx hcw hFd;obtain ⟨f, hf⟩ := eqx (chF P k on l c0);rw [← hf] at hNk hFd;clear hf hc0 hN1 hN2 hN3 hN4 hC1 hS1 hC2 hD2 hIs hCon;have hpw := hK.pw;have how := hK.ow;have hlw := hK.lw;refine AC.region ?_;refine AL.p (by exact mv3 rfl) rfl ?_;refine AL.p (by exact g_nilP rfl) rfl ?_;refine zF ?_;refine zl ?_;refine kI P.length (strsL_len _) ?_;refine zm ?_;refine AL.nil (th_n (AC.block ?_));refine AC.loop (ι := Nat × Option (List Tx)) (fun y => ⟨77, 500, [(0, .ptr 0 0), (1, .d (vSs on)), (2, .d (vSs l)), (3, aI ((k + 1 : Nat) : Int)), (47, .d (vSs P)), (48, aI P.length), (49, aI y.1)], [(0, some (chooC P y.2))]⟩) (fun y => y.1 ≤ P.length ∧ y.2 = (P.take y.1).foldl f B ∧ BOk M w y.2) (fun y => P.length - y.1) ((0, B)) ?_ (⟨Nat.zero_le _, rfl, hB⟩) ?_
 ·exact zw [] hC
 rintro ⟨j, D1⟩ ⟨hj, hD1, hBj⟩;dsimp only at hj hD1 hBj ⊢;refine AC.seq (AC.region ?_);refine zc ?_;refine AL.nil (th_n (AC.seq ?_));refine AC.condD rfl (fun h2 => ?_) (fun h2 => ?_)
 ·refine AC.skip (th_n (AC.seq (AC.block (AC.seq ?_))));have hj1 : j < P.length := by omega
  have hget := strs_at hj1;have hpm := List.getElem_mem hj1;have hsn := fold_snoc f B hj1;rw [← hD1, hFd] at hsn;obtain ⟨p, hp⟩ := eqx (P[j]);rw [← hp] at hget hpm hsn;have hpw1 := hpw p hpm;have hH := contains_spec p c0 (by omega) (by omega);have hNxp := hNx p hpm;obtain ⟨b, hb⟩ := eqx (hasC p c0);rw [← hb] at hH hNxp hsn;have hDl := delStr_spec on (by omega) 107 [.ref [dS (bstr p)]] en_choose1 (fun x => hasC p x) (fun x hx => choose1_spec p x (by omega) (by rw [how x hx, hpw1]));have hCall : b = true → ASpec Tryz.prog 85 [.ptr 0 0, .d (vSs (on.filter fun x => !hasC p x)), .own 1 (l ++ [p]).length, aI k] [(0, chooC P D1), (1, .arr 9 1 (strsL (l ++ [p])))] (Fun1 (.tup []) [(0, chooC P (chooseN P k (on.filter fun x => !hasC p x) (l ++ [p]) D1))]) := fun h => choose_own (hIh _ _ _ (hNxp h) hBj)
  have hOk : b = true → BOk M w (chooseN P k (on.filter fun x => !hasC p x) (l ++ [p]) D1) := fun h => by have q := hNxp h; exact choose_ok q.sum hpw q.lw hBj
  have hlp : (l ++ [p]).length = l.length + 1 := by simp
  obtain ⟨F, hF⟩ := eqx (on.filter fun x => !hasC p x)
  rw [← hF] at hDl hCall hOk hsn;obtain ⟨E, hE⟩ := eqx (chooseN P k F (l ++ [p]) D1);rw [← hE] at hCall hOk hsn;clear hp hF hE hNxp;refine AC.region ?_;refine AL.p (by exact g_ia_view (i := j) rfl rfl rfl rfl rfl rfl hget) rfl ?_;refine zr ?_;refine kE ?_;refine zs ?_;refine AL.nil (th_n (AC.seq ?_));refine AC.weak (Weak.freezeRef (ds := [dS (bstr p)]) 10 rfl rfl) ?_;refine AC.weak (t := ⟨77, 700, [(0, .ptr 0 0), (1, .d (vSs on)), (2, .d (vSs l)), (3, aI ((k + 1 : Nat) : Int)), (10, .d (.ref [dS (bstr p)])), (47, .d (vSs P)), (48, aI P.length), (49, aI j)], [(0, some (chooC P D1))]⟩) (zw [] hC) ?_;refine AC.drawn' mixed_ok [[], [], [1], [1,2], [0,1,2,3]] (by decide) ?_;refine zd 0 [] 5 (by exact g_load_ref rfl rfl rfl) ?_;refine zd 1 [] 5 (by exact mv1 rfl) ?_;refine zd 2 [1] 5 (by exact g_ia_view (i := 0) rfl rfl rfl rfl rfl rfl hg0) ?_;refine zd 3 [1,2] 5 (by exact g_load_ref rfl rfl rfl) ?_;refine zh 4 [0,1,2,3] 5 (by exact h_pure en_contains rfl rfl (by repeat (first | exact rfl | exact DLead.same | refine ⟨_, _, rfl, ?_, ?_⟩)) hH rfl) ?_;refine zj 5 ?_;refine th_n ?_;refine AC.condB rfl (fun h3 => ?_) (fun h3 => ?_)
  ·refine AC.seq (AC.region ?_);refine zm ?_;refine kU [] en_cloneStr hCo ?_;refine AL.weak (t := ⟨77, 900, [(0, .ptr 0 0), (2, .d (vSs l)), (3, aI ((k + 1 : Nat) : Int)), (10, .d (.ref [dS (bstr p)])), (47, .d (vSs P)), (48, aI P.length), (49, aI j), (1, .d (vSs on)), (59, .own 101 on.length)], [(0, some (chooC P D1)), (101, some (.arr 9 1 (strsL on)))]⟩) (zw [(101, _)] hC) ?_;refine AL.p (by exact g_fn rfl) rfl ?_;refine kU [101] en_delStr hDl ?_;refine AL.p (by exact as2 rfl) rfl ?_;refine AL.nil (th_n ?_);refine AC.weak (Weak.freeze (i := 11) rfl rfl (Nat.le_of_eq (strsL_len _).symm) (List.take_of_length_le (Nat.le_of_eq (strsL_len _)))) ?_;refine AC.weak (t := ⟨77, 1100, [(0, .ptr 0 0), (1, .d (vSs on)), (2, .d (vSs l)), (3, aI ((k + 1 : Nat) : Int)), (10, .d (.ref [dS (bstr p)])), (11, .d (vSs F)), (47, .d (vSs P)), (48, aI P.length), (49, aI j)], [(0, some (chooC P D1))]⟩) (zw [] hC) ?_;have hbt : b = true := by assumption
   have hCl := hCall hbt;have hOk1 := hOk hbt;rw [if_pos hbt] at hsn;refine AC.drawn' mixed_ok [[], [], [], [], [3], [], [5], [2,3,4,5,6], [], [8], [2,3,4,5,6,7,8,9], [], [11], [0,1,2,3,4,5,6,7,8,9,10,11,12]] (by decide) ?_;refine zd 0 [] 14 (by exact mv3 rfl) ?_;refine zd 1 [] 14 (by exact mv1 rfl) ?_;refine zd 2 [] 14 (by exact mv1 rfl) ?_;refine zd 3 [] 14 (by exact mv1 rfl) ?_;refine zd 4 [3] 14 (by exact g_len_view (k := l.length) rfl rfl (strsL_len _)) ?_;refine zd 5 [] 14 (by exact mv1 rfl) ?_;refine zd 6 [5] 14 (by exact g_len_view (k := l.length) rfl rfl (strsL_len _)) ?_;refine zd 7 [2,3,4,5,6] 14 (by exact g_slice_tight (h := l.length) (r := strsL l) rfl rfl rfl rfl .none (.some rfl rfl) (.some rfl rfl) (Nat.zero_le _) (by rw [strsL_len]; exact Nat.le_refl _) (by rw [List.drop_zero]; exact List.take_of_length_le (Nat.le_of_eq (strsL_len _)))) ?_;refine zd 8 [] 14 (by exact g_load_ref rfl rfl rfl) ?_;refine zh 9 [8] 14 (by exact h_litF rfl rfl rfl rfl rfl rfl rfl rfl) ?_;refine zh 10 [2,3,4,5,6,7,8,9] 14 (by exact h_appendSt l [p] (.tight rfl) (.view rfl) (by rw [hlp]; omega) (by simp)) ?_;refine zd 11 [] 14 (by exact mv1 rfl) ?_;refine zd 12 [11] 14 (by exact g_arith (e := (k : Int)) rfl rfl rfl (by rw [show ((k + 1 : Nat) : Int) - 1 = (k : Int) by omega]; exact wrap_i64 (by omega))) ?_;refine zh 13 (List.range 13) 14 (by exact h_fun (cs := [0, 1180]) en_chooseI rfl rfl (by repeat (first | exact rfl | exact DLead.same | refine ⟨_, _, rfl, ?_, ?_⟩ | refine ⟨_, rfl, ?_⟩)) (by repeat (first | exact True.intro | refine And.intro ?_ ?_ | exact DLead.same | exact rfl | refine ⟨_, _, rfl, rfl, ?_⟩ | refine ⟨_, rfl, ?_⟩ | refine ⟨_, _, rfl, ?_, ?_⟩)) hCl rfl rfl rfl rfl) ?_;refine zj 14 ?_;refine ib_n (th_n (AC.region ?_));refine zA ?_;refine zm ?_;refine AL.nil (th_n ?_);exact ⟨(j + 1, E), ⟨by dsimp only; omega, hsn.symm, hOk1⟩, by dsimp only; omega, zw [] hC⟩
  refine AC.skip (ib_n (th_n (AC.region ?_)));refine zA ?_;refine zm ?_;refine AL.nil (th_n ?_)
  (have w1 := ‹b = false›; rw [if_neg (by rw [w1]; decide)] at hsn; exact ⟨(j + 1, D1), ⟨by dsimp only; omega, hsn.symm, hBj⟩, by dsimp only; omega, zw [] hC⟩)
 refine AC.exit (th_e (th_e (ib_y (bq_n ?_))));have hjj : j = P.length := by omega
 have e : R = D1 := by rw [hNk, hD1, hjj, List.take_length]
 exact retF rfl (by repeat (first | exact rfl | refine ⟨_, rfl, ?_⟩)) (by rw [e]; repeat (first | exact True.intro | refine And.intro ?_ ?_ | exact DLead.same | exact rfl | refine ⟨_, _, rfl, rfl, ?_⟩ | refine ⟨_, rfl, ?_⟩ | refine ⟨_, _, rfl, ?_, ?_⟩)) rfl
theorem choose_spec (P : List Tx) (M w m : Nat) : ∀ on l B, ChOk P on l m M w → BOk M w B → ChSpec P on l m B := by
 induction m using Nat.strongRecOn with
 | _ m ih => exact choose_step P M w m ih
def minO (B : Option (List Tx)) : List Tx × Bool := (B.getD [], B.isSome)
def minR (n : Int) (on off : List Tx) : List Tx × Bool := if (prR n on off).2 = true then minO (minT (prR n on off).1 on) else ([], false)
theorem minAt_yes {P on : List Tx} {f m : Nat} {b : List Tx} (h : chooseN P m on [] none = some b) : minAt P on (f + 1) m = some b := by rw [minAt, h]
theorem minAt_no {P on : List Tx} {f m : Nat} (h : chooseN P m on [] none = none) : minAt P on (f + 1) m = minAt P on f (m + 1) := by rw [minAt, h]
set_option maxHeartbeats 8000000 in
theorem minimumI_spec (n : Int) (on off : List Tx) (h : onoffB n on off = true) : ASpec Tryz.prog 51 [aI n, .d (vSs on), .d (vSs off)] [] (Pure1 (.tup [.d (vSs (minR n on off).1), aT (minR n on off).2])) := by
 have hcov := primes_cover h
 have hR : minR n on off = if (primesL n.toNat on off).length ≤ 60 then minO (minT (primesL n.toNat on off) on) else ([], false) := by
  unfold minR
  by_cases hc : (primesL n.toNat on off).length ≤ 60
  ·have e : prR n on off = (primesL n.toNat on off, true) := if_pos ⟨h, hc⟩;rw [e, if_pos rfl, if_pos hc]
  have e : prR n on off = ([], false) := if_neg fun q => hc q.2
  rw [e, if_neg (by decide), if_neg hc]
 obtain ⟨w, rfl, h1, h8, hol, hfl, hon, hof, _⟩ := onoff_in h;rw [Int.toNat_natCast] at hR hcov;have hP := primesI_spec w on off h8 (by omega) (by omega) (fun x hx => (hon x hx).1) (fun x hx => (hof x hx).1);have hpw : ∀ p, p ∈ primesL w on off → p.length = w := fun p hp => (primesL_mem hp).1
 have hpl := primesL_len w on off h8;obtain ⟨R, hRR⟩ := eqx (minR w on off);rw [← hRR] at hR ⊢;obtain ⟨P, hPP⟩ := eqx (primesL w on off);rw [← hPP] at hR hP hpw hcov hpl;obtain ⟨d, hd⟩ := eqx (decide ((P.length : Int) ≤ 60));rw [← hd] at hP;have hCh : P.length ≤ 60 → ∀ m, m ≤ 6 → ChSpec P on [] m none := fun hp m hm => choose_spec P m w m on [] none ⟨h8, hm, by simp, hp, hol, hpw, fun c hc => (hon c hc).1, fun p hp => absurd hp List.not_mem_nil, List.nodup_nil, fun p hp => absurd hp List.not_mem_nil⟩ (fun b hb => by cases hb)
 clear hRR hPP;refine ASpec.of Tryz.func51 rfl rfl fun C hC => ?_
 refine AC.seq (AC.region ?_);refine za ?_;refine za ?_;refine AL.nil (th_n (AC.seq (AC.region ?_)));refine zm ?_;refine zm ?_;refine zm ?_;refine kV en_primesI hP ?_;refine AL.p (by exact mv5 rfl) rfl ?_;refine AL.p (by exact g_extract (r := .d _) rfl rfl) rfl ?_;refine AL.p (by exact g_extract (r := .d _) rfl rfl) rfl ?_;refine za ?_;refine za ?_;refine AL.nil (th_n (AC.seq (AC.seq (AC.region ?_))));refine zm ?_;refine kC ?_;refine AL.nil (th_n ?_);refine AC.condB rfl (fun h0 => ?_) (fun h0 => ?_)
 ·refine AC.seq (AC.region ?_);refine za ?_;refine za ?_;refine AL.nil (th_n (AC.ret (th_r (bq_r ?_))));have e : R = ([], false) := hR.trans (if_neg (fun q => by have w := ‹(!d) = true›; rw [hd, decide_eq_true (by omega)] at w; cases w));exact ret0 rfl (by rw [e]; show AV.leads _ (.tup [.d (vSs []), aT false]) _; repeat (first | exact DLead.same | exact DLead.nil | exact rfl | refine ⟨_, rfl, ?_⟩ | refine ⟨_, _, rfl, ?_, ?_⟩))
 refine AC.skip (th_n (AC.seq (AC.seq ?_)));have hp60 : P.length ≤ 60 := by have q := ‹(!d) = false›; have q2 : d = true := (by simpa using q); have := of_decide_eq_true (hd.symm.trans q2); omega
 rw [if_pos hp60] at hR;have hChh := hCh hp60;clear hCh hP;refine AC.region ?_;refine zm ?_;refine AL.nil (th_n (AC.block ?_));refine AC.loop (ι := Nat) (fun m => ⟨40, 300, [(1, .d (vSs on)), (8, .d (vSs P)), (21, aI m)], []⟩) (fun m => m ≤ 7 ∧ minT P on = minAt P on (7 - m) m) (fun m => 7 - m) (0) ?_ (⟨Nat.zero_le _, rfl⟩) ?_
 ·exact Weak.ren _ [] hC rfl (by repeat (first | exact True.intro | refine And.intro ?_ ?_ | exact DLead.same)) (by repeat (exact True.intro)) rfl rfl rfl
 rintro m ⟨hm, hmi⟩;refine AC.seq (AC.region ?_);refine zc ?_;refine AL.nil (th_n (AC.seq ?_));refine AC.condD rfl (fun h1 => ?_) (fun h1 => ?_)
 ·refine AC.skip (th_n (AC.seq (AC.block (AC.seq ?_))));have hm6 : m ≤ 6 := by omega
  have hCm := hChh m hm6;have hyes := @minAt_yes P on (6 - m) m;have hno := @minAt_no P on (6 - m) m;rw [show 6 - m + 1 = 7 - m by omega] at hyes hno;unfold ChSpec at hCm;obtain ⟨B, hB⟩ := eqx (chooseN P m on [] none);rw [← hB] at hCm hyes hno;have hsB : B.isSome = true → minT P on = B := fun h => by obtain ⟨b, hb⟩ := Option.isSome_iff_exists.1 h; rw [hmi, hyes hb, hb]
  have hnB : B.isSome = false → minT P on = minAt P on (7 - (m + 1)) (m + 1) := fun h => by rw [hmi, hno (by cases B with | none => rfl | some b => cases h), show 6 - m = 7 - (m + 1) by omega]
  have hmo : minO B = (B.getD [], B.isSome) := rfl;refine AC.region ?_;refine zm ?_;refine za ?_;refine AL.nil (th_n (AC.seq (AC.region ?_)));refine zm ?_;refine AL.p (by exact g_build rfl rfl rfl) rfl ?_;refine AL.q (by exact h_box rfl) rfl ?_;refine AL.p (by exact as3 rfl) rfl ?_;refine AL.nil (th_n (AC.seq ?_));refine AC.weak (t := ⟨40, 400, [(1, .d (vSs on)), (8, .d (vSs P)), (10, aI m), (11, .ptr 200 0), (21, aI m)], [(200, some (chooC P none))]⟩) (Weak.ren _ [(200, _)] hC rfl (by repeat (first | exact True.intro | refine And.intro ?_ ?_ | exact DLead.same | exact rfl | refine ⟨_, rfl, ?_⟩)) (by unfold chooC; repeat (first | exact True.intro | refine And.intro ?_ ?_ | exact DLead.same | exact DLead.nil | exact rfl | refine ⟨_, _, rfl, rfl, ?_⟩ | refine ⟨_, rfl, ?_⟩ | refine ⟨_, _, rfl, ?_, ?_⟩)) rfl rfl rfl) ?_;refine AC.region ?_;refine AL.p (by exact mv3 rfl) rfl ?_;refine zm ?_;refine zm ?_;refine kU [200] en_chooseI hCm ?_;refine AL.nil (th_n (AC.seq ?_));unfold chooC;refine AC.region ?_;refine AL.p (by exact mv3 rfl) rfl ?_;refine AL.p (by exact g_nilP rfl) rfl ?_;refine zF ?_;refine zl ?_;refine AL.nil (th_n ?_);refine AC.condB rfl (fun h2 => ?_) (fun h2 => ?_)
  ·refine AC.seq (AC.region ?_);refine AL.p (by exact mv3 rfl) rfl ?_;refine AL.p (by exact g_nilP rfl) rfl ?_;refine zF ?_;refine zl ?_;refine za ?_;refine za ?_;refine AL.nil (th_n (AC.ret (ib_r (th_r (th_r (ib_r (th_r (bq_r ?_))))))));have hs : B.isSome = true := by assumption
   have e : R = minO B := by rw [hR, hsB hs]
   exact ret0 rfl (by rw [e, hmo, hs]; repeat (first | exact DLead.same | exact rfl | refine ⟨_, rfl, ?_⟩ | refine ⟨_, _, rfl, ?_, ?_⟩))
  refine AC.skip (ib_n (th_n (AC.region ?_)));refine zA ?_;refine zm ?_;refine AL.nil (th_n ?_);exact ⟨m + 1, ⟨by omega, hnB (by assumption)⟩, by omega, Weak.ren _ [] hC rfl (by repeat (first | exact True.intro | refine And.intro ?_ ?_ | exact DLead.same)) (by repeat (exact True.intro)) rfl rfl rfl⟩
 refine AC.exit (th_e (th_e (ib_y (th_n (AC.seq (AC.region ?_))))));refine za ?_;refine za ?_;refine AL.nil (th_n (AC.ret (bq_r ?_)));have hm7 : m = 7 := by omega
 have e : R = ([], false) := by rw [hR, hmi, hm7]; rfl
 exact ret0 rfl (by rw [e]; show AV.leads _ (.tup [.d (vSs []), aT false]) _; repeat (first | exact DLead.same | exact DLead.nil | exact rfl | refine ⟨_, rfl, ?_⟩ | refine ⟨_, _, rfl, ?_, ?_⟩))
theorem en_minimumI : Enters Tryz.prog 51 := enters_of Tryz.func51 rfl rfl
theorem minR_no {n : Int} {on off : List Tx} (h : onoffB n on off = false) : minR n on off = ([], false) := by
 unfold minR;refine if_neg fun q => ?_
 have := (prR_in q).1;rw [h] at this; cases this
theorem iMinC_spec (n : Int) (on off : List Tx) (hl : on.length ≤ 1000000) (hl2 : off.length ≤ 1000000) (hb : ∀ c, c ∈ on → c.length ≤ 2000000) (hb2 : ∀ c, c ∈ off → c.length ≤ 2000000) : ASpec Tryz.prog 15 [aI n, .d (vSs on), .d (vSs off)] [] (Pure1 (.tup [.d (vSs (minR n on off).1), aT (minR n on off).2])) := by
 have hO := iOnOff_spec n on off hl hl2 hb hb2;have hM := minimumI_spec n on off;have hN := @minR_no n on off;obtain ⟨b, e⟩ := eqx (onoffB n on off);rw [← e] at hO hM hN;obtain ⟨R, hRR⟩ := eqx (minR n on off);rw [← hRR] at hM hN ⊢;clear e hRR;refine ASpec.of Tryz.func15 rfl rfl fun C hC => ?_
 refine AC.seq (AC.region ?_);refine za ?_;refine za ?_;refine AL.nil (th_n (AC.seq (AC.seq (AC.region ?_))));refine zm ?_;refine zm ?_;refine zm ?_;refine kV en_iOnOff hO ?_;refine kC ?_;refine AL.nil (th_n ?_);refine AC.condB rfl (fun h0 => ?_) (fun h0 => ?_)
 ·refine AC.seq (AC.region ?_);refine za ?_;refine za ?_;refine AL.nil (th_n (AC.ret (th_r (bq_r ?_))));have e : R = ([], false) := hN (by have q := ‹(!b) = true›; simpa using q);exact ret0 rfl (by rw [e]; show AV.leads _ (.tup [.d (vSs []), aT false]) _; repeat (first | exact DLead.same | exact DLead.nil | exact rfl | refine ⟨_, rfl, ?_⟩ | refine ⟨_, _, rfl, ?_, ?_⟩))
 refine AC.skip (th_n (AC.seq ?_));have hM1 := hM (by have q := ‹(!b) = false›; simpa using q);refine AC.region ?_;refine zm ?_;refine zm ?_;refine zm ?_;refine kV en_minimumI hM1 ?_;refine AL.p (by exact g_extract (r := .d _) rfl rfl) rfl ?_;refine AL.p (by exact g_extract (r := .d _) rfl rfl) rfl ?_;refine za ?_;refine za ?_;refine AL.nil (th_n (AC.ret (bq_r ?_)));exact ret0 rfl (by repeat (first | exact DLead.same | exact rfl | refine ⟨_, rfl, ?_⟩ | refine ⟨_, _, rfl, ?_, ?_⟩))
theorem en_iMinC : Enters Tryz.prog 15 := enters_of Tryz.func15 rfl rfl
theorem fidx_at {l : List Tx} {x : Tx} {k : Nat} (hk : k < l.length) (h : ¬ l[k] < x) (hb : ∀ j (hj : j < k), l[j]'(by omega) < x) : l.findIdx (fun y => !decide (y < x)) = k := by
 rw [List.findIdx_eq hk];refine ⟨by rw [decide_eq_false h]; rfl, fun j hj => ?_⟩;rw [decide_eq_true (hb j hj)]; rfl
theorem fidx_end {l : List Tx} {x : Tx} {k : Nat} (hb : ∀ j (hj : j < l.length), l[j] < x) (hk : k = l.length) : l.findIdx (fun y => !decide (y < x)) = k := by
 rw [hk, List.findIdx_eq_length];intro y hy;obtain ⟨j, hj, rfl⟩ := List.getElem_of_mem hy;rw [decide_eq_true (hb j hj)]; rfl
set_option maxHeartbeats 4000000 in
theorem l14Put_spec (l : List Tx) (x : Tx) (hl : l.length ≤ 1000000) : ASpec Tryz.prog 108 [.d (vSs l), aS (bstr x)] [] (Pure1 (.d (vSs (putT l x)))) := by
 refine ASpec.of Tryz.func108 rfl rfl fun C hC => ?_
 refine AC.seq (AC.region ?_);refine za ?_;refine AL.nil (th_n (AC.seq (AC.region ?_)));refine za ?_;refine AL.nil (th_n ?_);refine AC.cut (fun (k : Nat) => ⟨31, 200, [(0, .d (vSs l)), (1, aS (bstr x)), (5, aI k)], []⟩) (fun k => k ≤ l.length ∧ l.findIdx (fun y => !decide (y < x)) = k) ?_ ?_
 ·refine AC.block ?_;refine AC.loop (ι := Nat) (fun k => ⟨31, 100, [(0, .d (vSs l)), (1, aS (bstr x)), (5, aI k)], []⟩) (fun k => k ≤ l.length ∧ ∀ j (hj : j < l.length), j < k → l[j] < x) (fun k => l.length - k) (0) ?_ (⟨Nat.zero_le _, fun j _ hj => by omega⟩) ?_
  ·exact Weak.ren _ [] hC rfl (by repeat (first | exact True.intro | refine And.intro ?_ ?_ | exact DLead.same)) (by repeat (exact True.intro)) rfl rfl rfl
  rintro k ⟨hk, hall⟩;refine AC.seq (AC.seq (AC.region ?_));refine zm ?_;refine zm ?_;refine kI l.length (strsL_len _) ?_;refine zc ?_;refine zm ?_;refine AL.caseG rfl rfl (fun h0 => ?_) (fun h0 => ?_)
  ·refine zy ?_;have hk1 : k < l.length := by omega
   have hget := strs_at hk1;have hlt := bless l[k] x;refine zm ?_;refine zy ?_;refine zm ?_;refine zy ?_;refine AL.p (by exact g_ia_view (i := k) rfl rfl rfl rfl rfl rfl hget) rfl ?_;refine zy ?_;refine zr ?_;refine zy ?_;refine zm ?_;refine zy ?_;refine AL.p (by exact g_scmp (r := decide (l[k] < x)) rfl rfl (congrArg some hlt)) rfl ?_;refine zQ ?_;refine AL.nil (th_n ?_);refine AC.condD rfl (fun h1 => ?_) (fun h1 => ?_)
   ·refine AC.skip (th_n (AC.block (AC.region ?_)));refine zm ?_;refine zA ?_;refine za ?_;refine AL.nil (ib_n (th_n ?_));exact ⟨k + 1, ⟨by omega, fun j hj hj2 => by rcases Nat.lt_succ_iff_lt_or_eq.1 hj2 with h | rfl; exact hall j hj h; (assumption)⟩, by omega, Weak.ren _ [] hC rfl (by repeat (first | exact True.intro | refine And.intro ?_ ?_ | exact DLead.same)) (by repeat (exact True.intro)) rfl rfl rfl⟩
   refine AC.exit (th_e (th_e (ib_y (th_n ?_))))
   (have hk1 : k < l.length := (by omega); have h9 : ¬ l[k] < x := (by assumption); exact ⟨k, ⟨hk, fidx_at hk1 h9 (fun j hj => hall j (by omega) hj)⟩, Weak.ren _ [] hC rfl (by repeat (first | exact True.intro | refine And.intro ?_ ?_ | exact DLead.same)) (by repeat (exact True.intro)) rfl rfl rfl⟩)
  refine zn ?_;refine zn ?_;refine zn ?_;refine zn ?_;refine zn ?_;refine zn ?_;refine zP ?_;refine AL.nil (th_n ?_);refine AC.condF rfl ?_;refine AC.exit (th_e (th_e (ib_y (th_n ?_))));exact ⟨k, ⟨hk, fidx_end (fun j hj => hall j hj (by omega)) (by omega)⟩, Weak.ren _ [] hC rfl (by repeat (first | exact True.intro | refine And.intro ?_ ?_ | exact DLead.same)) (by repeat (exact True.intro)) rfl rfl rfl⟩
 rintro k ⟨hk, hidx⟩;refine AC.seq ?_;have e : putT l x = l.take k ++ [x] ++ l.drop k := by unfold putT; rw [hidx]
 have htk : strsL (l.take k) = (strsL l).take k := by unfold strsL; rw [List.map_take]
 have hdk : strsL (l.drop k) = (strsL l).drop k := by unfold strsL; rw [List.map_drop]
 have htl : (l.take k).length = k := by rw [List.length_take]; omega
 have hdl : (l.drop k).length = l.length - k := List.length_drop;have hOw := l1OwnS_spec (l.take k) (by omega);refine AC.drawn' mixed_ok [[], [], [0,1], [0,1,2], [], [4], [0,1,2,3,4,5], [], [], [7,8], [0,1,2,3,4,5,6,7,8,9], [0,1,2,3,4,5,6,7,8,9,10]] (by decide) ?_;refine zd 0 [] 12 (by exact mv1 rfl) ?_;refine zd 1 [] 12 (by exact mv1 rfl) ?_;refine zd 2 [0,1] 12 (by exact g_slice_view (r := strsL (l.take k)) rfl rfl rfl rfl .none (.some rfl rfl) (Nat.zero_le _) (by rw [strsL_len]; exact hk) (by rw [List.drop_zero, htk])) ?_;refine zh 3 [0,1,2] 12 (by exact h_fun (cs := []) en_l1OwnS rfl rfl (by repeat (first | exact rfl | exact DLead.same | refine ⟨_, _, rfl, ?_, ?_⟩)) (by repeat (exact True.intro)) hOw rfl rfl rfl rfl) ?_;refine zd 4 [] 12 (by exact mv1 rfl) ?_;refine zh 5 [4] 12 (by exact h_litF rfl rfl rfl rfl rfl rfl rfl rfl) ?_;refine zh 6 [0,1,2,3,4,5] 12 (by exact h_appendSt (l.take k) [x] (.own rfl rfl (strsL_len _).symm) (.view rfl) (by rw [List.length_append]; simp only [List.length_cons, List.length_nil]; omega) (by simp)) ?_;refine zd 7 [] 12 (by exact mv1 rfl) ?_;refine zd 8 [] 12 (by exact mv1 rfl) ?_;refine zd 9 [7,8] 12 (by exact g_slice_view (l := k) (r := strsL (l.drop k)) rfl rfl rfl rfl (.some rfl rfl) .none (by rw [strsL_len]; omega) (Nat.le_refl _) (by rw [List.take_length, hdk])) ?_;refine zh 10 (List.range 10) 12 (by exact h_appendSt (l.take k ++ [x]) (l.drop k) (.own rfl rfl (strsL_len _).symm) (.view rfl) (by rw [List.length_append, List.length_append]; simp only [List.length_cons, List.length_nil]; omega) (by simp)) ?_;refine zd 11 (List.range 11) 12 (by exact as2 rfl) ?_;refine zj 12 ?_;refine th_n ?_;refine AC.weak (Weak.freeze (i := 4) rfl rfl (Nat.le_of_eq (strsL_len _).symm) (List.take_of_length_le (Nat.le_of_eq (strsL_len _)))) ?_;refine AC.ret (bq_r ?_);exact ret1 rfl (by rw [e])
theorem en_l14Put : Enters Tryz.prog 108 := enters_of Tryz.func108 rfl rfl
def schC (P on : List Tx) (B : Option (List Tx)) : Chunk := .cells 78 [.d (vSs P), .d (vSs on), .d (vSs (B.getD [])), aT B.isSome]
theorem ltL_drop {a b : List Tx} {i : Nat} (ha : i < a.length) (hb : i < b.length) : ltL (a.drop i) (b.drop i) = if a.getD i [] = b.getD i [] then ltL (a.drop (i + 1)) (b.drop (i + 1)) else decide (a.getD i [] < b.getD i []) := by
 rw [← List.getElem_cons_drop ha, ← List.getElem_cons_drop hb, ltL, tx_at ha, tx_at hb]
set_option maxHeartbeats 4000000 in
theorem betterS_spec (P on l : List Tx) (B : Option (List Tx)) (hl : l.length ≤ 1000000) (hb : ∀ c, c ∈ l → c.length ≤ 1000) (hB : ∀ b, B = some b → b.length = l.length ∧ ∀ c, c ∈ b → c.length ≤ 1000) : ASpec Tryz.prog 109 [.ptr 0 0, .d (vSs l)] [(0, schC P on B)] (Fun1 (aT (betT l B)) [(0, schC P on B)]) := by
 have h1 := l14Lits_spec l hl hb
 have hBl : (B.getD []).length ≤ 1000000 ∧ ∀ c, c ∈ B.getD [] → c.length ≤ 1000 := by
  cases B with
  | none => exact ⟨Nat.zero_le _, fun c hc => by cases hc⟩
  | some b => exact ⟨by have := (hB b rfl).1; show b.length ≤ _; omega, (hB b rfl).2⟩
 have h2 := l14Lits_spec (B.getD []) hBl.1 hBl.2
 have h3 : B.isSome = true → (B.getD []).length = l.length := fun h => by
  cases B with
  | none => cases h
  | some b => exact (hB b rfl).1
 have h4 : B.isSome = true → betT l B = (decide (litS l < litS (B.getD [])) || (decide (litS l = litS (B.getD [])) && ltL l (B.getD []))) := fun h => by
  cases B with
  | none => cases h
  | some b => rfl
 have h5 : B.isSome = false → betT l B = true := fun h => by
  cases B with
  | none => rfl
  | some b => cases h
 unfold schC;obtain ⟨W, hW⟩ := eqx (B.getD []);rw [← hW] at h2 h3 h4 ⊢;obtain ⟨f, hf⟩ := eqx B.isSome;rw [← hf] at h3 h4 h5 ⊢;obtain ⟨R, hR⟩ := eqx (betT l B);rw [← hR] at h4 h5 ⊢;obtain ⟨N, hN⟩ := eqx (litS l);obtain ⟨M, hM⟩ := eqx (litS W);rw [← hN] at h1 h4;rw [← hM] at h2 h4;have hD := fun i h1 h2 => ltL_drop (a := l) (b := W) (i := i) h1 h2
 clear hf hR hN hM hW hB hBl;refine ASpec.of Tryz.func109 rfl rfl fun C hC => ?_
 refine AC.seq (AC.region ?_);refine za ?_;refine AL.nil (th_n (AC.seq ?_));refine AC.drawn' mixed_ok [[], [0], [], [2], [2,3], [2,3,4], [0,1,2,3,4,5], [0,1,2,3,4,5,6], [0,1,2,3,4,5,6,7]] (by decide) ?_;refine zd 0 [] 9 (by exact mv1 rfl) ?_;refine zh 1 [0] 9 (by exact h_pure en_l14Lits rfl rfl (by repeat (first | exact rfl | exact DLead.same | refine ⟨_, _, rfl, ?_, ?_⟩)) h1 rfl) ?_;refine zd 2 [] 9 (by exact mv3 rfl) ?_;refine zd 3 [2] 9 (by exact g_nilP rfl) ?_;refine zd 4 [2,3] 9 (by exact g_fa_ptr rfl rfl rfl rfl rfl) ?_;refine zd 5 [2,3,4] 9 (by exact g_load_ptr rfl rfl rfl rfl rfl) ?_;refine zh 6 [0,1,2,3,4,5] 9 (by exact h_pure en_l14Lits rfl rfl (by repeat (first | exact rfl | exact DLead.same | refine ⟨_, _, rfl, ?_, ?_⟩)) h2 rfl) ?_;refine zd 7 [0,1,2,3,4,5,6] 9 (by exact as1 rfl) ?_;refine zd 8 [0,1,2,3,4,5,6,7] 9 (by exact as1 rfl) ?_;refine zj 9 ?_;refine th_n (AC.seq (AC.seq (AC.region ?_)));refine AL.p (by exact mv3 rfl) rfl ?_;refine AL.p (by exact g_nilP rfl) rfl ?_;refine zF ?_;refine zl ?_;refine kC ?_;refine zm ?_;refine AL.caseGB rfl rfl (fun h0 => ?_) (fun h0 => ?_)
 ·refine zn ?_;refine zn ?_;refine zn ?_;refine zQ ?_;refine AL.nil (th_n ?_);refine AC.condT rfl ?_;refine AC.seq (AC.region ?_);refine AL.p (by exact mv3 rfl) rfl ?_;refine AL.p (by exact g_nilP rfl) rfl ?_;refine zF ?_;refine zl ?_;refine kC ?_;refine zm ?_;refine AL.caseGB rfl rfl (fun h1 => ?_) (fun h1 => ?_)
  ·refine zn ?_;refine zn ?_;refine zn ?_;refine zQ ?_;refine za ?_;refine AL.nil (th_n (AC.ret (th_r (bq_r ?_))))
   (have q := ‹(!f) = true›; exact retF rfl (by rw [h5 (by simpa using q)]; repeat (exact DLead.same)) (by repeat (first | exact True.intro | refine And.intro ?_ ?_ | exact DLead.same | exact rfl | refine ⟨_, _, rfl, rfl, ?_⟩ | refine ⟨_, rfl, ?_⟩ | refine ⟨_, _, rfl, ?_, ?_⟩)) rfl)
  refine zy ?_;refine zm ?_;refine zy ?_;refine zm ?_;refine zy ?_;refine zc ?_;refine zP ?_;refine za ?_;refine AL.nil (th_n (AC.ret (th_r (bq_r ?_))));exact absurd (‹(!f) = true›.symm.trans ‹(!f) = false›) (by decide)
 refine zy ?_;refine zm ?_;refine zy ?_;refine zm ?_;refine zy ?_;refine zc ?_;refine zP ?_;refine AL.nil (th_n ?_);refine AC.condND rfl (fun h1 => ?_) (fun h1 => ?_)
 ·refine AC.seq (AC.region ?_);refine AL.p (by exact mv3 rfl) rfl ?_;refine AL.p (by exact g_nilP rfl) rfl ?_;refine zF ?_;refine zl ?_;refine kC ?_;refine zm ?_;refine AL.caseGB rfl rfl (fun h2 => ?_) (fun h2 => ?_)
  ·refine zn ?_;refine zn ?_;refine zn ?_;refine zQ ?_;refine za ?_;refine AL.nil (th_n (AC.ret (th_r (bq_r ?_))));exact absurd (‹(!f) = true›.symm.trans ‹(!f) = false›) (by decide)
  refine zy ?_;refine zm ?_;refine zy ?_;refine zm ?_;refine zy ?_;refine zc ?_;refine zP ?_;refine za ?_;refine AL.nil (th_n (AC.ret (th_r (bq_r ?_))))
  (have q := ‹(!f) = false›; have h6 := h4 (by simpa using q); exact retF rfl (by rw [h6, decide_eq_false (show ¬ N = M by omega), Bool.false_and, Bool.or_false, show decide (N < M) = decide ((N : Int) < (M : Int)) from decide_eq_decide.2 ⟨fun h => by omega, fun h => by omega⟩]; repeat (exact DLead.same)) (by repeat (first | exact True.intro | refine And.intro ?_ ?_ | exact DLead.same | exact rfl | refine ⟨_, _, rfl, rfl, ?_⟩ | refine ⟨_, rfl, ?_⟩ | refine ⟨_, _, rfl, ?_, ?_⟩)) rfl)
 refine AC.skip (th_n (AC.seq (AC.seq ?_)));have hft : f = true := by have q := ‹(!f) = false›; simpa using q
 have hNM : N = M := by omega
 have hwl := h3 hft;have h6 := h4 hft;rw [decide_eq_false (show ¬ N < M by omega), decide_eq_true hNM, Bool.true_and, Bool.false_or] at h6;refine AC.region ?_;refine zm ?_;refine kI l.length (strsL_len _) ?_;refine zm ?_;refine AL.nil (th_n (AC.block ?_));refine AC.loop (ι := Nat) (fun i => ⟨65, 300, [(0, .ptr 0 0), (1, .d (vSs l)), (36, aI l.length), (37, aI i)], [(0, some (.cells 78 [.d (vSs P), .d (vSs on), .d (vSs W), aT f]))]⟩) (fun i => i ≤ l.length ∧ R = ltL (l.drop i) (W.drop i)) (fun i => l.length - i) (0) ?_ (⟨Nat.zero_le _, h6⟩) ?_
 ·exact zw [] hC
 rintro i ⟨hi, hRi⟩;refine AC.seq (AC.region ?_);refine zc ?_;refine AL.nil (th_n (AC.seq ?_));refine AC.condD rfl (fun h2 => ?_) (fun h2 => ?_)
 ·refine AC.skip (th_n (AC.seq (AC.block (AC.seq ?_))));have hi1 : i < l.length := by omega
  have hg1 := strs_get hi1;have hg2 := strs_get (l := W) (k := i) (by omega);have hDi := hD i hi1 (by omega);obtain ⟨u, hu⟩ := eqx (l.getD i []);obtain ⟨v, hv⟩ := eqx (W.getD i []);rw [← hu] at hg1 hDi;rw [← hv] at hg2 hDi;have hlt := bless u v;clear hu hv;refine AC.region ?_;refine zm ?_;refine za ?_;refine AL.nil (th_n (AC.seq ?_));refine AC.drawn' mixed_ok [[], [], [0,1], [0,1,2], [], [4], [4,5], [4,5,6], [], [4,5,6,7,8], [4,5,6,7,8,9], [0,1,2,3,4,5,6,7,8,9,10]] (by decide) ?_;refine zd 0 [] 12 (by exact mv1 rfl) ?_;refine zd 1 [] 12 (by exact mv1 rfl) ?_;refine zd 2 [0,1] 12 (by exact g_ia_view (i := i) rfl rfl rfl rfl rfl rfl hg1) ?_;refine zd 3 [0,1,2] 12 (by exact g_load_ref rfl rfl rfl) ?_;refine zd 4 [] 12 (by exact mv3 rfl) ?_;refine zd 5 [4] 12 (by exact g_nilP rfl) ?_;refine zd 6 [4,5] 12 (by exact g_fa_ptr rfl rfl rfl rfl rfl) ?_;refine zd 7 [4,5,6] 12 (by exact g_load_ptr rfl rfl rfl rfl rfl) ?_;refine zd 8 [] 12 (by exact mv1 rfl) ?_;refine zd 9 [4,5,6,7,8] 12 (by exact g_ia_view (i := i) rfl rfl rfl rfl rfl rfl hg2) ?_;refine zd 10 [4,5,6,7,8,9] 12 (by exact g_load_ref rfl rfl rfl) ?_;refine zd 11 (List.range 11) 12 (by exact g_scmp rfl rfl rfl) ?_;refine zj 12 ?_;refine th_n ?_;refine AC.condND rfl (fun h3 => ?_) (fun h3 => ?_)
  ·refine AC.seq ?_;refine AC.drawn' mixed_ok [[], [], [0,1], [0,1,2], [], [4], [4,5], [4,5,6], [], [4,5,6,7,8], [4,5,6,7,8,9], [0,1,2,3,4,5,6,7,8,9,10], [0,1,2,3,4,5,6,7,8,9,10,11]] (by decide) ?_;refine zd 0 [] 13 (by exact mv1 rfl) ?_;refine zd 1 [] 13 (by exact mv1 rfl) ?_;refine zd 2 [0,1] 13 (by exact g_ia_view (i := i) rfl rfl rfl rfl rfl rfl hg1) ?_;refine zd 3 [0,1,2] 13 (by exact g_load_ref rfl rfl rfl) ?_;refine zd 4 [] 13 (by exact mv3 rfl) ?_;refine zd 5 [4] 13 (by exact g_nilP rfl) ?_;refine zd 6 [4,5] 13 (by exact g_fa_ptr rfl rfl rfl rfl rfl) ?_;refine zd 7 [4,5,6] 13 (by exact g_load_ptr rfl rfl rfl rfl rfl) ?_;refine zd 8 [] 13 (by exact mv1 rfl) ?_;refine zd 9 [4,5,6,7,8] 13 (by exact g_ia_view (i := i) rfl rfl rfl rfl rfl rfl hg2) ?_;refine zd 10 [4,5,6,7,8,9] 13 (by exact g_load_ref rfl rfl rfl) ?_;refine zd 11 (List.range 11) 13 (by exact g_scmp (r := decide (u < v)) rfl rfl (congrArg some hlt)) ?_;refine zd 12 (List.range 12) 13 (by exact as1 rfl) ?_;refine zj 13 ?_;refine th_n (AC.ret (ib_r (th_r (th_r (ib_r (th_r (bq_r ?_)))))));have hne : ¬ u = v := fun e => absurd (congrArg bstr e) (by assumption)
   exact retF rfl (by rw [hRi, hDi, if_neg hne]; repeat (exact DLead.same)) (by repeat (first | exact True.intro | refine And.intro ?_ ?_ | exact DLead.same | exact rfl | refine ⟨_, _, rfl, rfl, ?_⟩ | refine ⟨_, rfl, ?_⟩ | refine ⟨_, _, rfl, ?_, ?_⟩)) rfl
  refine AC.skip (ib_n (th_n (AC.region ?_)));refine zA ?_;refine zm ?_;refine AL.nil (th_n ?_);have he : u = v := bstr_inj (by assumption);exact ⟨i + 1, ⟨by omega, by rw [hRi, hDi, if_pos he]⟩, by omega, zw [] hC⟩
 refine AC.exit (th_e (th_e (ib_y (th_n (AC.seq (AC.region ?_))))));refine za ?_;refine AL.nil (th_n (AC.ret (bq_r ?_)));have hii : i = l.length := by omega
 exact retF rfl (by rw [hRi, hii, List.drop_length, ← hwl, List.drop_length]; repeat (exact DLead.same)) (by repeat (first | exact True.intro | refine And.intro ?_ ?_ | exact DLead.same | exact rfl | refine ⟨_, _, rfl, rfl, ?_⟩ | refine ⟨_, rfl, ?_⟩ | refine ⟨_, _, rfl, ?_, ?_⟩)) rfl
theorem en_betterS : Enters Tryz.prog 109 := enters_of Tryz.func109 rfl rfl
structure SrOk (P on taken : List Tx) (m M w : Nat) : Prop where
 w8 : w ≤ 8
 m6 : M ≤ 6
 sum : taken.length + m = M
 pl : P.length ≤ 60
 ol : on.length ≤ 64
 pw : ∀ p, p ∈ P → p.length = w
 ow : ∀ c, c ∈ on → c.length = w
 tw : ∀ p, p ∈ taken → p.length = w
 nl : noLess P m (unC on taken)
theorem unC_first {on taken : List Tx} {i : Nat} (hi : i < on.length) (hall : ∀ j (hj : j < on.length), j < i → covB taken on[j] = true) (h : covB taken on[i] = false) : ∃ t, unC on taken = on[i] :: t := by
 unfold unC;have e : on = on.take i ++ on[i] :: on.drop (i + 1) := by rw [List.getElem_cons_drop, List.take_append_drop]
 have h1 : (on.take i).filter (fun x => !covB taken x) = [] := List.filter_eq_nil_iff.2 fun x hx => by
  obtain ⟨j, hj, rfl⟩ := List.mem_take_iff_getElem.1 hx;rw [hall j (by omega) (by omega)]; decide
 refine ⟨(on.drop (i + 1)).filter (fun x => !covB taken x), ?_⟩
 conv => lhs; rw [e]
 rw [List.filter_append, h1, List.nil_append, List.filter_cons, if_pos (by rw [h]; rfl)]
theorem unC_none {on taken : List Tx} (hall : ∀ j (hj : j < on.length), covB taken on[j] = true) : unC on taken = [] := by
 unfold unC;refine List.filter_eq_nil_iff.2 fun x hx => ?_
 obtain ⟨j, hj, rfl⟩ := List.getElem_of_mem hx;rw [hall j hj]; decide
def srF (P on : List Tx) (m : Nat) (taken : List Tx) (c : Tx) (B : Option (List Tx)) (p : Tx) : Option (List Tx) := if 0 < m ∧ hasC p c = true then searchN P on (m - 1) (putT taken p) B else B
theorem foldl_id {α β : Type} (f : β → α → β) : ∀ (L : List α) (B : β), (∀ B a, f B a = B) → L.foldl f B = B
 | [], _, _ => rfl
 | a :: L, B, h => by rw [List.foldl_cons, h, foldl_id f L B h]
theorem search_fold {P on taken : List Tx} {m : Nat} {B : Option (List Tx)} {c : Tx} {t : List Tx} (h : unC on taken = c :: t) : searchN P on m taken B = P.foldl (srF P on m taken c) B := by
 cases m with
 | zero => rw [searchN_zero h, foldl_id]; intro B a; unfold srF; rw [if_neg (fun q => absurd q.1 (Nat.lt_irrefl 0))]
 | succ k =>
  rw [searchN_succ h];refine foldl_ext _ _ P B fun B p _ => ?_
  unfold srF
  by_cases hc : hasC p c = true
  ·rw [if_pos hc, if_pos ⟨Nat.succ_pos k, hc⟩]; rfl
  rw [if_neg hc, if_neg (fun q => hc q.2)]
theorem sr_next {P on taken t : List Tx} {k M w : Nat} {p c : Tx} (h : SrOk P on taken (k + 1) M w) (hp : p ∈ P) (hu : unC on taken = c :: t) (hc : hasC p c = true) : SrOk P on (putT taken p) k M w := by
 have hnl := h.nl;rw [hu] at hnl;refine ⟨h.w8, h.m6, by rw [put_len]; have := h.sum; omega, h.pl, h.ol, h.pw, h.ow, fun q hq => ?_, by rw [unC_put, hu]; exact noLess_next hnl hp hc⟩;rcases List.mem_append.1 ((putT_perm taken p).mem_iff.1 hq) with e | e
 ·exact h.tw q e
 rw [List.mem_singleton.1 e]; exact h.pw p hp
theorem foldl_inv {α β : Type} (f : β → α → β) (Q : β → Prop) : ∀ (L : List α) (B : β), Q B → (∀ B a, a ∈ L → Q B → Q (f B a)) → Q (L.foldl f B)
 | [], _, h, _ => h
 | a :: L, B, h, hf => by rw [List.foldl_cons]; exact foldl_inv f Q L _ (hf B a List.mem_cons_self h) fun B b hb => hf B b (List.mem_cons_of_mem _ hb)
theorem con_ok {M w : Nat} {l : List Tx} {B : Option (List Tx)} (hl : l.length = M) (hw : ∀ x, x ∈ l → x.length = w) (hB : BOk M w B) : BOk M w (conT l B) := by
 rcases conT_or l B with e | e
 ·rw [e]; exact hB
 rw [e]; intro b hb; obtain rfl : l = b := Option.some.inj hb; exact ⟨hl, hw⟩
theorem search_ok (P on : List Tx) (M w : Nat) : ∀ (m : Nat) (taken : List Tx) (B : Option (List Tx)), SrOk P on taken m M w → BOk M w B → BOk M w (searchN P on m taken B) := by
 intro m
 induction m with
 | zero =>
  intro taken B h hB;cases hu : unC on taken with
  | nil => rw [searchN_nil hu]; exact con_ok (by have := h.sum; omega) h.tw hB
  | cons c t => rw [searchN_zero hu]; exact hB
 | succ k ih =>
  intro taken B h hB;cases hu : unC on taken with
  | nil =>
   have := h.nl;rw [hu] at this;have := noLess_nil this;omega
  | cons c t =>
   rw [searchN_succ hu];refine foldl_inv _ _ P B hB fun B' p hp hB' => ?_
   by_cases hc : hasC p c = true
   ·rw [if_pos hc]; exact ih _ _ (sr_next h hp hu hc) hB'
   rw [if_neg hc]; exact hB'
theorem en_searchS : Enters Tryz.prog 89 := enters_of Tryz.func89 rfl rfl
def SrSpec (P on taken : List Tx) (m : Nat) (B : Option (List Tx)) : Prop := ASpec Tryz.prog 89 [.ptr 0 0, .d (vSs taken), aI m] [(0, schC P on B)] (Fun1 (.tup []) [(0, schC P on (searchN P on m taken B))])
set_option maxHeartbeats 16000000 in
theorem search_step (P on : List Tx) (M w m : Nat) (ih : ∀ k, k < m → ∀ taken B, SrOk P on taken k M w → BOk M w B → SrSpec P on taken k B) (taken : List Tx) (B : Option (List Tx)) (hK : SrOk P on taken m M w) (hB : BOk M w B) : SrSpec P on taken m B := by
 have hw8 := hK.w8;have hm6 := hK.m6;have hsum := hK.sum;have hpl := hK.pl;have hol := hK.ol;have hpw := hK.pw;have how := hK.ow;have htw := hK.tw;have hIn := fun (c : Tx) (hc : c.length = w) => l13In_spec taken c (by omega) (by omega) (fun x hx => by rw [hc, htw x hx])
 have hfirst := fun i hi hall h => unC_first (on := on) (taken := taken) (i := i) hi hall h
 have hnone := @unC_none on taken
 have hBt : unC on taken = [] → ASpec Tryz.prog 109 [.ptr 0 0, .d (vSs taken)] [(0, schC P on B)] (Fun1 (aT (betT taken B)) [(0, schC P on B)]) := fun h => by
  have hn := hK.nl;rw [h] at hn;have h0 := noLess_nil hn;exact betterS_spec P on taken B (by omega) (fun c hc => by rw [htw c hc]; omega) (fun b hb => by obtain ⟨h1, h2⟩ := hB b hb; exact ⟨by omega, fun c hc => by rw [h2 c hc]; omega⟩)
 have hEnd : unC on taken = [] → searchN P on m taken B = conT taken B := fun h => searchN_nil h
 have hCon : conT taken B = if betT taken B = true then some taken else B := rfl
 have hFold := fun c t (h : unC on taken = c :: t) => search_fold (P := P) (m := m) (B := B) h
 have hPut := fun p => l14Put_spec taken p (by omega)
 have hNx := fun (p c : Tx) (t : List Tx) k (hk : m = k + 1) (hp : p ∈ P) (hu : unC on taken = c :: t) (hc : hasC p c = true) => sr_next (k := k) (by rw [← hk]; exact hK) hp hu hc
 unfold SrSpec;obtain ⟨R, hR⟩ := eqx (searchN P on m taken B);rw [← hR] at hEnd hFold ⊢;have hEnd := hEnd;clear hR;refine ASpec.of Tryz.func89 rfl rfl fun C hC => ?_
 refine AC.seq (AC.seq (AC.region ?_));refine AL.p (by exact mv3 rfl) rfl ?_;refine AL.p (by exact g_nilP rfl) rfl ?_;refine zF ?_;refine zl ?_;refine kI on.length (strsL_len _) ?_;refine zm ?_;refine AL.nil (th_n (AC.block ?_));refine AC.loop (ι := Nat) (fun i => ⟨57, 100, [(0, .ptr 0 0), (1, .d (vSs taken)), (2, aI m), (13, .d (vSs on)), (14, aI on.length), (15, aI i)], [(0, some (schC P on B))]⟩) (fun i => i ≤ on.length ∧ ∀ j (hj : j < on.length), j < i → covB taken on[j] = true) (fun i => on.length - i) (0) ?_ (⟨Nat.zero_le _, fun j _ h => by omega⟩) ?_
 ·exact zw [] hC
 rintro i ⟨hi, hall⟩;refine AC.seq (AC.region ?_);refine zc ?_;refine AL.nil (th_n (AC.seq ?_));refine AC.condD rfl (fun h0 => ?_) (fun h0 => ?_)
 ·refine AC.skip (th_n (AC.seq (AC.block (AC.seq ?_))));have hi1 : i < on.length := by omega
  have hget := strs_at hi1;have hfi := hfirst i hi1 hall;have hcw := how _ (List.getElem_mem hi1);have hmore : covB taken on[i] = true → ∀ j (hj : j < on.length), j < i + 1 → covB taken on[j] = true := fun h j hj hji => by rcases Nat.lt_succ_iff_lt_or_eq.1 hji with q | rfl; exact hall j hj q; exact h
  obtain ⟨c, hc⟩ := eqx (on[i]);rw [← hc] at hget hfi hcw hmore;have hInc := hIn c hcw;obtain ⟨b, hb⟩ := eqx (covB taken c);rw [← hb] at hInc hfi hmore;clear hc hb;refine AC.region ?_;refine AL.p (by exact g_ia_view (i := i) rfl rfl rfl rfl rfl rfl hget) rfl ?_;refine zr ?_;refine za ?_;refine AL.nil (th_n (AC.seq (AC.seq (AC.region ?_))));refine zm ?_;refine zm ?_;refine kV en_l13In hInc ?_;refine AL.nil (th_n ?_);refine AC.condB rfl (fun h1 => ?_) (fun h1 => ?_)
  ·refine AC.exit (th_e (ib_y (th_n (AC.region ?_))));refine zA ?_;refine zm ?_;refine AL.nil (th_n ?_);exact ⟨i + 1, ⟨by omega, hmore ‹b = true›⟩, by omega, zw [] hC⟩
  refine AC.skip (th_n (AC.seq (AC.seq ?_)));obtain ⟨t, hu⟩ := hfi ‹b = false›;have hFo := hFold c t hu;have hFd : ∀ B' p, srF P on m taken c B' p = if 0 < m ∧ hasC p c = true then searchN P on (m - 1) (putT taken p) B' else B' := fun _ _ => rfl
  obtain ⟨f, hf⟩ := eqx (srF P on m taken c);rw [← hf] at hFo hFd;clear hf;refine AC.region ?_;refine AL.p (by exact mv3 rfl) rfl ?_;refine AL.p (by exact g_nilP rfl) rfl ?_;refine zF ?_;refine zl ?_;refine kI P.length (strsL_len _) ?_;refine zm ?_;refine AL.nil (th_n (AC.block ?_));refine AC.loop (ι := Nat × Option (List Tx)) (fun y => ⟨57, 300, [(0, .ptr 0 0), (1, .d (vSs taken)), (2, aI m), (7, aS (bstr c)), (25, .d (vSs P)), (26, aI P.length), (27, aI y.1)], [(0, some (schC P on y.2))]⟩) (fun y => y.1 ≤ P.length ∧ y.2 = (P.take y.1).foldl f B ∧ BOk M w y.2) (fun y => P.length - y.1) ((0, B)) ?_ (⟨Nat.zero_le _, rfl, hB⟩) ?_
  ·exact zw [] hC
  rintro ⟨j, D⟩ ⟨hj, hD, hBj⟩;dsimp only at hj hD hBj ⊢;refine AC.seq (AC.region ?_);refine zc ?_;refine AL.nil (th_n (AC.seq ?_));refine AC.condD rfl (fun h2 => ?_) (fun h2 => ?_)
  ·refine AC.skip (th_n (AC.seq (AC.block (AC.seq ?_))));have hj1 : j < P.length := by omega
   have hgp := strs_at hj1;have hpm := List.getElem_mem hj1;have hsn := fold_snoc f B hj1;rw [← hD, hFd] at hsn;obtain ⟨p, hp⟩ := eqx (P[j]);rw [← hp] at hgp hpm hsn;have hpw1 := hpw p hpm;have hH := l13Has_spec p c (by omega) (by omega);have hPu := hPut p;have hCall : 0 < m → hasC p c = true → SrSpec P on (putT taken p) (m - 1) D ∧ BOk M w (searchN P on (m - 1) (putT taken p) D) := fun h0 h => by have q := hNx p c t (m - 1) (by omega) hpm hu h; exact ⟨ih (m - 1) (by omega) _ _ q hBj, search_ok P on M w _ _ _ q hBj⟩
   unfold SrSpec at hCall;obtain ⟨b2, hb2⟩ := eqx (hasC p c);rw [← hb2] at hH hsn hCall;obtain ⟨E, hE⟩ := eqx (searchN P on (m - 1) (putT taken p) D);rw [← hE] at hsn hCall;obtain ⟨T, hT⟩ := eqx (putT taken p);rw [← hT] at hPu hCall;clear hp hb2 hE hT;refine AC.region ?_;refine AL.p (by exact g_ia_view (i := j) rfl rfl rfl rfl rfl rfl hgp) rfl ?_;refine zr ?_;refine za ?_;refine AL.nil (th_n (AC.seq (AC.region ?_)));refine zm ?_;refine zc ?_;refine zm ?_;refine AL.caseG rfl rfl (fun h3 => ?_) (fun h3 => ?_)
   ·refine zy ?_;refine zm ?_;refine zy ?_;refine zm ?_;refine zy ?_;refine kV en_l13Has hH ?_;refine zQ ?_;refine AL.nil (th_n ?_);refine AC.condB rfl (fun h4 => ?_) (fun h4 => ?_)
    ·have h0m : 0 < m := by omega
     have hb2t : b2 = true := by assumption
     obtain ⟨hC1, hC2⟩ := hCall h0m hb2t;rw [if_pos ⟨h0m, hb2t⟩] at hsn;refine AC.region ?_;refine AL.p (by exact mv3 rfl) rfl ?_;refine zm ?_;refine zm ?_;refine kV en_l14Put hPu ?_;refine zm ?_;refine AL.p (by exact g_arith (e := ((m - 1 : Nat) : Int)) rfl rfl rfl (by rw [show (m : Int) - 1 = ((m - 1 : Nat) : Int) by omega]; exact wrap_i64 (by omega))) rfl ?_;refine kU [0] en_searchS hC1 ?_;refine AL.nil (ib_n (th_n (AC.region ?_)));refine zA ?_;refine zm ?_;refine AL.nil (th_n ?_)
     (have w1 := ‹b2 = true›; exact ⟨(j + 1, E), ⟨by dsimp only; omega, hsn.symm, hC2⟩, by dsimp only; omega, zw [] hC⟩)
    refine AC.skip (ib_n (th_n (AC.region ?_)));refine zA ?_;refine zm ?_;refine AL.nil (th_n ?_)
    (have w1 := ‹b2 = false›; rw [if_neg (fun q => by rw [w1] at q; exact absurd q.2 (by decide))] at hsn; exact ⟨(j + 1, D), ⟨by dsimp only; omega, hsn.symm, hBj⟩, by dsimp only; omega, zw [] hC⟩)
   refine zn ?_;refine zn ?_;refine zn ?_;refine zP ?_;refine AL.nil (th_n ?_);refine AC.condF rfl ?_;refine AC.skip (ib_n (th_n (AC.region ?_)));refine zA ?_;refine zm ?_;refine AL.nil (th_n ?_)
   (rw [if_neg (fun q => absurd q.1 (by omega))] at hsn; exact ⟨(j + 1, D), ⟨by dsimp only; omega, hsn.symm, hBj⟩, by dsimp only; omega, zw [] hC⟩)
  refine AC.exit (th_e (th_e (ib_y (th_n (AC.ret (ib_r (th_r (th_r (ib_r (th_r (bq_r ?_)))))))))));have hjj : j = P.length := by omega
  have e : R = D := by rw [hFo, hD, hjj, List.take_length]
  exact retF rfl (by repeat (first | exact rfl | refine ⟨_, rfl, ?_⟩)) (by rw [e]; repeat (first | exact True.intro | refine And.intro ?_ ?_ | exact DLead.same | exact rfl | refine ⟨_, _, rfl, rfl, ?_⟩ | refine ⟨_, rfl, ?_⟩ | refine ⟨_, _, rfl, ?_, ?_⟩)) rfl
 refine AC.exit (th_e (th_e (ib_y (th_n (AC.seq ?_)))));have hu0 : unC on taken = [] := hnone fun j hj => hall j hj (by omega)
 have hBt0 := hBt hu0;have hEn := (hEnd hu0).trans hCon;refine AC.region ?_;refine AL.p (by exact mv3 rfl) rfl ?_;refine zm ?_;refine kU [0] en_betterS hBt0 ?_;refine AL.nil (th_n ?_);refine AC.condB rfl (fun h1 => ?_) (fun h1 => ?_)
 ·refine AC.seq (AC.region ?_);refine AL.p (by exact mv3 rfl) rfl ?_;refine zm ?_;refine AL.p (by exact g_nilP rfl) rfl ?_;refine zF ?_;refine zs ?_;refine AL.nil (th_n (AC.region ?_));refine AL.p (by exact mv3 rfl) rfl ?_;refine AL.p (by exact g_nilP rfl) rfl ?_;refine zF ?_;refine zs ?_;refine AL.nil (bq_n ?_)
  (have q := ‹betT taken B = true›; rw [if_pos q] at hEn; exact retF rfl (by repeat (first | exact rfl | refine ⟨_, rfl, ?_⟩)) (by rw [hEn]; repeat (first | exact True.intro | refine And.intro ?_ ?_ | exact DLead.same | exact rfl | refine ⟨_, _, rfl, rfl, ?_⟩ | refine ⟨_, rfl, ?_⟩ | refine ⟨_, _, rfl, ?_, ?_⟩)) rfl)
 refine AC.skip (bq_n ?_)
 (have q := ‹betT taken B = false›; rw [if_neg (by rw [q]; decide)] at hEn; exact retF rfl (by repeat (first | exact rfl | refine ⟨_, rfl, ?_⟩)) (by rw [hEn]; repeat (first | exact True.intro | refine And.intro ?_ ?_ | exact DLead.same | exact rfl | refine ⟨_, _, rfl, rfl, ?_⟩ | refine ⟨_, rfl, ?_⟩ | refine ⟨_, _, rfl, ?_, ?_⟩)) rfl)
theorem search_spec (P on : List Tx) (M w m : Nat) : ∀ taken B, SrOk P on taken m M w → BOk M w B → SrSpec P on taken m B := by
 induction m using Nat.strongRecOn with
 | _ m ih => exact search_step P on M w m ih
theorem unC_nil (on : List Tx) : unC on [] = on := by unfold unC; exact List.filter_eq_self.2 fun x _ => rfl
theorem search_top {P on : List Tx} {m : Nat} (h : noLess P m on) : searchN P on m [] none = chooseN P m on [] none := by
 have := search_choose P on m [] none (by rw [unC_nil]; exact h)
 rwa [sortT_nil, unC_nil] at this
theorem noLess_succ {P on : List Tx} {m : Nat} (h : noLess P m on) (hc : chooseN P m on [] none = none) : noLess P (m + 1) on := fun k hk => by
 rcases Nat.lt_succ_iff_lt_or_eq.1 hk with q | rfl
 ·exact h k q
 exact choose_leaf hc
set_option maxHeartbeats 8000000 in
theorem l14Least_spec (w : Nat) (on off : List Tx) (h8 : w ≤ 8) (hol : on.length ≤ 64) (hfl : off.length ≤ 256) (hon : ∀ x, x ∈ on → x.length = w) (hof : ∀ x, x ∈ off → x.length = w) (hp60 : (primesL w on off).length ≤ 60) : ASpec Tryz.prog 57 [aI w, .d (vSs on), .d (vSs off)] [] (Pure1 (.tup [.d (vSs (minO (minT (primesL w on off) on)).1), aT (minO (minT (primesL w on off) on)).2])) := by
 have hP := l14Primes_spec w on off h8 (by omega) (by omega) hon hof;have hpw : ∀ p, p ∈ primesL w on off → p.length = w := fun p hp => (primesL_mem hp).1
 obtain ⟨P, hPP⟩ := eqx (primesL w on off);rw [← hPP] at hP hpw hp60 ⊢;have hCh : ∀ m, m ≤ 6 → noLess P m on → SrSpec P on [] m none := fun m hm hn => search_spec P on m w m [] none ⟨h8, hm, by simp, hp60, hol, hpw, hon, fun p hp => absurd hp List.not_mem_nil, by rw [unC_nil]; exact hn⟩ (fun b hb => by cases hb)
 obtain ⟨R, hR⟩ := eqx (minO (minT P on));rw [← hR];clear hPP;refine ASpec.of Tryz.func57 rfl rfl fun C hC => ?_
 refine AC.seq (AC.region ?_);refine za ?_;refine za ?_;refine AL.nil (th_n (AC.seq (AC.seq (AC.region ?_))));refine za ?_;refine AL.nil (th_n (AC.block ?_));refine AC.loop (ι := Nat) (fun m => ⟨32, 300, [(0, aI w), (1, .d (vSs on)), (2, .d (vSs off)), (8, aI m)], []⟩) (fun m => m ≤ 7 ∧ minT P on = minAt P on (7 - m) m ∧ noLess P m on) (fun m => 7 - m) (0) ?_ (⟨Nat.zero_le _, rfl, fun k hk => absurd hk (Nat.not_lt_zero _)⟩) ?_
 ·exact Weak.ren _ [] hC rfl (by repeat (first | exact True.intro | refine And.intro ?_ ?_ | exact DLead.same)) (by repeat (exact True.intro)) rfl rfl rfl
 rintro m ⟨hm, hmi, hnl⟩;refine AC.seq (AC.seq (AC.region ?_));refine zm ?_;refine zc ?_;refine AL.nil (th_n ?_);refine AC.condD rfl (fun h0 => ?_) (fun h0 => ?_)
 ·refine AC.skip (th_n (AC.seq (AC.block (AC.seq ?_))));have hm6 : m ≤ 6 := by omega
  have hCm := hCh m hm6 hnl;have hyes := @minAt_yes P on (6 - m) m;have hno := @minAt_no P on (6 - m) m;rw [show 6 - m + 1 = 7 - m by omega] at hyes hno;unfold SrSpec at hCm;rw [search_top hnl] at hCm;have hnl2 := noLess_succ hnl;obtain ⟨B, hB⟩ := eqx (chooseN P m on [] none);rw [← hB] at hCm hyes hno hnl2;have hsB : B.isSome = true → minT P on = B := fun h => by obtain ⟨b, hb⟩ := Option.isSome_iff_exists.1 h; rw [hmi, hyes hb, hb]
  have hBn : B.isSome = false → B = none := fun h => by cases B with | none => rfl | some b => cases h
  have hnB : B.isSome = false → minT P on = minAt P on (7 - (m + 1)) (m + 1) := fun h => by rw [hmi, hno (hBn h), show 6 - m = 7 - (m + 1) by omega]
  have hmo : minO B = (B.getD [], B.isSome) := rfl;refine AC.region ?_;refine zm ?_;refine zm ?_;refine zm ?_;refine kV en_l14Primes hP ?_;refine zm ?_;refine AL.p (by exact g_build rfl rfl rfl) rfl ?_;refine AL.q (by exact h_box rfl) rfl ?_;refine AL.p (by exact as3 rfl) rfl ?_;refine AL.nil (th_n (AC.seq ?_));refine AC.weak (t := ⟨32, 400, [(0, aI w), (1, .d (vSs on)), (2, .d (vSs off)), (8, aI m), (9, .ptr 200 0)], [(200, some (schC P on none))]⟩) (Weak.ren _ [(200, _)] hC rfl (by repeat (first | exact True.intro | refine And.intro ?_ ?_ | exact DLead.same | exact rfl | refine ⟨_, rfl, ?_⟩)) (by unfold schC; repeat (first | exact True.intro | refine And.intro ?_ ?_ | exact DLead.same | exact DLead.nil | exact rfl | refine ⟨_, _, rfl, rfl, ?_⟩ | refine ⟨_, rfl, ?_⟩ | refine ⟨_, _, rfl, ?_, ?_⟩)) rfl rfl rfl) ?_;refine AC.region ?_;refine AL.p (by exact mv3 rfl) rfl ?_;refine zm ?_;refine kU [200] en_searchS hCm ?_;refine AL.nil (th_n (AC.seq ?_));unfold schC;refine AC.region ?_;refine AL.p (by exact mv3 rfl) rfl ?_;refine AL.p (by exact g_nilP rfl) rfl ?_;refine zF ?_;refine zl ?_;refine AL.nil (th_n ?_);refine AC.condB rfl (fun h1 => ?_) (fun h1 => ?_)
  ·refine AC.seq (AC.region ?_);refine AL.p (by exact mv3 rfl) rfl ?_;refine AL.p (by exact g_nilP rfl) rfl ?_;refine zF ?_;refine zl ?_;refine za ?_;refine za ?_;refine AL.nil (th_n (AC.ret (ib_r (th_r (th_r (ib_r (th_r (bq_r ?_))))))));have hs : B.isSome = true := by assumption
   have e : R = minO B := by rw [hR, hsB hs]
   exact ret0 rfl (by rw [e, hmo, hs]; repeat (first | exact DLead.same | exact rfl | refine ⟨_, rfl, ?_⟩ | refine ⟨_, _, rfl, ?_, ?_⟩))
  refine AC.skip (ib_n (th_n (AC.region ?_)));refine zm ?_;refine zA ?_;refine za ?_;refine AL.nil (th_n ?_);exact ⟨m + 1, ⟨by omega, hnB (by assumption), hnl2 (hBn (by assumption))⟩, by omega, Weak.ren _ [] hC rfl (by repeat (first | exact True.intro | refine And.intro ?_ ?_ | exact DLead.same)) (by repeat (exact True.intro)) rfl rfl rfl⟩
 refine AC.exit (th_e (th_e (ib_y (th_n (AC.seq (AC.region ?_))))));refine za ?_;refine za ?_;refine AL.nil (th_n (AC.ret (bq_r ?_)));have hm7 : m = 7 := by omega
 have e : R = ([], false) := by rw [hR, hmi, hm7]; rfl
 exact ret0 rfl (by rw [e]; show AV.leads _ (.tup [.d (vSs []), aT false]) _; repeat (first | exact DLead.same | exact DLead.nil | exact rfl | refine ⟨_, rfl, ?_⟩ | refine ⟨_, _, rfl, ?_, ?_⟩))
theorem en_l14Least : Enters Tryz.prog 57 := enters_of Tryz.func57 rfl rfl
theorem sMinC_spec (n : Int) (on off : List Tx) (hl : on.length ≤ 1000000) (hl2 : off.length ≤ 1000000) (hb : ∀ c, c ∈ on → c.length ≤ 2000000) (hb2 : ∀ c, c ∈ off → c.length ≤ 2000000) : ASpec Tryz.prog 21 [aI n, .d (vSs on), .d (vSs off)] [] (Pure1 (.tup [.d (vSs (minR n on off).1), aT (minR n on off).2])) := by
 have hP := sPrimes_spec n on off hl hl2 hb hb2;have hR : minR n on off = if (prR n on off).2 = true then minO (minT (prR n on off).1 on) else ([], false) := rfl
 have hL : (prR n on off).2 = true → ASpec Tryz.prog 57 [aI n, .d (vSs on), .d (vSs off)] [] (Pure1 (.tup [.d (vSs (minO (minT (prR n on off).1 on)).1), aT (minO (minT (prR n on off).1 on)).2])) := fun h => by
  obtain ⟨h1, h2, h3⟩ := prR_in h;obtain ⟨w, rfl, _, h8, hol, hfl, hon, hof, _⟩ := onoff_in h1;rw [h2];exact l14Least_spec w on off h8 hol hfl (fun x hx => (hon x hx).1) (fun x hx => (hof x hx).1) h3
 obtain ⟨A, hA⟩ := eqx (prR n on off);rw [← hA] at hP hR hL;obtain ⟨R, hRR⟩ := eqx (minR n on off);rw [← hRR] at hR ⊢;obtain ⟨Q, hQ⟩ := eqx (minO (minT A.1 on));rw [← hQ] at hR hL;clear hA hRR hQ;refine ASpec.of Tryz.func21 rfl rfl fun C hC => ?_
 refine AC.seq (AC.region ?_);refine za ?_;refine za ?_;refine AL.nil (th_n (AC.seq (AC.seq (AC.region ?_))));refine zm ?_;refine zm ?_;refine zm ?_;refine kV en_sPrimes hP ?_;refine AL.p (by exact mv5 rfl) rfl ?_;refine AL.p (by exact g_extract (r := .d _) rfl rfl) rfl ?_;refine AL.p (by exact g_extract (r := .d _) rfl rfl) rfl ?_;refine za ?_;refine za ?_;refine AL.nil (th_n (AC.seq (AC.region ?_)));refine zm ?_;refine kC ?_;refine AL.nil (th_n ?_);refine AC.condB rfl (fun h0 => ?_) (fun h0 => ?_)
 ·refine AC.seq (AC.region ?_);refine za ?_;refine za ?_;refine AL.nil (th_n (AC.ret (th_r (bq_r ?_))));have e : R = ([], false) := hR.trans (if_neg (by have q := ‹(!A.2) = true›; simpa using q));exact ret0 rfl (by rw [e]; show AV.leads _ (.tup [.d (vSs []), aT false]) _; repeat (first | exact DLead.same | exact DLead.nil | exact rfl | refine ⟨_, rfl, ?_⟩ | refine ⟨_, _, rfl, ?_, ?_⟩))
 refine AC.skip (th_n (AC.seq ?_));have hA1 : A.2 = true := by have q := ‹(!A.2) = false›; simpa using q
 have hL1 := hL hA1;rw [if_pos hA1] at hR;refine AC.region ?_;refine zm ?_;refine zm ?_;refine zm ?_;refine kV en_l14Least hL1 ?_;refine AL.p (by exact g_extract (r := .d _) rfl rfl) rfl ?_;refine AL.p (by exact g_extract (r := .d _) rfl rfl) rfl ?_;refine za ?_;refine za ?_;refine AL.nil (th_n (AC.ret (bq_r ?_)));exact ret0 rfl (by rw [hR]; repeat (first | exact DLead.same | exact rfl | refine ⟨_, rfl, ?_⟩ | refine ⟨_, _, rfl, ?_, ?_⟩))
theorem en_sMinC : Enters Tryz.prog 21 := enters_of Tryz.func21 rfl rfl
end Go.Proofs.YtiaieidhhlmfmaaGreat
