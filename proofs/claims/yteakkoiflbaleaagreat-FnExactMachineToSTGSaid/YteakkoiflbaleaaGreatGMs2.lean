/- Contracts of the functions of the program and of the reference, each proved by a walk through its code. -/
import Derived.Orders
import Derived.Laws.IdiomStrings
import Derived.Lib.AppendZerosOnto
import Derived.ProofKit
import Derived.OpenShut
import Derived.Lib.SliceRun
import Derived.Test.YteakkoiflbaleaaGreatGMs1
set_option linter.all false
set_option maxRecDepth 20000
namespace Go.Proofs.YteakkoiflbaleaaGreat
open Go.RowKit
theorem within_spec (n lo hi : Int) : ASpec Tryz.prog 73 [aI n, aI lo, aI hi] [] (Pure1 (aT (decide (lo ≤ n) && decide (n ≤ hi)))) := by
 refine ASpec.of Tryz.func73 rfl rfl fun C hC => ?_
 refine AC.seq (AC.region ?_);refine za ?_;refine AL.nil (th_n (AC.seq (AC.region ?_)));refine zm ?_;refine zm ?_;refine zc ?_;refine zm ?_;refine AL.caseG rfl rfl (fun h0 => ?_) (fun h0 => ?_)
 ·refine zy ?_;refine zm ?_;refine zy ?_;refine zm ?_;refine zy ?_;refine zc ?_;refine zQ ?_;refine za ?_;refine AL.nil (th_n (AC.ret (bq_r ?_)));exact ret1 rfl (by simp [h0])
 refine zn ?_;refine zn ?_;refine zn ?_;refine zP ?_;refine za ?_;refine AL.nil (th_n (AC.ret (bq_r ?_)));exact ret1 rfl (by simp [h0])
theorem en_within : Enters Tryz.prog 73 := enters_of Tryz.func73 rfl rfl
abbrev ints (l : List Int) : List (List DV) := l.map fun x => [dI x]
abbrev vI (l : List Int) : DV := .view 3 1 (ints l)
theorem ints_get {l : List Int} {k : Nat} (h : k < l.length) : (ints l)[k]? = some [dI (l.getD k 0)] := by
 simp [ints, List.getElem?_map, List.getElem?_eq_getElem h, List.getD]
def allN (n : Nat) (p : Nat → Bool) : Bool := (List.range n).all p
theorem allN_true {n : Nat} {p : Nat → Bool} (h : ∀ k, k < n → p k = true) : allN n p = true := by
 unfold allN; rw [List.all_eq_true]; intro k hk; exact h k (List.mem_range.1 hk)
theorem allN_false {n k : Nat} {p : Nat → Bool} (hk : k < n) (h : p k = false) : allN n p = false := by
 unfold allN; rw [List.all_eq_false]; exact ⟨k, List.mem_range.2 hk, by simp [h]⟩
def riseAt (l : List Int) (lo hi : Int) (k : Nat) : Bool := (decide (lo ≤ l.getD k 0) && decide (l.getD k 0 ≤ hi)) && !(decide (0 < (k : Int)) && decide (l.getD k 0 ≤ l.getD (k - 1) 0))
def rising (l : List Int) (lo hi : Int) : Bool := allN l.length (riseAt l lo hi)
set_option maxHeartbeats 1000000 in
theorem isIncreasing_spec (l : List Int) (n : Int) (hl : l.length ≤ 2000000) (hn : -2000000 ≤ n ∧ n ≤ 2000000) : ASpec Tryz.prog 124 [.d (vI l), aI n] [] (Pure1 (aT (rising l 0 (n - 1)))) := by
 refine ASpec.of Tryz.func124 rfl rfl fun C hC => ?_
 refine AC.seq (AC.region ?_);refine za ?_;refine AL.nil (th_n (AC.seq (AC.seq (AC.region ?_))));refine zm ?_;refine kH ?_;refine zm ?_;refine AL.nil (th_n (AC.block ?_));refine AC.loop (ι := Nat) (fun k => ⟨33, 0, [(0, .d (vI l)), (1, aI n), (7, .d (vI l)), (8, aI l.length), (9, aI k)], []⟩) (fun k => k ≤ l.length ∧ ∀ j, j < k → riseAt l 0 (n - 1) j = true) (fun k => l.length - k) (0) ?_ (⟨Nat.zero_le _, fun j hj => by omega⟩) ?_
 ·refine Weak.ren _ [] hC rfl ?_ ?_ rfl rfl rfl <;> repeat (first | exact True.intro | refine And.intro ?_ ?_ | exact DLead.same)
 intro k ⟨hk, hall⟩;refine AC.seq (AC.region ?_);refine zc ?_;refine AL.nil (th_n (AC.seq ?_));refine AC.condD rfl (fun h0 => ?_) (fun h0 => ?_)
 ·refine AC.skip (th_n (AC.seq (AC.block (AC.seq ?_))));have hk1 : k < l.length := by omega
  have hget : (ints l)[k]? = some [dI (l.getD k 0)] := ints_get hk1;refine AC.region ?_;refine zm ?_;refine AL.p (by exact g_ia_view rfl rfl rfl rfl rfl (by rfl) (by assumption)) rfl ?_;refine zr ?_;refine za ?_;refine za ?_;refine AL.nil (th_n (AC.seq (AC.region ?_)));refine zm ?_;refine zm ?_;refine zA ?_;refine AL.q (by exact h_pure en_within rfl rfl (by repeat (first | exact rfl | exact DLead.same | refine ⟨_, _, rfl, ?_, ?_⟩)) (within_spec _ _ _) rfl) rfl ?_;refine kC ?_;refine zm ?_;refine AL.caseGB rfl rfl (fun h1 => ?_) (fun h1 => ?_)
  ·refine zn ?_;refine zn ?_;refine zn ?_;refine AL.notU rfl rfl rfl ?_;refine AL.notU rfl rfl rfl ?_;refine AL.notU rfl rfl rfl ?_;refine AL.notU rfl rfl rfl ?_;refine AL.notU rfl rfl rfl ?_;refine AL.notU rfl rfl rfl ?_;refine AL.notU rfl rfl rfl ?_;refine zn ?_;refine zQ ?_;refine AL.nil (th_n ?_);refine AC.condT rfl ?_;refine AC.seq (AC.region ?_);refine za ?_;refine AL.nil (th_n (AC.ret (ib_r (th_r (th_r (ib_r (th_r (bq_r ?_))))))));exact ret1 rfl (by rw [rising, allN_false hk1 (by (unfold riseAt; rw [(Bool.not_eq_true' _).mp h1]; rfl))])
  refine zy ?_;refine zm ?_;refine zy ?_;refine zc ?_;refine zy ?_;refine zm ?_;refine AL.caseG rfl rfl (fun h2 => ?_) (fun h2 => ?_)
  ·refine zy ?_;refine zm ?_;refine zy ?_;refine zm ?_;refine zy ?_;refine zA ?_;refine zy ?_;have hget2 : (ints l)[k - 1]? = some [dI (l.getD (k - 1) 0)] := ints_get (by omega);have hI : (k : Int) - 1 = ((k - 1 : Nat) : Int) := by omega
   refine AL.p (by exact g_ia_view rfl rfl rfl rfl rfl (by assumption) (by assumption)) rfl ?_;refine zy ?_;refine zr ?_;refine zy ?_;refine zm ?_;refine zy ?_;refine zc ?_;refine zy ?_;refine zQ ?_;refine zP ?_;refine AL.nil (th_n ?_);refine AC.condD rfl (fun h3 => ?_) (fun h3 => ?_)
   ·refine AC.seq (AC.region ?_);refine za ?_;refine AL.nil (th_n (AC.ret (ib_r (th_r (th_r (ib_r (th_r (bq_r ?_))))))));exact ret1 rfl (by rw [rising, allN_false hk1 (by (unfold riseAt; rw [(Bool.not_eq_false' _).mp h1]; simp only [h2, h3, decide_true]; rfl))])
   refine AC.skip (ib_n (th_n (AC.region ?_)));refine zA ?_;refine zm ?_;refine AL.nil (th_n ?_);exact ⟨k + 1, ⟨by omega, fun j hj => by rcases Nat.lt_succ_iff_lt_or_eq.1 hj with h | rfl; exact hall j h; (unfold riseAt; rw [(Bool.not_eq_false' _).mp h1]; simp only [h2, h3, decide_true, decide_false]; rfl)⟩, by omega, Weak.ren _ [] hC rfl (by repeat (first | exact True.intro | refine And.intro ?_ ?_ | exact DLead.same)) (by repeat (exact True.intro)) rfl rfl rfl⟩
  refine zn ?_;refine zn ?_;refine zn ?_;refine zn ?_;refine zn ?_;refine zn ?_;refine zn ?_;refine zy ?_;refine zP ?_;refine zP ?_;refine AL.nil (th_n ?_);refine AC.condF rfl ?_;refine AC.skip (ib_n (th_n (AC.region ?_)));refine zA ?_;refine zm ?_;refine AL.nil (th_n ?_);exact ⟨k + 1, ⟨by omega, fun j hj => by rcases Nat.lt_succ_iff_lt_or_eq.1 hj with h | rfl; exact hall j h; (unfold riseAt; rw [(Bool.not_eq_false' _).mp h1]; simp only [h2, decide_false]; rfl)⟩, by omega, Weak.ren _ [] hC rfl (by repeat (first | exact True.intro | refine And.intro ?_ ?_ | exact DLead.same)) (by repeat (exact True.intro)) rfl rfl rfl⟩
 refine AC.exit (th_e (th_e (ib_y (th_n (AC.seq (AC.region ?_))))));refine za ?_;refine AL.nil (th_n (AC.ret (bq_r ?_)));exact ret1 rfl (by rw [rising, allN_true (fun j hj => hall j (by omega))])
theorem en_isIncreasing : Enters Tryz.prog 124 := enters_of Tryz.func124 rfl rfl
abbrev ORec := Upd × List Nat
def memL (k : Nat) : List Nat → Bool
 | [] => false
 | j :: l => bif Nat.beq k j then true else memL k l
theorem memL_iff {k : Nat} {l : List Nat} : memL k l = true ↔ k ∈ l := by
 induction l with
 | nil => simp [memL]
 | cons j l ih =>
  simp only [memL, List.mem_cons]
  by_cases h : k = j
  ·subst h; simp
  have : Nat.beq k j = false := by cases hb : Nat.beq k j with
   | true => exact absurd (by simpa using hb) h
   | false => rfl
  simp [this, ih, h]
theorem memL_not {k : Nat} {l : List Nat} : memL k l = false ↔ k ∉ l := by
 rw [← memL_iff]; simp
def goS (L : Nat → Bool) : Nat → List Oper → List ORec → List (Nat × AV) → List (Nat × AV)
 | k, o :: os, r :: rs, acc => goS L (k + 1) os rs (match L k, o.dst with | true, some d => (d, r.1.r) :: acc | _, _ => acc)
 | _, _, _, acc => acc
def goC (L : Nat → Bool) : Nat → List Oper → List ORec → List (Nat × Option Chunk) → List (Nat × Option Chunk)
 | k, o :: os, r :: rs, acc => goC L (k + 1) os rs (match L k with | true => r.1.ch ++ acc | _ => acc)
 | _, _, _, acc => acc
def mkS (s : ASt) (L : Nat → Bool) (ops : List Oper) (recs : List ORec) : ASt := ⟨s.n, s.nx + 8 * ops.length, goS L 0 ops recs s.sl, goC L 0 ops recs s.ch⟩
theorem goS_same {t : Nat} {L L' : Nat → Bool} : ∀ (os : List Oper) (rs : List ORec) (k : Nat) (a a' : List (Nat × AV)), (∀ i o, os[i]? = some o → o.dst = some t → L (k + i) = L' (k + i)) → getL t a = getL t a' → getL t (goS L k os rs a) = getL t (goS L' k os rs a')
 | [], rs, k, a, a', h, ha => by simpa [goS] using ha
 | o :: os, [], k, a, a', h, ha => by simpa [goS] using ha
 | o :: os, r :: rs, k, a, a', h, ha => by
  simp only [goS];refine goS_same os rs (k + 1) _ _ (fun i o' hi hd => by have := h (i + 1) o' (by simpa using hi) hd; rw [show k + 1 + i = k + (i + 1) by omega]; exact this) ?_;cases hd : o.dst with
  | none => cases L k <;> cases L' k <;> simpa using ha
  | some d =>
   by_cases hdt : d = t
   ·subst hdt;have := h 0 o rfl hd;rw [Nat.add_zero] at this;rw [this];cases L' k <;> simp [getL_cons, ha]
   have key : ∀ (b : Bool) (x : List (Nat × AV)), getL t (match b, some d with | true, some d => (d, r.1.r) :: x | _, _ => x) = getL t x := by
    intro b x; cases b <;> simp [getL_cons, Ne.symm hdt]
   rw [key, key]; exact ha
theorem goC_same {t : Nat} {L L' : Nat → Bool} : ∀ (os : List Oper) (rs : List ORec) (k : Nat) (a a' : List (Nat × Option Chunk)), (∀ i r, rs[i]? = some r → getL t r.1.ch ≠ none → L (k + i) = L' (k + i)) → getL t a = getL t a' → getL t (goC L k os rs a) = getL t (goC L' k os rs a')
 | [], rs, k, a, a', h, ha => by simpa [goC] using ha
 | o :: os, [], k, a, a', h, ha => by simpa [goC] using ha
 | o :: os, r :: rs, k, a, a', h, ha => by
  simp only [goC];refine goC_same os rs (k + 1) _ _ (fun i o' hi hd => by have := h (i + 1) o' (by simpa using hi) hd; rw [show k + 1 + i = k + (i + 1) by omega]; exact this) ?_
  by_cases hr : getL t r.1.ch = none
  ·have key : ∀ (b : Bool) (x : List (Nat × Option Chunk)), getL t (match b with | true => r.1.ch ++ x | _ => x) = getL t x := by
    intro b x; cases b <;> simp [getL_append, hr]
   rw [key, key]; exact ha
  have := h 0 r rfl hr;rw [Nat.add_zero] at this;rw [this];cases L' k <;> simp [getL_append, ha]
theorem goS_more {t i : Nat} {L : Nat → Bool} {r0 : ORec} : ∀ (os : List Oper) (rs : List ORec) (k : Nat) (a : List (Nat × AV)) (o0 : Oper), k ≤ i → os[i - k]? = some o0 → rs[i - k]? = some r0 → (∀ j o, os[j]? = some o → i < k + j → L (k + j) = true → o.dst = some t → o0.dst ≠ some t) →
  getL t (goS (fun j => L j || j == i) k os rs a) = if o0.dst = some t then some r0.1.r else getL t (goS L k os rs a)
 | [], rs, k, a, o0, hk, h1, h2, h3 => by simp at h1
 | o :: os, [], k, a, o0, hk, h1, h2, h3 => by simp at h2
 | o :: os, r :: rs, k, a, o0, hk, h1, h2, h3 => by
  simp only [goS]
  by_cases hki : k = i
  ·subst hki;rw [Nat.sub_self] at h1 h2;simp only [List.getElem?_cons_zero, Option.some.injEq] at h1 h2;subst h1; subst h2
   -- behind i, L and L+i agree
   have hsame : ∀ (x : List (Nat × AV)), getL t (goS (fun j => L j || j == k) (k + 1) os rs x) = getL t (goS L (k + 1) os rs x) := fun x => goS_same os rs (k + 1) x x (fun i o' _ _ => by simp; intro h; omega) rfl
   rw [hsame]
   by_cases hd : o.dst = some t
   ·rw [if_pos hd, hd];simp only [BEq.rfl, Bool.or_true]
    have hno : getL t (goS L (k + 1) os rs ((t, r.1.r) :: a)) = getL t (goS (fun _ => false) (k + 1) os rs ((t, r.1.r) :: a)) := goS_same os rs (k + 1) _ _ (fun j o' hj hd' => by
     cases hL : L (k + 1 + j) with
     | false => rfl
     | true => exact absurd hd (h3 (j + 1) o' (by simpa using hj) (by omega) (by rw [show k + (j + 1) = k + 1 + j by omega]; exact hL) hd')) rfl
    have hf : ∀ (os : List Oper) (rs : List ORec) (k : Nat) (a : List (Nat × AV)), goS (fun _ => false) k os rs a = a := by
     intro os
     induction os with
     | nil => intro rs k a; simp [goS]
     | cons o os ih => intro rs k a; cases rs <;> simp [goS, ih]
    rw [hno, hf]; simp [getL_cons]
   rw [if_neg hd];refine goS_same os rs (k + 1) _ _ (fun _ _ _ _ => rfl) ?_;cases hdd : o.dst with
   | none => cases L k <;> simp
   | some d =>
    have hdt : d ≠ t := fun e => hd (by rw [hdd, e])
    cases L k <;> simp [getL_cons, Ne.symm hdt]
  have hki' : (k == i) = false := by simpa using hki
  simp only [hki', Bool.or_false];have e : i - k = (i - (k + 1)) + 1 := by omega
  rw [e] at h1 h2;exact goS_more os rs (k + 1) _ o0 (by omega) (by simpa using h1) (by simpa using h2) (fun j o' hj h4 h5 h6 => h3 (j + 1) o' (by simpa using hj) (by omega) (by rw [show k + (j + 1) = k + 1 + j by omega]; exact h5) h6)
theorem goC_more {t i : Nat} {L : Nat → Bool} {r0 : ORec} : ∀ (os : List Oper) (rs : List ORec) (k : Nat) (a : List (Nat × Option Chunk)), os.length = rs.length → k ≤ i → rs[i - k]? = some r0 → (∀ j r, rs[j]? = some r → i < k + j → L (k + j) = true → getL t r.1.ch ≠ none → getL t r0.1.ch = none) →
  getL t (goC (fun j => L j || j == i) k os rs a) = (getL t r0.1.ch).or (getL t (goC L k os rs a))
 | [], rs, k, a, hl, hk, h2, h3 => by cases rs <;> simp at hl h2
 | o :: os, [], k, a, hl, hk, h2, h3 => by simp at h2
 | o :: os, r :: rs, k, a, hl, hk, h2, h3 => by
  simp only [goC]
  by_cases hki : k = i
  ·subst hki;rw [Nat.sub_self] at h2;simp only [List.getElem?_cons_zero, Option.some.injEq] at h2;subst h2;have hsame : ∀ (x : List (Nat × Option Chunk)), getL t (goC (fun j => L j || j == k) (k + 1) os rs x) = getL t (goC L (k + 1) os rs x) := fun x => goC_same os rs (k + 1) x x (fun i o' _ _ => by simp; intro h; omega) rfl
   rw [hsame];simp only [BEq.rfl, Bool.or_true];cases hd : getL t r.1.ch with
   | none =>
    simp only [Option.none_or];refine goC_same os rs (k + 1) _ _ (fun _ _ _ _ => rfl) ?_;cases L k <;> simp [getL_append, hd]
   | some c =>
    have hno : getL t (goC L (k + 1) os rs (r.1.ch ++ a)) = getL t (goC (fun _ => false) (k + 1) os rs (r.1.ch ++ a)) := goC_same os rs (k + 1) _ _ (fun j o' hj hd' => by
     cases hL : L (k + 1 + j) with
     | false => rfl
     | true =>
      have := h3 (j + 1) o' (by simpa using hj) (by omega) (by rw [show k + (j + 1) = k + 1 + j by omega]; exact hL) hd'
      rw [hd] at this; cases this) rfl
    have hf : ∀ (os : List Oper) (rs : List ORec) (k : Nat) (a : List (Nat × Option Chunk)), goC (fun _ => false) k os rs a = a := by
     intro os
     induction os with
     | nil => intro rs k a; simp [goC]
     | cons o os ih => intro rs k a; cases rs <;> simp [goC, ih]
    rw [hno, hf]; simp [getL_append, hd]
  have hki' : (k == i) = false := by simpa using hki
  simp only [hki', Bool.or_false];have e : i - k = (i - (k + 1)) + 1 := by omega
  rw [e] at h2;exact goC_more os rs (k + 1) _ (by simpa using hl) (by omega) (by simpa using h2) (fun j o' hj h4 h5 h6 => h3 (j + 1) o' (by simpa using hj) (by omega) (by rw [show k + (j + 1) = k + 1 + j by omega]; exact h5) h6)
def looksT (ops : List Oper) (o : Oper) : List Nat := (o.op.operands.toList.filterMap fun | .tmp t => some t | _ => none) ++ (match o.guard with | some (g, _) => ((ops[g]?).bind (·.dst)).toList | none => [])
def keysU (u : Upd) : List Nat := u.ch.map (·.1)
def deps (o : Oper) : List Nat := (o.after.toList.filter (Region.binds .any)).map (·.on)
def ancAt (anc : List (List Nat)) (i : Nat) : List Nat := (anc[i]?).getD []
def ancOk (ops : List Oper) (anc : List (List Nat)) : Bool :=
 (List.range ops.length).all fun i => match ops[i]? with
  | some o => (deps o).all (fun d => Nat.blt d i) && (ancAt anc i).all fun j => Nat.blt j i && ((deps o).contains j || (deps o).any fun k => (ancAt anc k).contains j)
  | none => false
def disj (a b : List Nat) : Bool := a.all fun x => !b.contains x
def indepOk (ops : List Oper) (anc : List (List Nat)) (recs : List ORec) : Bool :=
 (List.range ops.length).all fun i => (List.range ops.length).all fun j => i == j || (ancAt anc i).contains j || (ancAt anc j).contains i ||
  match ops[i]?, ops[j]?, recs[i]?, recs[j]? with
  | some oi, some oj, some ri, some rj => disj oj.dst.toList (looksT ops oi) && disj oj.dst.toList oi.dst.toList && disj (keysU rj.1) ri.2 && disj (keysU rj.1) (keysU ri.1)
  | _, _, _, _ => false
structure AgrT (ops : List Oper) (ids : List Nat) (o : Oper) (s s' : ASt) : Prop where
 n : s'.n = s.n
 get : ∀ t, t ∈ looksT ops o → s'.get t = s.get t
 ch : ∀ id, id ∈ ids → s'.chunk id = s.chunk id
theorem AgrT.agr {ops : List Oper} {ids : List Nat} {o : Oper} {s s' : ASt} (h : AgrT ops ids o s s') : Agr ids o s s' := by
 refine ⟨h.n, fun x hx => ?_, h.ch⟩;cases x with
 | tmp t => exact h.get t (List.mem_append_left _ (List.mem_filterMap.2 ⟨.tmp t, by simpa using hx, rfl⟩))
 | _ => rfl
inductive StepOk (P : Program) (ops : List Oper) (D : ASt) (o : Oper) (ids : List Nat) (f : Nat) (u : Upd) : Prop
 | free : o.guard = none → NOp P ids D o f u → StepOk P ops D o ids f u
 | yes {j t : Nat} {w : Bool} : o.guard = some (j, w) → ((ops[j]?).bind (·.dst)) = some t → Nat.blt t D.n = true → D.get t = aT w → NOp P ids D o f u → StepOk P ops D o ids f u
 | no {j t : Nat} {w b : Bool} : o.guard = some (j, w) → ((ops[j]?).bind (·.dst)) = some t → Nat.blt t D.n = true → D.get t = aT b → b = !w → u = ⟨.und, []⟩ → StepOk P ops D o ids f u
 | noU {j t : Nat} {w : Bool} : o.guard = some (j, w) → ((ops[j]?).bind (·.dst)) = some t → D.get t = .und → u = ⟨.und, []⟩ → StepOk P ops D o ids f u
inductive Dr (P : Program) (ops : List Oper) (anc : List (List Nat)) (s : ASt) (Q : Exit → ASt → Prop) : List ORec → Prop
 | done {recs : List ORec} : Nat.beq recs.length ops.length = true → indepOk ops anc recs = true → Q .normal (mkS s (fun _ => true) ops recs) → Dr P ops anc s Q recs
 | op {recs : List ORec} {o : Oper} {ids : List Nat} {u : Upd} : ops[recs.length]? = some o → StepOk P ops (mkS s (fun k => memL k (ancAt anc recs.length)) ops recs) o ids (s.nx + 8 * recs.length) u → dstOk o.dst s.n = true → Dr P ops anc s Q (recs ++ [(u, ids)]) → Dr P ops anc s Q recs
def memP (i j : Nat) : List (Nat × Nat) → Bool
 | [] => false
 | (a, b) :: l => bif Nat.beq i a && Nat.beq j b then true else memP i j l
def coverOk (n : Nat) (anc : List (List Nat)) (pairs : List (Nat × Nat)) : Bool := (List.range n).all fun i => (List.range n).all fun j => Nat.beq i j || memL j (ancAt anc i) || memL i (ancAt anc j) || memP i j pairs
def slotOk (ops : List Oper) : List (Nat × Nat) → Bool
 | [] => true
 | (i, j) :: l => (match ops[i]?, ops[j]? with
  | some oi, some oj => disj oj.dst.toList (looksT ops oi) && disj oj.dst.toList oi.dst.toList
  | _, _ => false) && slotOk ops l
def disj2 : List Nat → List Nat → List Nat → Bool
 | [], _, _ => true
 | x :: l, a, b => !memL x a && !memL x b && disj2 l a b
def idsOk (recs : List ORec) : List (Nat × Nat) → Bool
 | [] => true
 | (i, j) :: l => (match recs[i]?, recs[j]? with
  | some ri, some rj => disj2 (keysU rj.1) ri.2 (keysU ri.1)
  | _, _ => false) && idsOk recs l
theorem disj2_ok : ∀ {l a b : List Nat}, disj2 l a b = true → disj l a = true ∧ disj l b = true
 | [], a, b, _ => ⟨rfl, rfl⟩
 | x :: l, a, b, h => by
  simp only [disj2, Bool.and_eq_true, Bool.not_eq_true'] at h;obtain ⟨h1, h2⟩ := disj2_ok h.2;have e1 := memL_not.1 h.1.1;have e2 := memL_not.1 h.1.2;constructor
  ·simp only [disj, List.all_cons, Bool.and_eq_true] at h1 ⊢; exact ⟨by simpa using e1, h1⟩
  simp only [disj, List.all_cons, Bool.and_eq_true] at h2 ⊢; exact ⟨by simpa using e2, h2⟩
theorem memP_iff {i j : Nat} : ∀ {l : List (Nat × Nat)}, memP i j l = true → (i, j) ∈ l
  | (a, b) :: l, h => by
    simp only [memP] at h;cases hb : (Nat.beq i a && Nat.beq j b) with
    | true => simp only [Bool.and_eq_true] at hb; have h1 : i = a := by simpa using hb.1
              have h2 : j = b := by simpa using hb.2
              subst h1; subst h2; simp
    | false => rw [hb] at h; exact List.mem_cons_of_mem _ (memP_iff h)
theorem slotOk_mem {ops : List Oper} : ∀ {l : List (Nat × Nat)} {i j : Nat}, slotOk ops l = true → (i, j) ∈ l → ∃ oi oj, ops[i]? = some oi ∧ ops[j]? = some oj ∧ disj oj.dst.toList (looksT ops oi) = true ∧ disj oj.dst.toList oi.dst.toList = true
 | (a, b) :: l, i, j, h, hm => by
  simp only [slotOk, Bool.and_eq_true] at h;rcases List.mem_cons.1 hm with e | e
  ·simp only [Prod.mk.injEq] at e;obtain ⟨rfl, rfl⟩ := e;cases ha : ops[i]? with
   | none => rw [ha] at h; simp at h
   | some oi =>
    cases hb : ops[j]? with
    | none => rw [ha, hb] at h; simp at h
    | some oj => rw [ha, hb] at h; simp only [Bool.and_eq_true] at h; exact ⟨oi, oj, rfl, rfl, h.1.1, h.1.2⟩
  exact slotOk_mem h.2 e
theorem idsOk_mem {recs : List ORec} : ∀ {l : List (Nat × Nat)} {i j : Nat}, idsOk recs l = true → (i, j) ∈ l → ∃ ri rj, recs[i]? = some ri ∧ recs[j]? = some rj ∧ disj (keysU rj.1) ri.2 = true ∧ disj (keysU rj.1) (keysU ri.1) = true
 | (a, b) :: l, i, j, h, hm => by
  simp only [idsOk, Bool.and_eq_true] at h;rcases List.mem_cons.1 hm with e | e
  ·simp only [Prod.mk.injEq] at e;obtain ⟨rfl, rfl⟩ := e;cases ha : recs[i]? with
   | none => rw [ha] at h; simp at h
   | some ri =>
    cases hb : recs[j]? with
    | none => rw [ha, hb] at h; simp at h
    | some rj => rw [ha, hb] at h; have := disj2_ok h.1; exact ⟨ri, rj, rfl, rfl, this.1, this.2⟩
  exact idsOk_mem h.2 e
theorem indep_parts {ops : List Oper} {anc : List (List Nat)} {recs : List ORec} {pairs : List (Nat × Nat)} (h1 : coverOk ops.length anc pairs = true) (h2 : slotOk ops pairs = true) (h3 : idsOk recs pairs = true) : indepOk ops anc recs = true := by
 simp only [indepOk, coverOk, List.all_eq_true, List.mem_range] at h1 ⊢;intro i hi j hj;have := h1 i hi j hj;simp only [Bool.or_eq_true] at this ⊢;rcases this with ((h | h) | h) | h
 ·exact .inl (.inl (.inl (by simpa using h)))
 ·exact .inl (.inl (.inr (by simpa using memL_iff.1 h)))
 ·exact .inl (.inr (by simpa using memL_iff.1 h))
 obtain ⟨oi, oj, a1, a2, a3, a4⟩ := slotOk_mem h2 (memP_iff h);obtain ⟨ri, rj, b1, b2, b3, b4⟩ := idsOk_mem h3 (memP_iff h);right;rw [a1, a2, b1, b2];simp [a3, a4, b3, b4]
def goD : List (Option Nat) → List ORec → List (Nat × AV) → List (Nat × AV)
 | some d :: ds, r :: rs, acc => goD ds rs ((d, r.1.r) :: acc)
 | none :: ds, _ :: rs, acc => goD ds rs acc
 | _, _, acc => acc
def goE : List (Option Nat) → List ORec → List (Nat × Option Chunk) → List (Nat × Option Chunk)
 | _ :: ds, r :: rs, acc => goE ds rs (r.1.ch ++ acc)
 | _, _, acc => acc
def mkD (s : ASt) (ds : List (Option Nat)) (recs : List ORec) : ASt := ⟨s.n, s.nx + 8 * ds.length, goD ds recs s.sl, goE ds recs s.ch⟩
theorem goS_D : ∀ (os : List Oper) (rs : List ORec) (k : Nat) (a : List (Nat × AV)), goS (fun _ => true) k os rs a = goD (os.map (·.dst)) rs a
 | [], rs, k, a => by simp [goS, goD]
 | o :: os, [], k, a => by cases hd : o.dst <;> simp [goS, goD, hd]
 | o :: os, r :: rs, k, a => by cases hd : o.dst <;> simp [goS, goD, hd, goS_D os rs]
theorem goC_D : ∀ (os : List Oper) (rs : List ORec) (k : Nat) (a : List (Nat × Option Chunk)), goC (fun _ => true) k os rs a = goE (os.map (·.dst)) rs a
 | [], rs, k, a => by simp [goC, goE]
 | o :: os, [], k, a => by simp [goC, goE]
 | o :: os, r :: rs, k, a => by simp [goC, goE, goC_D os rs]
theorem Dr.fin {P : Program} {ops : List Oper} {anc : List (List Nat)} {s : ASt} {Q : Exit → ASt → Prop} {recs : List ORec} (ds : List (Option Nat)) (pairs : List (Nat × Nat)) (hd : ops.map (·.dst) = ds) (hl : Nat.beq recs.length ops.length = true) (h1 : coverOk ops.length anc pairs = true) (h2 : slotOk ops pairs = true) (h3 : idsOk recs pairs = true) (h : Q .normal (mkD s ds recs)) : Dr P ops anc s Q recs := by
 subst hd;refine .done hl (indep_parts h1 h2 h3) ?_;have : mkS s (fun _ => true) ops recs = mkD s (ops.map (·.dst)) recs := by simp [mkS, mkD, goS_D, goC_D]
 rw [this]; exact h
theorem Dr.eq {P : Program} {ops : List Oper} {anc : List (List Nat)} {s : ASt} {Q : Exit → ASt → Prop} {recs : List ORec} {j : Nat} {r : ORec} (h : recs[j]? = some r) (k : Dr P ops anc s Q (recs.set j r)) : Dr P ops anc s Q recs := by
 have : recs.set j r = recs := by
  apply List.ext_getElem?
  intro i
  by_cases hi : i = j
  ·subst hi;rw [List.getElem?_set_self (List.getElem?_eq_some_iff.1 h).1, h]
  rw [List.getElem?_set_ne (Ne.symm hi)]
 rwa [this] at k
theorem Dr.caseD {P : Program} {ops : List Oper} {anc : List (List Nat)} {s : ASt} {Q : Exit → ASt → Prop} {recs : List ORec} (j : Nat) {p : Prop} [Decidable p] {ch : List (Nat × Option Chunk)} {ids : List Nat} (h : recs[j]? = some (⟨aT (decide p), ch⟩, ids)) (hT : p → Dr P ops anc s Q (recs.set j (⟨aT true, ch⟩, ids))) (hF : ¬ p → Dr P ops anc s Q (recs.set j (⟨aT false, ch⟩, ids))) : Dr P ops anc s Q recs := by
 by_cases hp : p
 ·exact Dr.eq (r := (⟨aT true, ch⟩, ids)) (by rw [h]; simp [hp]) (hT hp)
 exact Dr.eq (r := (⟨aT false, ch⟩, ids)) (by rw [h]; simp [hp]) (hF hp)
theorem Dr.caseB {P : Program} {ops : List Oper} {anc : List (List Nat)} {s : ASt} {Q : Exit → ASt → Prop} {recs : List ORec} (j : Nat) {b : Bool} {ch : List (Nat × Option Chunk)} {ids : List Nat} (h : recs[j]? = some (⟨aT b, ch⟩, ids)) (hT : b = true → Dr P ops anc s Q (recs.set j (⟨aT true, ch⟩, ids))) (hF : b = false → Dr P ops anc s Q (recs.set j (⟨aT false, ch⟩, ids))) : Dr P ops anc s Q recs :=
 Dr.caseD j (p := b = true) (by rw [h]; simp) hT (fun h => hF (by simpa using h))
theorem Dr.all {P : Program} {ops : List Oper} {anc : List (List Nat)} {s : ASt} {Q : Exit → ASt → Prop} {recs : List ORec} (h : Dr P ops anc s Q recs) : ∃ full, recs <+: full ∧ full.length = ops.length ∧ indepOk ops anc full = true ∧ Q .normal (mkS s (fun _ => true) ops full) ∧
  ∀ i o r, recs.length ≤ i → ops[i]? = some o → full[i]? = some r → dstOk o.dst s.n = true ∧ StepOk P ops (mkS s (fun k => memL k (ancAt anc i)) ops (full.take i)) o r.2 (s.nx + 8 * i) r.1 := by
 induction h with
 | @done recs h1 h2 h3 =>
  have hl : recs.length = ops.length := by simpa using h1
  exact ⟨recs, List.prefix_rfl, hl, h2, h3, fun i o r hi ho => by have := (List.getElem?_eq_some_iff.1 ho).1; omega⟩
 | @op recs o ids u h1 h2 h3 _ ih =>
  obtain ⟨full, g1, g2, g3, g4, g5⟩ := ih;have hpre : recs <+: full := (List.prefix_append _ _).trans g1;refine ⟨full, hpre, g2, g3, g4, fun i o' r hi ho hr => ?_⟩
  by_cases hi2 : recs.length + 1 ≤ i
  ·exact g5 i o' r (by simpa using hi2) ho hr
  have : i = recs.length := by omega
  subst this;rw [h1] at ho;obtain rfl : o = o' := by simpa using ho
  have hr2 : full[recs.length]? = some (u, ids) := by
   obtain ⟨tl, rfl⟩ := g1;simp
  rw [hr2] at hr;obtain rfl : (u, ids) = r := by simpa using hr
  refine ⟨h3, ?_⟩
  have : full.take recs.length = recs := by
   obtain ⟨tl, rfl⟩ := hpre;simp
  rw [this]; exact h2
def cntF (L : Nat → Bool) : Nat → Nat
 | 0 => 0
 | n + 1 => cntF L n + (if L n then 0 else 1)
theorem cntF_zero {L : Nat → Bool} : ∀ {n : Nat}, cntF L n = 0 → ∀ i, i < n → L i = true
 | n + 1, h, i, hi => by
  simp only [cntF] at h
  by_cases hin : i = n
  ·subst hin; cases hL : L i <;> simp [hL] at h ⊢
  exact cntF_zero (n := n) (by omega) i (by omega)
theorem cntF_set {L L' : Nat → Bool} {i : Nat} (hi0 : L i = false) (hi1 : L' i = true) (hne : ∀ j, j ≠ i → L' j = L j) : ∀ n, (i < n → cntF L' n + 1 = cntF L n) ∧ (n ≤ i → cntF L' n = cntF L n)
 | 0 => by simp [cntF]
 | n + 1 => by
  obtain ⟨h1, h2⟩ := cntF_set hi0 hi1 hne n;simp only [cntF];refine ⟨fun h => ?_, fun h => ?_⟩
  ·by_cases hin : n = i
   ·subst hin; have := h2 (Nat.le_refl _); simp [hi0, hi1, this]
   have := h1 (by omega); rw [hne n hin]; omega
  have := h2 (by omega); rw [hne n (by omega)]; omega
theorem cntF_full (L : Nat → Bool) (h : ∀ i, L i = false) : ∀ n, cntF L n = n
 | 0 => rfl
 | n + 1 => by simp [cntF, cntF_full L h n, h]
theorem goS_cut {L : Nat → Bool} {i : Nat} (hL : ∀ k, L k = true → k < i) : ∀ (os : List Oper) (rs : List ORec) (k : Nat) (x : List (Nat × AV)), goS L k os (rs.take (i - k)) x = goS L k os rs x := by
 have hfalse : ∀ (os : List Oper) (rs : List ORec) (q : Nat) (x : List (Nat × AV)), i ≤ q → goS L q os rs x = x := by
  intro os
  induction os with
  | nil => intro rs q x _; simp [goS]
  | cons o os ih2 =>
   intro rs q x hq;cases rs with
   | nil => simp [goS]
   | cons r rs =>
    have : L q = false := by cases hh : L q with
     | false => rfl
     | true => have := hL q hh; omega
    simp only [goS, this];exact ih2 rs (q + 1) x (by omega)
 intro os
 induction os with
 | nil => intro rs k x; simp [goS]
 | cons o os ih =>
  intro rs k x;cases rs with
  | nil => simp
  | cons r rs =>
   by_cases hk : k < i
   ·rw [show i - k = (i - (k + 1)) + 1 by omega, List.take_succ_cons];simp only [goS];exact ih rs (k + 1) _
   have hki : i - k = 0 := by omega
   rw [hki, List.take_zero, hfalse _ (r :: rs) _ _ (by omega)];simp [goS]
theorem goC_cut {L : Nat → Bool} {i : Nat} (hL : ∀ k, L k = true → k < i) : ∀ (os : List Oper) (rs : List ORec) (k : Nat) (x : List (Nat × Option Chunk)), goC L k os (rs.take (i - k)) x = goC L k os rs x := by
 have hfalse : ∀ (os : List Oper) (rs : List ORec) (q : Nat) (x : List (Nat × Option Chunk)), i ≤ q → goC L q os rs x = x := by
  intro os
  induction os with
  | nil => intro rs q x _; simp [goC]
  | cons o os ih2 =>
   intro rs q x hq;cases rs with
   | nil => simp [goC]
   | cons r rs =>
    have : L q = false := by cases hh : L q with
     | false => rfl
     | true => have := hL q hh; omega
    simp only [goC, this];exact ih2 rs (q + 1) x (by omega)
 intro os
 induction os with
 | nil => intro rs k x; simp [goC]
 | cons o os ih =>
  intro rs k x;cases rs with
  | nil => simp
  | cons r rs =>
   by_cases hk : k < i
   ·rw [show i - k = (i - (k + 1)) + 1 by omega, List.take_succ_cons];simp only [goC];exact ih rs (k + 1) _
   have hki : i - k = 0 := by omega
   rw [hki, List.take_zero, hfalse _ (r :: rs) _ _ (by omega)];simp [goC]
section
variable {P : Program} {C : Ctx} {Q : Exit → ASt → Prop} {s : ASt} {ops : List Oper} {anc : List (List Nat)} {recs : List ORec}
theorem anc_lt (h : ancOk ops anc = true) {i j : Nat} (hi : i < ops.length) (hj : j ∈ ancAt anc i) : j < i := by
 simp only [ancOk, List.all_eq_true, List.mem_range] at h;have := h i hi;rw [List.getElem?_eq_getElem hi] at this;simp only [Bool.and_eq_true, List.all_eq_true] at this;have := (this.2 j hj).1;simpa using this
theorem deps_lt (h : ancOk ops anc = true) {i d : Nat} {o : Oper} (ho : ops[i]? = some o) (hd : d ∈ deps o) : d < i := by
 have hi := (List.getElem?_eq_some_iff.1 ho).1;simp only [ancOk, List.all_eq_true, List.mem_range] at h;have := h i hi;rw [ho] at this;simp only [Bool.and_eq_true, List.all_eq_true] at this;simpa using this.1 d hd
theorem anc_in (h : ancOk ops anc = true) {L : Nat → Bool} (hL : ∀ i o, ops[i]? = some o → L i = true → ∀ d, d ∈ deps o → L d = true) : ∀ n i o, i < n → ops[i]? = some o → (∀ d, d ∈ deps o → L d = true) → ∀ j, j ∈ ancAt anc i → L j = true := by
 intro n
 induction n with
 | zero => intro i o hi; omega
 | succ n ih =>
  intro i o hi ho hd j hj;have hil := (List.getElem?_eq_some_iff.1 ho).1;have h' := h;simp only [ancOk, List.all_eq_true, List.mem_range] at h';have := h' i hil;rw [ho] at this;simp only [Bool.and_eq_true, List.all_eq_true, Bool.or_eq_true, List.any_eq_true] at this;rcases (this.2 j hj).2 with h1 | ⟨k, h1, h2⟩
  ·exact hd j (by simpa using h1)
  have hk := deps_lt h ho h1;have hkl : k < ops.length := by omega
  exact ih k ops[k] (by omega) (List.getElem?_eq_getElem hkl) (hL k _ (List.getElem?_eq_getElem hkl) (hd k h1)) j (by simpa using h2)
def UL (s : ASt) (n : Nat) (L : Nat → Bool) (j : Nat) : Prop := s.nx + 8 * n ≤ j ∨ ∃ i, i < n ∧ L i = false ∧ s.nx + 8 * i ≤ j ∧ j < s.nx + 8 * i + 8
theorem indep_of (h : indepOk ops anc recs = true) {i j : Nat} {oi oj : Oper} {ri rj : ORec} (hi : ops[i]? = some oi) (hj : ops[j]? = some oj) (hri : recs[i]? = some ri) (hrj : recs[j]? = some rj) (hne : i ≠ j) (h1 : j ∉ ancAt anc i) (h2 : i ∉ ancAt anc j) :
  (∀ d, oj.dst = some d → d ∉ looksT ops oi ∧ oi.dst ≠ some d) ∧ (∀ id, id ∈ keysU rj.1 → id ∉ ri.2 ∧ id ∉ keysU ri.1) := by
 simp only [indepOk, List.all_eq_true, List.mem_range] at h;have := h i (List.getElem?_eq_some_iff.1 hi).1 j (List.getElem?_eq_some_iff.1 hj).1;rw [hi, hj, hri, hrj] at this;simp only [Bool.or_eq_true, beq_iff_eq, List.contains_eq_mem, decide_eq_true_eq] at this;rcases this with ((h3 | h3) | h3) | h3
 ·exact absurd h3 hne
 ·exact absurd h3 h1
 ·exact absurd h3 h2
 simp only [Bool.and_eq_true, disj, List.all_eq_true, Bool.not_eq_true', List.contains_eq_mem, decide_eq_false_iff_not] at h3;obtain ⟨⟨⟨a, b⟩, c⟩, d⟩ := h3;refine ⟨fun x hx => ⟨a x (by simp [hx]), fun he => b x (by simp [hx]) (by simp [he])⟩, fun id hid => ⟨c id hid, d id hid⟩⟩
theorem keysU_none {u : Upd} {id : Nat} (h : id ∉ keysU u) : getL id u.ch = none := by
 unfold keysU at h;generalize u.ch = l at h
 induction l with
 | nil => rfl
 | cons p l ih =>
  obtain ⟨j, x⟩ := p;simp only [List.map_cons, List.mem_cons, not_or] at h;rw [getL_cons, if_neg h.1];exact ih h.2
theorem keysU_of {u : Upd} {id : Nat} (h : getL id u.ch ≠ none) : id ∈ keysU u := by
 by_cases hm : id ∈ keysU u
 ·exact hm
 exact absurd (keysU_none hm) h
theorem dr_any (hanc : ancOk ops anc = true) (hlen : recs.length = ops.length) (hind : indepOk ops anc recs = true) (hfin : Q .normal (mkS s (fun _ => true) ops recs))
  (hstep : ∀ i o r, ops[i]? = some o → recs[i]? = some r → dstOk o.dst s.n = true ∧ StepOk P ops (mkS s (fun k => memL k (ancAt anc i)) ops (recs.take i)) o r.2 (s.nx + 8 * i) r.1) :
  ∀ (fuel : Nat) (listed : Array Bool) (a : Act) (w : World) (m : Nat → Option (Option Nat × Nat)), listed.size = ops.length → cntF (fun i => listed.getD i false) ops.length = fuel → (∀ i o, ops[i]? = some o → listed.getD i false = true → ∀ d, d ∈ deps o → listed.getD d false = true) →
   RelM C (UL s ops.length (fun i => listed.getD i false)) (mkS s (fun i => listed.getD i false) ops recs) a w m → wpAny P .any ops.toArray (Qc C Q) fuel listed a w := by
 have hready : ∀ (listed : Array Bool), listed.size = ops.length → ∀ i, i ∈ Region.ready .any ops.toArray listed ↔ ∃ o, ops[i]? = some o ∧ listed.getD i false = false ∧ ∀ d, d ∈ deps o → listed.getD d false = true := by
  intro listed hsz i;rw [mem_ready];have hg : ∀ i, i < ops.length → listed.getD i true = listed.getD i false := fun i hi => by simp [Array.getD_eq_getD_getElem?, show i < listed.size by omega]
  constructor
  ·rintro ⟨h0, o, ho, hall⟩;have ho' : ops[i]? = some o := by simpa using ho
   refine ⟨o, ho', by rw [← hg i (List.getElem?_eq_some_iff.1 ho').1]; exact h0, fun d hd => ?_⟩;simp only [deps, List.mem_map, List.mem_filter] at hd;obtain ⟨e, ⟨he, hb⟩, rfl⟩ := hd;exact hall e (by simpa using he) hb
  rintro ⟨o, ho, h0, hall⟩;refine ⟨by rw [hg i (List.getElem?_eq_some_iff.1 ho).1]; exact h0, o, by simpa using ho, fun e he hb => hall e.on ?_⟩;simp only [deps, List.mem_map, List.mem_filter];exact ⟨e, ⟨by simpa using he, hb⟩, rfl⟩
 have hnone : ∀ (listed : Array Bool), listed.size = ops.length → Region.ready .any ops.toArray listed = [] → ∀ i, i < ops.length → listed.getD i false = true := by
  intro listed hsz hr i
  induction i using Nat.strongRecOn with
  | _ i ih =>
   intro hi;cases hL : listed.getD i false with
   | true => rfl
   | false =>
    have ho := List.getElem?_eq_getElem hi;have : i ∈ Region.ready .any ops.toArray listed := (hready listed hsz i).2 ⟨_, ho, hL, fun d hd => ih d (deps_lt hanc ho hd) (by have := deps_lt hanc ho hd; omega)⟩;rw [hr] at this; cases this
 have hend : ∀ (listed : Array Bool) a w m, (∀ i, i < ops.length → listed.getD i false = true) → RelM C (UL s ops.length (fun i => listed.getD i false)) (mkS s (fun i => listed.getD i false) ops recs) a w m → Qc C Q .normal a w := by
  intro listed a w m hall hR;refine ⟨mkS s (fun _ => true) ops recs, ⟨m, hR.weaken (s' := mkS s (fun _ => true) ops recs) rfl (fun t => .inr ?_) (fun id c hc => ?_) (fun j hj => .inl hj)⟩, hfin⟩
  ·show (getL t (goS _ 0 ops recs s.sl)).getD .dead = (getL t (goS _ 0 ops recs s.sl)).getD .dead;rw [goS_same (L := fun _ => true) (L' := fun i => listed.getD i false) ops recs 0 s.sl s.sl (fun i o hi _ => by simp only [Nat.zero_add]; exact (hall i (List.getElem?_eq_some_iff.1 hi).1).symm) rfl]
  have : (mkS s (fun _ => true) ops recs).chunk id = (mkS s (fun i => listed.getD i false) ops recs).chunk id := by
   show (getL id (goC _ 0 ops recs s.ch)).getD none = (getL id (goC _ 0 ops recs s.ch)).getD none;rw [goC_same (L := fun _ => true) (L' := fun i => listed.getD i false) ops recs 0 s.ch s.ch (fun i r hi _ => by simp only [Nat.zero_add]; exact (hall i (by have := (List.getElem?_eq_some_iff.1 hi).1; omega)).symm) rfl]
  rw [← this]; exact hc
 intro fuel
 induction fuel with
 | zero =>
  intro listed a w m hsz hcnt hcl hR;have hall : ∀ i, i < ops.length → listed.getD i false = true := fun i hi => cntF_zero hcnt i hi
  refine ⟨?_, hend listed a w m hall hR⟩;cases hr : Region.ready .any ops.toArray listed with
  | nil => rfl
  | cons i l =>
   obtain ⟨o, ho, h0, _⟩ := (hready listed hsz i).1 (by rw [hr]; simp);rw [hall i (List.getElem?_eq_some_iff.1 ho).1] at h0; cases h0
 | succ fuel ih =>
  intro listed a w m hsz hcnt hcl hR;refine ⟨fun hr => hend listed a w m (hnone listed hsz hr) hR, fun i hi => ?_⟩;obtain ⟨o, ho, h0, hd⟩ := (hready listed hsz i).1 hi;have hil := (List.getElem?_eq_some_iff.1 ho).1;obtain ⟨r, hr⟩ : ∃ r, recs[i]? = some r := ⟨_, List.getElem?_eq_getElem (by omega)⟩;obtain ⟨hdst, hst⟩ := hstep i o r ho hr;have hanci : ∀ j, j ∈ ancAt anc i → listed.getD j false = true := anc_in (L := fun i => listed.getD i false) hanc hcl (i + 1) i o (by omega) ho hd
  have hdesc : ∀ j, j < ops.length → i ∈ ancAt anc j → listed.getD j false = false := by
   intro j hj hij;cases hL : listed.getD j false with
   | false => rfl
   | true =>
    have hoj := List.getElem?_eq_getElem hj;have := anc_in (L := fun i => listed.getD i false) hanc hcl (j + 1) j _ (by omega) hoj (hcl j _ hoj hL) i hij;rw [h0] at this; cases this
  have hL' : ∀ j, (listed.setIfInBounds i true).getD j false = (listed.getD j false || j == i) := by
   intro j
   by_cases hj : j = i
   ·subst hj; simp [Array.getD_eq_getD_getElem?, show j < listed.size by omega]
   simp [Array.getD_eq_getD_getElem?, Array.getElem?_setIfInBounds_ne (Ne.symm hj), hj]
  have hlt : ∀ k, memL k (ancAt anc i) = true → k < i := fun k hk => anc_lt hanc hil (memL_iff.1 hk)
  have hsame : ∀ k, k < ops.length → (k ∉ ancAt anc i → i ∉ ancAt anc k → k ≠ i → False) → listed.getD k false = memL k (ancAt anc i) := by
   intro k hkl hex
   by_cases hka : k ∈ ancAt anc i
   ·rw [hanci k hka]; exact (memL_iff.2 hka).symm
   have e1 : memL k (ancAt anc i) = false := memL_not.2 hka;rw [e1]
   by_cases hki : k = i
   ·subst hki; exact h0
   by_cases hik : i ∈ ancAt anc k
   ·exact hdesc k hkl hik
   exact (hex hka hik hki).elim
  have hagr : AgrT ops r.2 o (mkS s (fun k => memL k (ancAt anc i)) ops (recs.take i)) (mkS s (fun i => listed.getD i false) ops recs) := by
   refine ⟨rfl, fun t ht => ?_, fun id hid => ?_⟩
   ·show (getL t (goS _ 0 ops recs s.sl)).getD .dead = (getL t (goS _ 0 ops (recs.take i) s.sl)).getD .dead;have := goS_cut hlt ops recs 0 s.sl;rw [Nat.sub_zero] at this;rw [this, goS_same (L := fun i => listed.getD i false) (L' := fun k => memL k (ancAt anc i)) ops recs 0 s.sl s.sl (fun k ok hk hdk => ?_) rfl];simp only [Nat.zero_add];have hkl := (List.getElem?_eq_some_iff.1 hk).1;refine hsame k hkl (fun hka hik hki => ?_);obtain ⟨rk, hrk⟩ : ∃ rk, recs[k]? = some rk := ⟨_, List.getElem?_eq_getElem (by omega)⟩;exact absurd ht ((indep_of hind ho hk hr hrk (Ne.symm hki) hka hik).1 t hdk).1
   show (getL id (goC _ 0 ops recs s.ch)).getD none = (getL id (goC _ 0 ops (recs.take i) s.ch)).getD none;have := goC_cut hlt ops recs 0 s.ch;rw [Nat.sub_zero] at this;rw [this, goC_same (L := fun i => listed.getD i false) (L' := fun k => memL k (ancAt anc i)) ops recs 0 s.ch s.ch (fun k rk hrk hdk => ?_) rfl];simp only [Nat.zero_add];have hkl : k < ops.length := by have := (List.getElem?_eq_some_iff.1 hrk).1; omega
   refine hsame k hkl (fun hka hik hki => ?_);exact absurd hid ((indep_of hind ho (List.getElem?_eq_getElem hkl) hr hrk (Ne.symm hki) hka hik).2 id (keysU_of hdk)).1
  have hnext : ∀ a' w' m', RelM C (UL s ops.length (fun j => (listed.setIfInBounds i true).getD j false)) ((mkS s (fun i => listed.getD i false) ops recs).app o.dst r.1) a' w' m' → wpAny P .any ops.toArray (Qc C Q) fuel (listed.setIfInBounds i true) a' w' := by
   intro a' w' m' hR';refine ih (listed.setIfInBounds i true) a' w' m' (by simpa using hsz) ?_ ?_ ?_
   ·have := (cntF_set (L := fun i => listed.getD i false) (L' := fun j => (listed.setIfInBounds i true).getD j false) (i := i) h0 (by simp only [hL']; simp) (fun j hj => by simp only [hL']; simp [hj]) ops.length).1 hil;omega
   ·intro k ok hk hLk d hdd;rw [hL'] at hLk ⊢;simp only [Bool.or_eq_true, beq_iff_eq] at hLk ⊢;rcases hLk with h | h
    ·exact .inl (hcl k ok hk h d hdd)
    subst h;rw [ho] at hk;obtain rfl : o = ok := by simpa using hk
    exact .inl (hd d hdd)
   have e1 : (fun j => (listed.setIfInBounds i true).getD j false) = (fun j => (fun k => listed.getD k false) j || j == i) := funext hL';refine hR'.weaken (by rw [ASt.n_app]; rfl) (fun t => .inr ?_) (fun id c hc => ?_) (fun j hj => hj)
   ·rw [ASt.get_app];show (getL t (goS (fun j => (listed.setIfInBounds i true).getD j false) 0 ops recs s.sl)).getD .dead = _;rw [e1, goS_more (L := fun k => listed.getD k false) (i := i) (r0 := r) ops recs 0 s.sl o (Nat.zero_le _) (by simpa using ho) (by simpa using hr) (fun j oj hj hij hLj hdj hdi => ?_)]
    ·by_cases hdt : o.dst = some t
     ·rw [if_pos hdt, if_pos hdt]; rfl
     rw [if_neg hdt, if_neg hdt]; rfl
    rw [Nat.zero_add] at hij hLj;have hjl := (List.getElem?_eq_some_iff.1 hj).1;obtain ⟨rj, hrj⟩ : ∃ rj, recs[j]? = some rj := ⟨_, List.getElem?_eq_getElem (by omega)⟩
    by_cases hja : j ∈ ancAt anc i
    ·have := anc_lt hanc hil hja; omega
    by_cases hij2 : i ∈ ancAt anc j
    ·rw [hdesc j hjl hij2] at hLj; cases hLj
    exact ((indep_of hind ho hj hr hrj (by omega) hja hij2).1 t hdj).2 hdi
   rw [ASt.chunk_app];have hc2 : (getL id (goC (fun j => (listed.setIfInBounds i true).getD j false) 0 ops recs s.ch)).getD none = some c := hc;rw [e1, goC_more (t := id) (L := fun k => listed.getD k false) (i := i) (r0 := r) ops recs 0 s.ch hlen.symm (Nat.zero_le _) (by simpa using hr) (fun j rj hrj hij hLj hdj => ?_)] at hc2
   ·cases hg : getL id r.1.ch with
    | some x => rw [hg] at hc2; simpa using hc2
    | none => rw [hg] at hc2; rw [Option.none_or] at hc2; exact hc2
   rw [Nat.zero_add] at hij hLj;have hjl : j < ops.length := by have := (List.getElem?_eq_some_iff.1 hrj).1; omega
   by_cases hja : j ∈ ancAt anc i
   ·have := anc_lt hanc hil hja; omega
   by_cases hij2 : i ∈ ancAt anc j
   ·rw [hdesc j hjl hij2] at hLj; cases hLj
   exact keysU_none ((indep_of hind ho (List.getElem?_eq_getElem hjl) hr hrj (by omega) hja hij2).2 id (keysU_of hdj)).2
  have hU1 : ∀ k, k < 8 → UL s ops.length (fun i => listed.getD i false) (s.nx + 8 * i + k) := fun k hk => .inr ⟨i, hil, h0, by omega, by omega⟩
  have hU2 : ∀ j, UL s ops.length (fun j => (listed.setIfInBounds i true).getD j false) j → UL s ops.length (fun i => listed.getD i false) j ∧ (j < s.nx + 8 * i ∨ s.nx + 8 * i + 8 ≤ j) := by
   rintro j (hj | ⟨k, hk, hLk, h1, h2⟩)
   ·exact ⟨.inl hj, .inr (by omega)⟩
   have hLk' : (listed.getD k false || k == i) = false := by rw [← hL']; exact hLk
   simp only [Bool.or_eq_false_iff, beq_eq_false_iff_ne] at hLk';exact ⟨.inr ⟨k, hk, hLk'.1, h1, h2⟩, by omega⟩
  have hoa : ops.toArray[i]? = some o := by simpa using ho
  have hrun : NOp P r.2 (mkS s (fun k => memL k (ancAt anc i)) ops (recs.take i)) o (s.nx + 8 * i) r.1 → o.wp P a w (wpAny P .any ops.toArray (Qc C Q) fuel (listed.setIfInBounds i true)) (Qc C Q) := fun hn =>
   hn.run _ hagr.agr C _ _ a w m hR hU1 hU2 hdst _ _ hnext
  have hyield : ∀ j t b, ((ops[j]?).bind (·.dst)) = some t → Nat.blt t s.n = true → (mkS s (fun i => listed.getD i false) ops recs).get t = aT b → yielded ops.toArray a.tmps j = some b := by
   intro j t b h1 h2 h3;have := hR.sl t;rw [h3] at this;have hv := this.val_eq.1;have hlt : t < a.tmps.size := by rw [hR.sz]; simpa [mkS] using h2
   have h4 : a.tmps[t]? = some (.bool b) := by
    rw [Array.getElem?_eq_getElem hlt];rw [Array.getD_eq_getD_getElem?, Array.getElem?_eq_getElem hlt] at hv;simpa using hv
   simp [yielded, h1, h4]
  have hskip : r.1 = ⟨.und, []⟩ → wpAny P .any ops.toArray (Qc C Q) fuel (listed.setIfInBounds i true) (a.put o.dst undef) w := by
   intro hu;refine hnext _ _ m ?_;rw [hu];exact (hR.setSlot (x := .und) (v := undef) hdst .und).weaken rfl (fun _ => .inr rfl) (fun _ _ h => h) (fun j hj => (hU2 j hj).1)
  have hlook : ∀ j w t, o.guard = some (j, w) → ((ops[j]?).bind (·.dst)) = some t → t ∈ looksT ops o := by
   intro j w t h1 h2;refine List.mem_append_right _ ?_;rw [h1]; simp [h2]
  unfold wpOp;rw [hoa];simp only;cases hst with
  | free hg hn => rw [if_pos (by simp [Region.wanted, hg])]; exact .inl (hrun hn)
  | @yes j t b hg ht htn hs hn =>
   rw [if_pos (by simp [Region.wanted, hg, hyield j t b ht htn ((hagr.get t (hlook j b t hg ht)).trans hs)])];exact .inl (hrun hn)
  | @no j t b b' hg ht htn hs hb hu =>
   rw [if_neg (by simp [Region.wanted, hg, hyield j t b' ht htn ((hagr.get t (hlook j b t hg ht)).trans hs), hb])];exact hskip hu
  | @noU j t b hg ht hs hu =>
   have hux := hR.sl t;rw [(hagr.get t (hlook j b t hg ht)).trans hs] at hux
   have hy : yielded ops.toArray a.tmps j = none := by
    generalize hv : a.tmps.getD t undef = v at hux;cases hux;have ht' : ((ops.toArray[j]?).bind (·.dst)) = some t := by simpa using ht
    unfold yielded;rw [ht'];rw [Array.getD_eq_getD_getElem?] at hv;simp only [Option.bind_some];cases hq : a.tmps[t]? with
    | none => rfl
    | some v => rw [hq] at hv; simp only [Option.getD_some] at hv; subst hv; rfl
   rw [if_neg (by simp [Region.wanted, hg, hy])];exact hskip hu
theorem AC.drawn {id : Nat} (hm : P.follows .mixedOrders = true) (anc : List (List Nat)) (hanc : ancOk ops anc = true) (h : Dr P ops anc s Q []) : ACode P C (.region id ops.toArray true) Q s := by
 refine ⟨fun a w hR => ?_⟩;obtain ⟨m, hR⟩ := hR;obtain ⟨full, _, g2, g3, g4, g5⟩ := h.all;refine wp_region_any hm ?_
 have hrep : ∀ i, (Array.replicate ops.toArray.size false).getD i false = false := fun i => by
  simp only [Array.getD_eq_getD_getElem?, Array.getElem?_replicate]
  split <;> rfl
 have e1 : (fun i => (Array.replicate ops.toArray.size false).getD i false) = (fun _ => false) := funext hrep;refine dr_any (recs := full) (anc := anc) hanc g2 g3 g4 (fun i o r ho hr => g5 i o r (Nat.zero_le _) ho hr) ops.toArray.size _ a _ m (by simp) (by rw [e1, cntF_full _ (fun _ => rfl)]; simp) (fun i o _ h => by rw [hrep] at h; cases h) ?_;rw [e1]
 have hS : ∀ (os : List Oper) (rs : List ORec) (k : Nat) (x : List (Nat × AV)), goS (fun _ => false) k os rs x = x := by
  intro os
  induction os with
  | nil => intro rs k x; simp [goS]
  | cons o os ih => intro rs k x; cases rs <;> simp [goS, ih]
 have hC : ∀ (os : List Oper) (rs : List ORec) (k : Nat) (x : List (Nat × Option Chunk)), goC (fun _ => false) k os rs x = x := by
  intro os
  induction os with
  | nil => intro rs k x; simp [goC]
  | cons o os ih => intro rs k x; cases rs <;> simp [goC, ih]
 have := hR.drewN 1;refine RelM.weaken (s := s) (U := fun id => s.nx ≤ id) (w := { w with drawn := w.drawn + 1 }) this rfl (fun t => .inr ?_) (fun id c hc => ?_) (fun j hj => ?_)
 ·show (getL t (goS _ 0 ops full s.sl)).getD .dead = _;rw [hS]; rfl
 ·have h2 : (getL id (goC (fun _ => false) 0 ops full s.ch)).getD none = some c := hc;rw [hC] at h2; exact h2
 rcases hj with h | ⟨i, _, _, h1, _⟩
 ·show s.nx ≤ j; omega
 show s.nx ≤ j; omega
end
abbrev FRec := Nat × Option Nat × Upd × List Nat
def fS (row : List Nat) : List FRec → List (Nat × AV) → List (Nat × AV)
 | [], acc => acc
 | (i, some d, u, _) :: l, acc => bif memL i row then (d, u.r) :: fS row l acc else fS row l acc
 | (_, none, _, _) :: l, acc => fS row l acc
def fC (row : List Nat) : List FRec → List (Nat × Option Chunk) → List (Nat × Option Chunk)
 | [], acc => acc
 | (_, _, ⟨_, []⟩, _) :: l, acc => fC row l acc
 | (i, _, ⟨_, c :: cs⟩, _) :: l, acc => bif memL i row then c :: (cs ++ fC row l acc) else fC row l acc
def mkF (s : ASt) (n : Nat) (row : List Nat) (l : List FRec) : ASt := ⟨s.n, s.nx + 8 * n, fS row l s.sl, fC row l s.ch⟩
def allS : List FRec → List (Nat × AV) → List (Nat × AV)
 | [], acc => acc
 | (_, some d, u, _) :: l, acc => (d, u.r) :: allS l acc
 | (_, none, _, _) :: l, acc => allS l acc
def allC : List FRec → List (Nat × Option Chunk) → List (Nat × Option Chunk)
 | [], acc => acc
 | (_, _, ⟨_, []⟩, _) :: l, acc => allC l acc
 | (_, _, ⟨_, c :: cs⟩, _) :: l, acc => c :: (cs ++ allC l acc)
def mkAll (s : ASt) (n : Nat) (l : List FRec) : ASt := ⟨s.n, s.nx + 8 * n, allS l s.sl, allC l s.ch⟩
def fwd (l : List FRec) : List ORec := (l.map fun f => (f.2.2.1, f.2.2.2)).reverse
def FOk (ops : List Oper) : List FRec → Prop
 | [] => True
 | (i, d, _, _) :: l => i = l.length ∧ (∃ o, ops[i]? = some o ∧ o.dst = d) ∧ FOk ops l
theorem fwd_cons (f : FRec) (l : List FRec) : fwd (f :: l) = fwd l ++ [(f.2.2.1, f.2.2.2)] := by simp [fwd]
theorem fwd_len (l : List FRec) : (fwd l).length = l.length := by simp [fwd]
theorem goS_snoc (L : Nat → Bool) (r : ORec) (o : Oper) : ∀ (os : List Oper) (rs : List ORec) (k : Nat) (acc : List (Nat × AV)), os[rs.length]? = some o → goS L k os (rs ++ [r]) acc = match L (k + rs.length), o.dst with | true, some d => (d, r.1.r) :: goS L k os rs acc | _, _ => goS L k os rs acc
 | [], rs, k, acc, h => by simp at h
 | o' :: os, [], k, acc, h => by
  simp only [List.length_nil, List.getElem?_cons_zero, Option.some.injEq] at h;subst h;cases hL : L k <;> cases hd : o'.dst <;> cases os <;> simp [goS, hL, hd]
 | o' :: os, r' :: rs, k, acc, h => by
  simp only [List.length_cons, List.getElem?_cons_succ] at h;simp only [List.cons_append, goS, List.length_cons];rw [goS_snoc L r o os rs (k + 1) _ h];rw [show k + 1 + rs.length = k + (rs.length + 1) by omega]
theorem goC_snoc (L : Nat → Bool) (r : ORec) (o : Oper) : ∀ (os : List Oper) (rs : List ORec) (k : Nat) (acc : List (Nat × Option Chunk)), os[rs.length]? = some o → goC L k os (rs ++ [r]) acc = match L (k + rs.length) with | true => r.1.ch ++ goC L k os rs acc | _ => goC L k os rs acc
 | [], rs, k, acc, h => by simp at h
 | o' :: os, [], k, acc, h => by
  cases hL : L k <;> cases os <;> simp [goC, hL]
 | o' :: os, r' :: rs, k, acc, h => by
  simp only [List.length_cons, List.getElem?_cons_succ] at h;simp only [List.cons_append, goC, List.length_cons];rw [goC_snoc L r o os rs (k + 1) _ h];rw [show k + 1 + rs.length = k + (rs.length + 1) by omega]
theorem goS_F (row : List Nat) {ops : List Oper} : ∀ {l : List FRec}, FOk ops l → ∀ acc, goS (fun k => memL k row) 0 ops (fwd l) acc = fS row l acc
 | [], _, acc => by cases ops <;> simp [fwd, goS, fS]
 | (i, d, u, ids) :: l, h, acc => by
  obtain ⟨rfl, ⟨o, ho, rfl⟩, h3⟩ := h;rw [fwd_cons, goS_snoc _ _ o _ _ _ _ (by rw [fwd_len]; exact ho), fwd_len, Nat.zero_add, goS_F row h3];cases hm : memL l.length row <;> cases hd : o.dst <;> simp [fS, hm]
theorem goC_F (row : List Nat) {ops : List Oper} : ∀ {l : List FRec}, FOk ops l → ∀ acc, goC (fun k => memL k row) 0 ops (fwd l) acc = fC row l acc
 | [], _, acc => by cases ops <;> simp [fwd, goC, fC]
 | (i, d, u, ids) :: l, h, acc => by
  obtain ⟨rfl, ⟨o, ho, rfl⟩, h3⟩ := h;rw [fwd_cons, goC_snoc _ _ o _ _ _ _ (by rw [fwd_len]; exact ho), fwd_len, Nat.zero_add, goC_F row h3];obtain ⟨r, ch⟩ := u;cases hm : memL l.length row <;> cases ch <;> simp [fC, hm]
theorem goS_A {ops : List Oper} : ∀ {l : List FRec}, FOk ops l → ∀ acc, goS (fun _ => true) 0 ops (fwd l) acc = allS l acc
 | [], _, acc => by cases ops <;> simp [fwd, goS, allS]
 | (i, d, u, ids) :: l, h, acc => by
  obtain ⟨rfl, ⟨o, ho, rfl⟩, h3⟩ := h;rw [fwd_cons, goS_snoc _ _ o _ _ _ _ (by rw [fwd_len]; exact ho), goS_A h3];cases hd : o.dst <;> simp [allS]
theorem goC_A {ops : List Oper} : ∀ {l : List FRec}, FOk ops l → ∀ acc, goC (fun _ => true) 0 ops (fwd l) acc = allC l acc
 | [], _, acc => by cases ops <;> simp [fwd, goC, allC]
 | (i, d, u, ids) :: l, h, acc => by
  obtain ⟨rfl, ⟨o, ho, rfl⟩, h3⟩ := h;rw [fwd_cons, goC_snoc _ _ o _ _ _ _ (by rw [fwd_len]; exact ho), goC_A h3];obtain ⟨r, ch⟩ := u;cases ch <;> simp [allC]
def idsF : List FRec → List (Nat × Nat) → Bool
 | l, [] => true
 | l, (i, j) :: ps => (match atF j l with
  | some ([], _) => true
  | some (ks, _) => (match atF i l with
   | some (ks', ids') => disj2 ks ids' ks'
   | none => false)
  | none => false) && idsF l ps
where atF (i : Nat) : List FRec → Option (List Nat × List Nat)
 | [] => none
 | (k, _, u, ids) :: l => bif Nat.beq k i then some (keysU u, ids) else atF i l
theorem atF_of {ops : List Oper} {i : Nat} : ∀ {l : List FRec}, FOk ops l → ∀ {x}, idsF.atF i l = some x → ∃ r, (fwd l)[i]? = some r ∧ (keysU r.1, r.2) = x
 | [], _, x, h => by simp [idsF.atF] at h
 | (k, d, u, ids) :: l, hf, x, h => by
  obtain ⟨rfl, _, h3⟩ := hf;simp only [idsF.atF] at h;rw [fwd_cons];cases hb : Nat.beq l.length i with
  | true =>
   rw [hb] at h;simp only [cond_true, Option.some.injEq] at h;have : l.length = i := by simpa using hb
   subst this;exact ⟨(u, ids), by rw [List.getElem?_append_right (by rw [fwd_len]; exact Nat.le_refl _), fwd_len]; simp, h⟩
  | false =>
   rw [hb] at h;obtain ⟨r, h1, h2⟩ := atF_of h3 h;exact ⟨r, by rw [List.getElem?_append_left (List.getElem?_eq_some_iff.1 h1).1]; exact h1, h2⟩
theorem idsF_ok {ops : List Oper} {l : List FRec} (hf : FOk ops l) (hlen : l.length = ops.length) : ∀ {ps : List (Nat × Nat)}, slotOk ops ps = true → idsF l ps = true → idsOk (fwd l) ps = true
 | [], _, _ => rfl
 | (i, j) :: ps, hs, h => by
  obtain ⟨oi, oj, h1, h2, _⟩ := slotOk_mem hs (List.mem_cons_self ..);have hi := (List.getElem?_eq_some_iff.1 h1).1;have hj := (List.getElem?_eq_some_iff.1 h2).1;have hs' : slotOk ops ps = true := by simp only [slotOk, Bool.and_eq_true] at hs; exact hs.2
  simp only [idsF, Bool.and_eq_true] at h;simp only [idsOk, Bool.and_eq_true];refine ⟨?_, idsF_ok hf hlen hs' h.2⟩;obtain ⟨ri, hri⟩ : ∃ ri, (fwd l)[i]? = some ri := ⟨_, List.getElem?_eq_getElem (by rw [fwd_len]; omega)⟩;cases ha : idsF.atF j l with
  | none => rw [ha] at h; simp at h
  | some x =>
   obtain ⟨rj, g1, g2⟩ := atF_of hf ha;rw [hri, g1];obtain ⟨ks, ids⟩ := x;simp only [Prod.mk.injEq] at g2;cases ks with
   | nil => simp only [g2.1, disj2]
   | cons k ks =>
    rw [ha] at h;cases hb : idsF.atF i l with
    | none => rw [hb] at h; simp at h
    | some y =>
     obtain ⟨ri', q1, q2⟩ := atF_of hf hb;rw [hri] at q1;obtain rfl : ri = ri' := by simpa using q1
     obtain ⟨ks', ids'⟩ := y;simp only [Prod.mk.injEq] at q2;rw [hb] at h;simp only;rw [g2.1, q2.1, q2.2];exact h.1
structure DF (P : Program) (ops : List Oper) (anc : List (List Nat)) (s : ASt) (Q : Exit → ASt → Prop) (rest : List Oper) (l : List FRec) : Prop where
 dr : FOk ops l → ops.drop l.length = rest → Dr P ops anc s Q (fwd l)
section
variable {P : Program} {ops : List Oper} {anc : List (List Nat)} {s : ASt} {Q : Exit → ASt → Prop} {l : List FRec}
theorem DF.fin {ps : List (Nat × Nat)} (n : Nat) (hn : Nat.beq ops.length n = true) (h1 : coverOk n anc ps = true) (h2 : slotOk ops ps = true) (h3 : idsF l ps = true) (h : Q .normal (mkAll s n l)) : DF P ops anc s Q [] l := by
 refine ⟨fun hf hr => ?_⟩;have hn : ops.length = n := by simpa using hn
 subst hn;have hle : ops.length ≤ l.length := by simpa using hr
 have hle2 : l.length ≤ ops.length := by
  cases l with
  | nil => exact Nat.zero_le _
  | cons f l =>
   obtain ⟨i, d, u, ids⟩ := f;obtain ⟨rfl, ⟨o, ho, _⟩, _⟩ := hf;exact (List.getElem?_eq_some_iff.1 ho).1
 have hlen : l.length = ops.length := by omega
 refine Dr.done (by rw [fwd_len, hlen]; simp) (indep_parts h1 h2 (idsF_ok hf hlen h2 h3)) ?_;have : mkS s (fun _ => true) ops (fwd l) = mkAll s ops.length l := by simp [mkS, mkAll, goS_A hf, goC_A hf]
 rw [this]; exact h
theorem DF.op {rest : List Oper} {o : Oper} (i : Nat) (row : List Nat) {ids : List Nat} {u : Upd} (n : Nat) (hi : Nat.beq l.length i = true) (hn : Nat.beq ops.length n = true) (hrow : ancAt anc i = row) (hst : StepOk P ops (mkF s n row l) o ids (s.nx + 8 * i) u) (hd : dstOk o.dst s.n = true) (h : DF P ops anc s Q rest ((i, o.dst, u, ids) :: l)) : DF P ops anc s Q (o :: rest) l := by
 refine ⟨fun hf hr => ?_⟩;have hi : l.length = i := by simpa using hi
 have hn : ops.length = n := by simpa using hn
 subst hi; subst hn
 have ho : ops[l.length]? = some o := by
  have := congrArg (fun x => x[0]?) hr;simpa using this
 have hr' : ops.drop (l.length + 1) = rest := by
  have := congrArg List.tail hr;simpa using this
 have h1 := h.dr ⟨rfl, ⟨o, ho, rfl⟩, hf⟩ hr';rw [fwd_cons] at h1;refine Dr.op (by rw [fwd_len]; exact ho) ?_ hd h1;rw [fwd_len];have : mkS s (fun k => memL k (ancAt anc l.length)) ops (fwd l) = mkF s ops.length row l := by rw [hrow]; simp [mkS, mkF, goS_F row hf, goC_F row hf]
 rw [this]; exact hst
def prs (n : Nat) (anc : List (List Nat)) : List (Nat × Nat) := (List.range n).flatMap fun i => ((List.range n).filter fun j => !(Nat.beq i j || memL j (ancAt anc i) || memL i (ancAt anc j))).map fun j => (i, j)
theorem zd [PT P] {rest : List Oper} {o : Oper} (i : Nat) (row : List Nat) (n : Nat) {ids : List Nat} {r : AV} (hg : GOp P ids (mkF s n row l) o r) (h : DF P ops anc s Q rest ((i, o.dst, ⟨r, []⟩, ids) :: l)) (hgd : o.guard = none := by exact rfl) (hi : Nat.beq l.length i = true := by exact rfl) (hn : Nat.beq ops.length n = true := by exact rfl) (hrow : ancAt anc i = row := by exact rfl) (hd : dstOk o.dst s.n = true := by exact rfl) : DF P ops anc s Q (o :: rest) l := DF.op i row n hi hn hrow (.free hgd (NOp.of hg)) hd h
theorem zh {rest : List Oper} {o : Oper} (i : Nat) (row : List Nat) (n : Nat) {ids : List Nat} {u : Upd} (hg : NOp P ids (mkF s n row l) o (s.nx + 8 * i) u) (h : DF P ops anc s Q rest ((i, o.dst, u, ids) :: l)) (hgd : o.guard = none := by exact rfl) (hi : Nat.beq l.length i = true := by exact rfl) (hn : Nat.beq ops.length n = true := by exact rfl) (hrow : ancAt anc i = row := by exact rfl) (hd : dstOk o.dst s.n = true := by exact rfl) : DF P ops anc s Q (o :: rest) l := DF.op i row n hi hn hrow (.free hgd hg) hd h
theorem ze [PT P] {rest : List Oper} {o : Oper} (i : Nat) (row : List Nat) (n : Nat) {ids : List Nat} {r : AV} {j t : Nat} {w : Bool} (hg : GOp P ids (mkF s n row l) o r) (h : DF P ops anc s Q rest ((i, o.dst, ⟨r, []⟩, ids) :: l)) (hgd : o.guard = some (j, w) := by exact rfl) (ht : ((ops[j]?).bind (·.dst)) = some t := by exact rfl) (hl : Nat.blt t (mkF s n row l).n = true := by exact rfl) (hw : (mkF s n row l).get t = aT w := by exact rfl) (hi : Nat.beq l.length i = true := by exact rfl) (hn : Nat.beq ops.length n = true := by exact rfl) (hrow : ancAt anc i = row := by exact rfl) (hd : dstOk o.dst s.n = true := by exact rfl) : DF P ops anc s Q (o :: rest) l := DF.op i row n hi hn hrow (.yes hgd ht hl hw (NOp.of hg)) hd h
theorem zg {rest : List Oper} {o : Oper} (i : Nat) (row : List Nat) (n : Nat) {j t : Nat} {w b : Bool} (h : DF P ops anc s Q rest ((i, o.dst, ⟨.und, []⟩, []) :: l)) (hgd : o.guard = some (j, w) := by exact rfl) (ht : ((ops[j]?).bind (·.dst)) = some t := by exact rfl) (hl : Nat.blt t (mkF s n row l).n = true := by exact rfl) (hw : (mkF s n row l).get t = aT b := by exact rfl) (hb : b = !w := by exact rfl) (hi : Nat.beq l.length i = true := by exact rfl) (hn : Nat.beq ops.length n = true := by exact rfl) (hrow : ancAt anc i = row := by exact rfl) (hd : dstOk o.dst s.n = true := by exact rfl) : DF P ops anc s Q (o :: rest) l := DF.op i row n hi hn hrow (.no hgd ht hl hw hb rfl) hd h
theorem zj (n : Nat) (h : Q .normal (mkAll s n l)) (hn : Nat.beq ops.length n = true := by exact rfl) (h1 : coverOk n anc (prs n anc) = true := by decide +kernel) (h2 : slotOk ops (prs n anc) = true := by decide +kernel) (h3 : idsF l (prs n anc) = true := by rfl) : DF P ops anc s Q [] l := DF.fin n hn h1 h2 h3 h
def setF (j : Nat) (r : AV) : List FRec → List FRec
 | [] => []
 | (i, d, u, ids) :: l => bif Nat.beq i j then (i, d, ⟨r, u.ch⟩, ids) :: l else (i, d, u, ids) :: setF j r l
def getF (j : Nat) : List FRec → Option AV
 | [] => none
 | (i, _, u, _) :: l => bif Nat.beq i j then some u.r else getF j l
theorem setF_same {j : Nat} {r : AV} : ∀ {l : List FRec}, getF j l = some r → setF j r l = l
 | [], h => rfl
 | (i, d, u, ids) :: l, h => by
  simp only [getF] at h;simp only [setF];cases hb : Nat.beq i j with
  | true => rw [hb] at h; simp only [cond_true, Option.some.injEq] at h; subst h; rfl
  | false => rw [hb] at h; simp only [cond_false] at h ⊢; rw [setF_same h]
theorem DF.caseD {rest : List Oper} (j : Nat) {p : Prop} [Decidable p] (h : getF j l = some (aT (decide p))) (hT : p → DF P ops anc s Q rest (setF j (aT true) l)) (hF : ¬ p → DF P ops anc s Q rest (setF j (aT false) l)) : DF P ops anc s Q rest l := by
 by_cases hp : p
 ·have := hT hp; rwa [setF_same (by rw [h]; simp [hp])] at this
 have := hF hp; rwa [setF_same (by rw [h]; simp [hp])] at this
theorem DF.caseB {rest : List Oper} (j : Nat) {b : Bool} (h : getF j l = some (aT b)) (hT : b = true → DF P ops anc s Q rest (setF j (aT true) l)) (hF : b = false → DF P ops anc s Q rest (setF j (aT false) l)) : DF P ops anc s Q rest l := by
 cases b
 ·have := hF rfl; rwa [setF_same h] at this
 have := hT rfl; rwa [setF_same h] at this
theorem AC.drawn' {C : Ctx} {id : Nat} (hm : P.follows .mixedOrders = true) (anc : List (List Nat)) (hanc : ancOk ops anc = true) (h : DF P ops anc s Q ops []) : ACode P C (.region id ops.toArray true) Q s := AC.drawn hm anc hanc (h.dr trivial rfl)
end
structure Tn where
 pre : List Int
 post : List Int
 deriving DecidableEq
abbrev tnD (t : Tn) : List DV := [vI t.pre, vI t.post]
abbrev tnA (t : Tn) : AV := .agg [.d (vI t.pre), .d (vI t.post)]
abbrev tsL (l : List Tn) : List (List DV) := l.map tnD
abbrev vTs (l : List Tn) : DV := .view 96 2 (tsL l)
theorem tsL_get {l : List Tn} {k : Nat} (h : k < l.length) : (tsL l)[k]? = some [vI l[k].pre, vI l[k].post] := by
 simp [tsL, List.getElem?_map, List.getElem?_eq_getElem h]
theorem ints_at {l : List Int} {k : Nat} (h : k < l.length) : (ints l)[k]? = some [dI l[k]] := by
 simp [ints, List.getElem?_map, List.getElem?_eq_getElem h]
theorem leadsL_data (σ : Nat → Option Nat) : ∀ ds : List DV, AV.leadsL σ (ds.map .d) (ds.map .d)
 | [] => rfl
 | d :: ds => ⟨_, _, rfl, .same, leadsL_data σ ds⟩
def findI {α : Type} (p : α → Bool) (l : List α) : Int := if l.findIdx p < l.length then (l.findIdx p : Int) else -1
theorem findI_at {α : Type} {p : α → Bool} {l : List α} {k : Nat} (hk : k < l.length) (h : p l[k] = true) (hp : ∀ j (hj : j < k), p (l[j]'(by omega)) = false) : findI p l = (k : Int) := by
 have : l.findIdx p = k := (List.findIdx_eq hk).2 ⟨h, fun j hj => by simpa using hp j hj⟩;rw [findI, this, if_pos hk]
theorem findI_none {α : Type} {p : α → Bool} {l : List α} (hp : ∀ j (hj : j < l.length), p l[j] = false) : findI p l = -1 := by
 have : l.findIdx p = l.length := List.findIdx_eq_length.2 (fun x hx => by obtain ⟨j, hj, rfl⟩ := List.getElem_of_mem hx; exact hp j hj);rw [findI, this, if_neg (Nat.lt_irrefl _)]
theorem findI_any {α : Type} (p : α → Bool) (l : List α) : decide (0 ≤ findI p l) = l.any p := by
 unfold findI
 by_cases h : l.findIdx p < l.length
 ·rw [if_pos h, List.any_eq_true.2 (List.findIdx_lt_length.1 h)]; simp
 rw [if_neg h]
 have : l.any p = false := by
  rw [List.any_eq_false];intro x hx hp;exact h (List.findIdx_lt_length.2 ⟨x, hx, hp⟩)
 rw [this]; rfl
set_option maxHeartbeats 1000000 in
theorem indexTn_spec (l : List Tn) (hl : l.length ≤ 2000000) (g : FuncId) (ds : List DV) (hen : Enters Tryz.prog g) (p : Tn → Bool) (hp : ∀ t, t ∈ l → ASpec Tryz.prog g (tnA t :: ds.map .d) [] (Pure1 (aT (p t)))) : ASpec Tryz.prog 125 [.d (vTs l), .clo g (ds.map .d)] [] (Pure1 (aI (findI p l))) := by
 refine ASpec.of Tryz.func125 rfl rfl fun C hC => ?_
 refine AC.seq (AC.region ?_);refine za ?_;refine AL.nil (th_n (AC.seq (AC.seq (AC.region ?_))));refine zm ?_;refine kH ?_;refine zm ?_;refine AL.nil (th_n (AC.block ?_));refine AC.loop (ι := Nat) (fun k => ⟨19, 0, [(0, .d (vTs l)), (1, .clo g (ds.map .d)), (6, .d (vTs l)), (7, aI l.length), (8, aI k)], []⟩) (fun k => k ≤ l.length ∧ ∀ j (hj : j < l.length), j < k → p l[j] = false) (fun k => l.length - k) (0) ?_ (⟨Nat.zero_le _, fun j _ hj => by omega⟩) ?_
 ·refine Weak.ren _ [] hC rfl ⟨.same, ⟨_, rfl, leadsL_data _ ds⟩, ?_⟩ trivial rfl rfl rfl; repeat (first | exact True.intro | refine And.intro ?_ ?_ | exact DLead.same)
 intro k ⟨hk, hall⟩;refine AC.seq (AC.region ?_);refine zc ?_;refine AL.nil (th_n (AC.seq ?_));refine AC.condD rfl (fun h0 => ?_) (fun h0 => ?_)
 ·refine AC.skip (th_n (AC.seq (AC.block (AC.seq ?_))));have hk1 : k < l.length := by omega
  have hget := tsL_get hk1;refine AC.region ?_;refine zm ?_;refine za ?_;refine AL.nil (th_n (AC.seq (AC.region ?_)));refine AL.p (by exact mv6 rfl) rfl ?_;refine zm ?_;refine zm ?_;refine AL.p (by exact g_ia_view rfl rfl rfl rfl rfl (by rfl) (by assumption)) rfl ?_;refine kG ?_;refine AL.q (by exact h_pure hen rfl rfl (by exact ⟨_, _, rfl, ⟨_, rfl, _, _, rfl, .same, _, _, rfl, .same, rfl⟩, leadsL_data _ ds⟩) (hp l[k] (List.getElem_mem hk1)) rfl) rfl ?_;refine AL.nil (th_n ?_);refine AC.condB rfl (fun h1 => ?_) (fun h1 => ?_)
  ·refine AC.seq (AC.region ?_);refine zm ?_;refine za ?_;refine AL.nil (th_n (AC.ret (ib_r (th_r (th_r (ib_r (th_r (bq_r ?_))))))));exact ret1 rfl (by rw [findI_at hk1 h1 (fun j hj => hall j (by omega) hj)])
  refine AC.skip (ib_n (th_n (AC.region ?_)));refine zA ?_;refine zm ?_;refine AL.nil (th_n ?_);exact ⟨k + 1, ⟨by omega, fun j hj hj2 => by rcases Nat.lt_succ_iff_lt_or_eq.1 hj2 with h | rfl; exact hall j hj h; exact h1⟩, by omega, Weak.ren _ [] hC rfl ⟨.same, ⟨_, rfl, leadsL_data _ ds⟩, by repeat (first | exact True.intro | refine And.intro ?_ ?_ | exact DLead.same)⟩ trivial rfl rfl rfl⟩
 refine AC.exit (th_e (th_e (ib_y (th_n (AC.seq (AC.region ?_))))));refine za ?_;refine AL.nil (th_n (AC.ret (bq_r ?_)));exact ret1 rfl (by rw [findI_none (fun j hj => hall j hj (by omega))])
theorem en_indexTn : Enters Tryz.prog 125 := enters_of Tryz.func125 rfl rfl
set_option maxHeartbeats 1000000 in
theorem containsTn_spec (l : List Tn) (hl : l.length ≤ 2000000) (g : FuncId) (ds : List DV) (hen : Enters Tryz.prog g) (p : Tn → Bool) (hp : ∀ t, t ∈ l → ASpec Tryz.prog g (tnA t :: ds.map .d) [] (Pure1 (aT (p t)))) : ASpec Tryz.prog 122 [.d (vTs l), .clo g (ds.map .d)] [] (Pure1 (aT (l.any p))) := by
 refine ASpec.of Tryz.func122 rfl rfl fun C hC => ?_
 refine AC.seq (AC.region ?_);refine za ?_;refine AL.nil (th_n (AC.seq (AC.region ?_)));refine zm ?_;refine AL.p (by exact mv6 rfl) rfl ?_;refine AL.q (by exact h_pure en_indexTn rfl rfl (by exact ⟨_, _, rfl, .same, _, _, rfl, ⟨_, rfl, leadsL_data _ ds⟩, rfl⟩) (indexTn_spec l hl g ds hen p hp) rfl) rfl ?_;refine zc ?_;refine za ?_;refine AL.nil (th_n (AC.ret (bq_r ?_)));exact ret1 rfl (by rw [findI_any])
theorem en_containsTn : Enters Tryz.prog 122 := enters_of Tryz.func122 rfl rfl
def bstr (l : List UInt8) : ByteArray := ⟨l.toArray⟩
theorem bstr_data (l : List UInt8) : (bstr l).data.toList = l := rfl
theorem bstr_size (l : List UInt8) : (bstr l).size = l.length := by simp [bstr, ByteArray.size]
theorem bstr_of (s : ByteArray) : bstr s.data.toList = s := by cases s; rfl
theorem bstr_inj {a b : List UInt8} (h : bstr a = bstr b) : a = b := by have := congrArg (fun s => s.data.toList) h; simpa [bstr_data] using this
theorem bstr_append (a b : List UInt8) : bstr a ++ bstr b = bstr (a ++ b) := by
 rw [← bstr_of (bstr a ++ bstr b)];congr 1
abbrev byteEls (l : List UInt8) : List (List DV) := l.map fun b => [dB b]
section
variable {P : Program} [PT P]
variable {s : ASt} {dst : Option Nat} {ty : Nat} {pos : String} {af : Array Edge} {gd : Option (Nat × Bool)} {x : Operand} {t u f : Nat}
theorem bytesRow_getD (s : ByteArray) (cap j : Nat) (hj : j < s.size) : (bytesRow s cap).getD j undef = .int .u8 ((s.data.toList[j]'(by simpa using hj)).toNat : Int) := by
 have h : (bytesRow s cap)[j]? = some (.int .u8 ((s.data.toList[j]'(by simpa using hj)).toNat : Int)) := by
  unfold bytesRow;rw [Array.getElem?_append_left (by simpa using hj)];simp only [Array.getElem?_map, Array.getElem?_eq_getElem (show j < s.data.size from hj), Option.map_some]
  rfl
 rw [Array.getD_eq_getD_getElem?, h]; rfl
theorem h_bytesOfStr {e n bt n2 bt2 bt3 : Nat} {zs zs2 zs3 : List ZK} {l : List UInt8} (ht : PT.ty P t = some ⟨.string, n, bt, zs⟩) (hu : PT.ty P u = some ⟨.slice e, n2, bt2, zs2⟩) (he : PT.ty P e = some ⟨.int .u8, 1, bt3, zs3⟩) (hx : s.ev x = aS (bstr l)) :
  NOp P [] s ⟨dst, .convert t u x, ty, pos, af, gd⟩ f ⟨.own f l.length, [(f, some (.arr e 1 (byteEls l)))]⟩ := by
 refine NOp.value fun s' ha C U U' a w m hR hU hU' hd => ?_
 have hv := hR.ev x;rw [ha.2.1 x (by simp [Op.operands]), hx] at hv;obtain ⟨e1, o1⟩ := hv.val_eq;have hsz : (bstr l).size ≤ maxLen := o1;have hrun := run_bytes_of_string (P := P) w t u e (bstr l) (PT.string ht) (PT.slice hu) (PT.int he);have hge := grownCap_ge w (bstr l).size 0 e
 have hbs : (bytesRow (bstr l) (grownCap w (bstr l).size 0 e)).size = grownCap w (bstr l).size 0 e := by
  simp only [bytesRow, Array.size_append, Array.size_map, Array.size_replicate];have : (bstr l).data.size = (bstr l).size := rfl;omega
 have hR1 := hR.drewN 1
 have hn := RelM.newArr (i := dst) (n := l.length) (cap := grownCap w (bstr l).size 0 e) (e := e) (sz := 1) (els := byteEls l) (vs := bytesRow (bstr l) (grownCap w (bstr l).size 0 e)) (fz := ((bytesRow (bstr l) (grownCap w (bstr l).size 0 e)).size, (bytesRow (bstr l) (grownCap w (bstr l).size 0 e)).size + 1)) (U' := U') hR1 hd (id := f) (by simpa using hU 0 (by omega)) (fun j hj => by have := hU' j hj; exact ⟨this.1, by omega⟩) (fun i hi => by simp only; omega) (by rw [hbs, Nat.mul_one]) (by simp only [byteEls, List.length_map]; rw [bstr_size] at hge; exact hge) (grownCap_le_maxLen _ _ _ _ hsz) (by omega) (fun i cs hi => by
   simp only [byteEls, List.getElem?_map, Option.map_eq_some_iff] at hi
   obtain ⟨b, _, rfl⟩ := hi; rfl) (fun i cs j d hi hj => by
   simp only [byteEls, List.getElem?_map, Option.map_eq_some_iff] at hi;obtain ⟨b, hb, rfl⟩ := hi;cases j with
   | succ j => simp at hj
   | zero =>
    simp only [List.getElem?_cons_zero, Option.some.injEq] at hj;subst hj;have hi2 := (List.getElem?_eq_some_iff.1 hb).1;rw [Nat.mul_one, Nat.add_zero, bytesRow_getD _ _ i (by rw [bstr_size]; exact hi2)]
    have : (bstr l).data.toList[i]'(by rw [bstr_data]; exact hi2) = b := by
     have := (List.getElem?_eq_some_iff.1 hb).2;simpa [bstr_data] using this
    rw [this]
    exact .val (wrap_u8 (by have := b.toNat_lt; omega)))
 refine ⟨_, _, _, ?_, hn⟩;simp only [execOp, Sem.run_bind, e1, hrun, Result.andThen_ok, Sem.run_pure, bstr_size]
 rfl
theorem g_strOfBytes {e id n1 bt n2 bt2 bt3 k : Nat} {zs zs2 zs3 : List ZK} {l : List UInt8} {els : List (List DV)} (ht : PT.ty P t = some ⟨.slice e, n1, bt, zs⟩) (hu : PT.ty P u = some ⟨.string, n2, bt2, zs2⟩) (he : PT.ty P e = some ⟨.int .u8, 1, bt3, zs3⟩) (hx : s.ev x = .own id k) (hc : s.chunk id = some (.arr e 1 els)) (hels : els = byteEls l) (hk : k = l.length) :
  GOp P [id] s ⟨dst, .convert t u x, ty, pos, af, gd⟩ (aS (bstr l)) := by
 subst hels; subst hk;refine ⟨fun s' ha C U a w m hR => ?_⟩;have hv := hR.ev x;rw [ha.2.1 x (by simp [Op.operands]), hx] at hv;have hc' : s'.chunk id = some (.arr e 1 (byteEls l)) := by rw [ha.2.2 id (by simp)]; exact hc
 generalize hvv : a.eval x = v at hv;cases hv with
 | own hp h0 =>
  rename_i cap b;have hC := hR.chunkAt hc' hp;cases b with
  | none =>
   have hl0 : l.length = 0 := (h0 rfl).1;have hl : l = [] := List.eq_nil_of_length_eq_zero hl0;subst hl;refine ⟨.string (bstr []), ?_, .d (.val (by show ByteArray.size _ ≤ _; rw [bstr_size]; simp [maxLen]))⟩;have := run_convert_bytes_nil (P := P) w t e (PT.slice ht) (PT.int he) 0 cap u (PT.string hu);simp only [execOp, Sem.run_bind, hvv, Option.map_none, List.length_nil, this, Result.andThen_ok, Sem.run_pure]
   rfl
  | some b =>
   generalize hels2 : byteEls l = els at hC;cases hC with
   | arr hb hf hs hl hm h1 hrow hel =>
    rename_i arr fz;have hlen : els.length = l.length := by rw [← hels2]; simp
    have hcell : ∀ i, i < l.length → w.cell? ⟨b, 0 + i, none⟩ = some (.int .u8 ((l.map fun b => (b.toNat : Int)).getD i 0)) := by
     intro i hi;have hi' : els[i]? = some [dB l[i]] := by rw [← hels2]; simp [List.getElem?_eq_getElem hi]
     have h2 := hel i [dB l[i]] 0 (dB l[i]) hi' rfl;have h3 : i * 1 + 0 < arr.size := by omega
     rw [Nat.zero_add, show i = i * 1 + 0 by omega, cell_getD hb h3]
     have h4 : arr.getD (i * 1 + 0) undef = .int .u8 (l[i].toNat : Int) := by
      generalize arr.getD (i * 1 + 0) undef = v at h2;cases h2 with | val h => rfl
     rw [h4];simp [hi]
    have hrun := run_convert_bytes_arg (P := P) w t e (PT.slice ht) (PT.int he) b 0 l.length cap (l.map fun b => (b.toNat : Int)) (by simp) hcell u (PT.string hu)
    have hst : strOfNums (l.map fun b => (b.toNat : Int)) = bstr l := by
     rw [← bstr_of (strOfNums _)];congr 1;rw [strOfNums_data, List.map_map]
     conv => rhs; rw [← List.map_id l]
     apply List.map_congr_left
     intro b _;simp
    refine ⟨.string (bstr l), ?_, .d (.val (by show ByteArray.size _ ≤ _; rw [bstr_size]; omega))⟩;simp only [execOp, Sem.run_bind, hvv, Option.map_some, hrun, hst, Result.andThen_ok, Sem.run_pure]
end
theorem l1In_spec (n lo hi : Int) : ASpec Tryz.prog 63 [aI n, aI lo, aI hi] [] (Pure1 (aT (decide (lo ≤ n) && decide (n ≤ hi)))) := by
 refine ASpec.of Tryz.func63 rfl rfl fun C hC => ?_
 refine AC.seq (AC.region ?_);refine za ?_;refine AL.nil (th_n (AC.seq (AC.region ?_)));refine zm ?_;refine zm ?_;refine zc ?_;refine zm ?_;refine AL.caseG rfl rfl (fun h0 => ?_) (fun h0 => ?_)
 ·refine zy ?_;refine zm ?_;refine zy ?_;refine zm ?_;refine zy ?_;refine zc ?_;refine zQ ?_;refine za ?_;refine AL.nil (th_n (AC.ret (bq_r ?_)));exact ret1 rfl (by simp [h0])
 refine zn ?_;refine zn ?_;refine zn ?_;refine zP ?_;refine za ?_;refine AL.nil (th_n (AC.ret (bq_r ?_)));exact ret1 rfl (by simp [h0])
theorem en_l1In : Enters Tryz.prog 63 := enters_of Tryz.func63 rfl rfl
set_option maxHeartbeats 1000000 in
theorem l1Rising_spec (l : List Int) (lo hi : Int) (hl : l.length ≤ 2000000) : ASpec Tryz.prog 93 [.d (vI l), aI lo, aI hi] [] (Pure1 (aT (rising l lo hi))) := by
 refine ASpec.of Tryz.func93 rfl rfl fun C hC => ?_
 refine AC.seq (AC.region ?_);refine za ?_;refine AL.nil (th_n (AC.seq (AC.seq (AC.region ?_))));refine zm ?_;refine kH ?_;refine zm ?_;refine AL.nil (th_n (AC.block ?_));refine AC.loop (ι := Nat) (fun k => ⟨35, 0, [(0, .d (vI l)), (1, aI lo), (2, aI hi), (9, .d (vI l)), (10, aI l.length), (11, aI k)], []⟩) (fun k => k ≤ l.length ∧ ∀ j, j < k → riseAt l lo hi j = true) (fun k => l.length - k) (0) ?_ (⟨Nat.zero_le _, fun j hj => by omega⟩) ?_
 ·refine Weak.ren _ [] hC rfl ?_ ?_ rfl rfl rfl <;> repeat (first | exact True.intro | refine And.intro ?_ ?_ | exact DLead.same)
 intro k ⟨hk, hall⟩;refine AC.seq (AC.region ?_);refine zc ?_;refine AL.nil (th_n (AC.seq ?_));refine AC.condD rfl (fun h0 => ?_) (fun h0 => ?_)
 ·refine AC.skip (th_n (AC.seq (AC.block (AC.seq ?_))));have hk1 : k < l.length := by omega
  have hget : (ints l)[k]? = some [dI (l.getD k 0)] := ints_get hk1;refine AC.region ?_;refine zm ?_;refine AL.p (by exact g_ia_view rfl rfl rfl rfl rfl (by rfl) (by assumption)) rfl ?_;refine zr ?_;refine za ?_;refine za ?_;refine AL.nil (th_n (AC.seq (AC.region ?_)));refine zm ?_;refine zm ?_;refine zm ?_;refine AL.q (by exact h_pure en_l1In rfl rfl (by repeat (first | exact rfl | exact DLead.same | refine ⟨_, _, rfl, ?_, ?_⟩)) (l1In_spec _ _ _) rfl) rfl ?_;refine kC ?_;refine zm ?_;refine AL.caseGB rfl rfl (fun h1 => ?_) (fun h1 => ?_)
  ·refine zn ?_;refine zn ?_;refine zn ?_;refine AL.notU rfl rfl rfl ?_;refine AL.notU rfl rfl rfl ?_;refine AL.notU rfl rfl rfl ?_;refine AL.notU rfl rfl rfl ?_;refine AL.notU rfl rfl rfl ?_;refine AL.notU rfl rfl rfl ?_;refine AL.notU rfl rfl rfl ?_;refine zn ?_;refine zQ ?_;refine AL.nil (th_n ?_);refine AC.condT rfl ?_;refine AC.seq (AC.region ?_);refine za ?_;refine AL.nil (th_n (AC.ret (ib_r (th_r (th_r (ib_r (th_r (bq_r ?_))))))));exact ret1 rfl (by rw [rising, allN_false hk1 (by (unfold riseAt; rw [(Bool.not_eq_true' _).mp h1]; rfl))])
  refine zy ?_;refine zm ?_;refine zy ?_;refine zc ?_;refine zy ?_;refine zm ?_;refine AL.caseG rfl rfl (fun h2 => ?_) (fun h2 => ?_)
  ·refine zy ?_;refine zm ?_;refine zy ?_;refine zm ?_;refine zy ?_;refine zA ?_;refine zy ?_;have hget2 : (ints l)[k - 1]? = some [dI (l.getD (k - 1) 0)] := ints_get (by omega);have hI : (k : Int) - 1 = ((k - 1 : Nat) : Int) := by omega
   refine AL.p (by exact g_ia_view rfl rfl rfl rfl rfl (by assumption) (by assumption)) rfl ?_;refine zy ?_;refine zr ?_;refine zy ?_;refine zm ?_;refine zy ?_;refine zc ?_;refine zy ?_;refine zQ ?_;refine zP ?_;refine AL.nil (th_n ?_);refine AC.condD rfl (fun h3 => ?_) (fun h3 => ?_)
   ·refine AC.seq (AC.region ?_);refine za ?_;refine AL.nil (th_n (AC.ret (ib_r (th_r (th_r (ib_r (th_r (bq_r ?_))))))));exact ret1 rfl (by rw [rising, allN_false hk1 (by (unfold riseAt; rw [(Bool.not_eq_false' _).mp h1]; simp only [h2, h3, decide_true]; rfl))])
   refine AC.skip (ib_n (th_n (AC.region ?_)));refine zA ?_;refine zm ?_;refine AL.nil (th_n ?_);exact ⟨k + 1, ⟨by omega, fun j hj => by rcases Nat.lt_succ_iff_lt_or_eq.1 hj with h | rfl; exact hall j h; (unfold riseAt; rw [(Bool.not_eq_false' _).mp h1]; simp only [h2, h3, decide_true, decide_false]; rfl)⟩, by omega, Weak.ren _ [] hC rfl (by repeat (first | exact True.intro | refine And.intro ?_ ?_ | exact DLead.same)) (by repeat (exact True.intro)) rfl rfl rfl⟩
  refine zn ?_;refine zn ?_;refine zn ?_;refine zn ?_;refine zn ?_;refine zn ?_;refine zn ?_;refine zy ?_;refine zP ?_;refine zP ?_;refine AL.nil (th_n ?_);refine AC.condF rfl ?_;refine AC.skip (ib_n (th_n (AC.region ?_)));refine zA ?_;refine zm ?_;refine AL.nil (th_n ?_);exact ⟨k + 1, ⟨by omega, fun j hj => by rcases Nat.lt_succ_iff_lt_or_eq.1 hj with h | rfl; exact hall j h; (unfold riseAt; rw [(Bool.not_eq_false' _).mp h1]; simp only [h2, decide_false]; rfl)⟩, by omega, Weak.ren _ [] hC rfl (by repeat (first | exact True.intro | refine And.intro ?_ ?_ | exact DLead.same)) (by repeat (exact True.intro)) rfl rfl rfl⟩
 refine AC.exit (th_e (th_e (ib_y (th_n (AC.seq (AC.region ?_))))));refine za ?_;refine AL.nil (th_n (AC.ret (bq_r ?_)));exact ret1 rfl (by rw [rising, allN_true (fun j hj => hall j (by omega))])
theorem en_l1Rising : Enters Tryz.prog 93 := enters_of Tryz.func93 rfl rfl
theorem l1Set2_spec (l : List Int) (hi : Int) (hl : l.length ≤ 2000000) : ASpec Tryz.prog 69 [.d (vI l), aI hi] [] (Pure1 (aT (rising l 0 hi))) := by
 refine ASpec.of Tryz.func69 rfl rfl fun C hC => ?_
 refine AC.seq (AC.region ?_);refine za ?_;refine AL.nil (th_n (AC.seq (AC.region ?_)));refine zm ?_;refine zm ?_;refine AL.q (by exact h_pure en_l1Rising rfl rfl (by repeat (first | exact rfl | exact DLead.same | refine ⟨_, _, rfl, ?_, ?_⟩)) (l1Rising_spec _ _ _ (by assumption)) rfl) rfl ?_;refine za ?_;refine AL.nil (th_n (AC.ret (bq_r ?_)));exact ret1 rfl rfl
theorem en_l1Set2 : Enters Tryz.prog 69 := enters_of Tryz.func69 rfl rfl
structure Net where
 places : Int
 ts : List Tn
 deriving DecidableEq
abbrev netD (n : Net) : List DV := [dI n.places, vTs n.ts]
abbrev netA (n : Net) : AV := .agg [aI n.places, .d (vTs n.ts)]
structure NetB (n : Net) : Prop where
 p : -1000000 ≤ n.places ∧ n.places ≤ 1000000
 l : n.ts.length ≤ 1000000
 t : ∀ t, t ∈ n.ts → t.pre.length ≤ 1000000 ∧ t.post.length ≤ 1000000
def badT (n : Int) (t : Tn) : Bool := decide ((t.pre.length : Int) = 0) || !rising t.pre 0 (n - 1) || !rising t.post 0 (n - 1)
def goodN (n : Net) : Bool := (decide (1 ≤ n.places) && decide (n.places ≤ 30)) && decide ((n.ts.length : Int) ≤ 24) && !n.ts.any (badT n.places)
set_option maxHeartbeats 1000000 in
theorem IsValidNet1_spec (t : Tn) (n : Net) (h1 : t.pre.length ≤ 2000000) (h2 : t.post.length ≤ 2000000) (hp : -1000000 ≤ n.places ∧ n.places ≤ 1000000) : ASpec Tryz.prog 123 [tnA t, .d (.ref (netD n))] [] (Pure1 (aT (badT n.places t))) := by
 refine ASpec.of Tryz.func123 rfl rfl fun C hC => ?_
 refine AC.seq (AC.region ?_);refine kD ?_;refine za ?_;refine AL.nil (th_n (AC.seq (AC.region ?_)));refine zf ?_;refine zr ?_;refine kH ?_;refine zc ?_;refine zm ?_;refine AL.caseG rfl rfl (fun h0 => ?_) (fun h0 => ?_)
 ·refine zn ?_;refine zn ?_;refine zn ?_;refine zn ?_;refine zn ?_;refine zn ?_;refine zQ ?_;refine zm ?_;refine zn ?_;refine zn ?_;refine zn ?_;refine zn ?_;refine zn ?_;refine zn ?_;refine zQ ?_;refine za ?_;refine AL.nil (th_n (AC.ret (bq_r ?_)));exact ret1 rfl (by simp_all [badT])
 refine zy ?_;refine zf ?_;refine zy ?_;refine zr ?_;refine zy ?_;refine zf ?_;refine zy ?_;refine zr ?_;refine zy ?_;refine AL.q (by exact h_pure en_isIncreasing rfl rfl (by repeat (first | exact rfl | exact DLead.same | refine ⟨_, _, rfl, ?_, ?_⟩)) (isIncreasing_spec _ _ (by assumption) (by omega)) rfl) rfl ?_;refine zy ?_;refine kC ?_;refine zP ?_;refine zm ?_;refine AL.caseGB rfl rfl (fun h1 => ?_) (fun h1 => ?_)
 ·refine zn ?_;refine zn ?_;refine zn ?_;refine zn ?_;refine zn ?_;refine zn ?_;refine zQ ?_;refine za ?_;refine AL.nil (th_n (AC.ret (bq_r ?_)));exact ret1 rfl (by simp_all [badT])
 refine zy ?_;refine zf ?_;refine zy ?_;refine zr ?_;refine zy ?_;refine zf ?_;refine zy ?_;refine zr ?_;refine zy ?_;refine AL.q (by exact h_pure en_isIncreasing rfl rfl (by repeat (first | exact rfl | exact DLead.same | refine ⟨_, _, rfl, ?_, ?_⟩)) (isIncreasing_spec _ _ (by assumption) (by omega)) rfl) rfl ?_;refine zy ?_;refine kC ?_;refine zP ?_;refine za ?_;refine AL.nil (th_n (AC.ret (bq_r ?_)));exact ret1 rfl (by simp_all [badT])
theorem en_IsValidNet1 : Enters Tryz.prog 123 := enters_of Tryz.func123 rfl rfl
structure NetL (n : Net) : Prop where
 p : -9223372036854775808 ≤ n.places ∧ n.places ≤ 9223372036854775807
 l : n.ts.length ≤ 2000000
 t : ∀ t, t ∈ n.ts → t.pre.length ≤ 2000000 ∧ t.post.length ≤ 2000000
theorem NetB.L {n : Net} (h : NetB n) : NetL n := ⟨by have := h.p; omega, by have := h.l; omega, fun t ht => by have := h.t t ht; omega⟩
set_option maxHeartbeats 1000000 in
theorem IsValidNet_gen (n : Net) (hB : NetL n) : ASpec Tryz.prog 118 [netA n] [] (Pure1 (aT (goodN n))) := by
 have hl := hB.l;refine ASpec.of Tryz.func118 rfl rfl fun C hC => ?_
 refine AC.seq (AC.region ?_);refine kD ?_;refine za ?_;refine AL.nil (th_n (AC.seq (AC.seq (AC.region ?_))));refine zf ?_;refine zr ?_;refine AL.q (by exact h_pure en_within rfl rfl (by repeat (first | exact rfl | exact DLead.same | refine ⟨_, _, rfl, ?_, ?_⟩)) (within_spec _ _ _) rfl) rfl ?_;refine kC ?_;refine zm ?_;refine AL.caseGB rfl rfl (fun h0 => ?_) (fun h0 => ?_)
 ·refine zn ?_;refine zn ?_;refine zn ?_;refine zn ?_;refine zQ ?_;refine AL.nil (th_n ?_);refine AC.condT rfl ?_;refine AC.seq (AC.region ?_);refine za ?_;refine AL.nil (th_n (AC.ret (th_r (bq_r ?_))));exact ret1 rfl (by simp_all [goodN]; try omega)
 refine zy ?_;refine zf ?_;refine zy ?_;refine zr ?_;refine zy ?_;refine kH ?_;refine zy ?_;refine zc ?_;refine zP ?_;refine AL.nil (th_n ?_);refine AC.condD rfl (fun h1 => ?_) (fun h1 => ?_)
 ·refine AC.seq (AC.region ?_);refine za ?_;refine AL.nil (th_n (AC.ret (th_r (bq_r ?_))));exact ret1 rfl (by simp_all [goodN]; try omega)
 refine AC.skip (th_n (AC.seq ?_));have hp : -1000000 ≤ n.places ∧ n.places ≤ 1000000 := by simp at h0; omega
 refine AC.region ?_;refine zf ?_;refine zr ?_;refine AL.p (by exact g_fn rfl) rfl ?_;refine kV en_containsTn (containsTn_spec n.ts hl 123 [.ref (netD n)] en_IsValidNet1 (badT n.places) (fun t ht => IsValidNet1_spec t n (hB.t t ht).1 (hB.t t ht).2 hp)) ?_;refine kC ?_;refine za ?_;refine AL.nil (th_n (AC.ret (bq_r ?_)));exact ret1 rfl (by simp_all [goodN]; try omega)
theorem en_IsValidNet : Enters Tryz.prog 118 := enters_of Tryz.func118 rfl rfl
theorem and2_of {a b : Prop} [Decidable a] [Decidable b] (h : (decide a && decide b) = true) : a ∧ b := by simpa using h
def badH (hi : Int) (t : Tn) : Bool := decide ((t.pre.length : Int) = 0) || !rising t.pre 0 hi || !rising t.post 0 hi
theorem badH_eq {n : Net} {hi : Int} (h : hi = IntKind.i64.wrap (n.places - 1)) (h1 : 1 ≤ n.places ∧ n.places ≤ 30) : badH hi = badT n.places := by
 funext t
 have : hi = n.places - 1 := by rw [h]; exact wrap_i64 (by omega)
 unfold badH badT;rw [this]
set_option maxHeartbeats 1000000 in
theorem l1Good_gen (n : Net) (hB : NetL n) : ASpec Tryz.prog 45 [netA n] [] (Pure1 (aT (goodN n))) := by
 have hl := hB.l;obtain ⟨hi, hhi⟩ := eqx (IntKind.i64.wrap (n.places - 1));refine ASpec.of Tryz.func45 rfl rfl fun C hC => ?_
 refine AC.seq (AC.region ?_);refine kD ?_;refine za ?_;refine AL.nil (th_n (AC.seq (AC.seq (AC.region ?_))));refine zf ?_;refine zr ?_;refine kH ?_;refine zm ?_;refine AL.nil (th_n (AC.block ?_));refine AC.loop (ι := Nat) (fun k => ⟨44, 0, [(1, .d (.ref (netD n))), (6, .d (vTs n.ts)), (7, aI n.ts.length), (8, aI k)], []⟩) (fun k => k ≤ n.ts.length ∧ ∀ j (hj : j < n.ts.length), j < k → badH hi n.ts[j] = false) (fun k => n.ts.length - k) (0) ?_ (⟨Nat.zero_le _, fun j _ hj => by omega⟩) ?_
 ·refine Weak.ren _ [] hC rfl ?_ ?_ rfl rfl rfl <;> repeat (first | exact True.intro | refine And.intro ?_ ?_ | exact DLead.same)
 intro k ⟨hk, hall⟩;refine AC.seq (AC.region ?_);refine zc ?_;refine AL.nil (th_n (AC.seq ?_));refine AC.condD rfl (fun h0 => ?_) (fun h0 => ?_)
 ·refine AC.skip (th_n (AC.seq (AC.block (AC.seq ?_))));have hk1 : k < n.ts.length := by omega
  have hget := tsL_get hk1;have ht := hB.t _ (List.getElem_mem hk1);have ht1 := ht.1;have ht2 := ht.2;refine AC.region ?_;refine AL.p (by exact g_ia_view rfl rfl rfl rfl rfl (by rfl) (by assumption)) rfl ?_;refine kG ?_;refine kE ?_;refine zs ?_;refine AL.nil (th_n (AC.seq (AC.region ?_)));refine zF ?_;refine zl ?_;refine kH ?_;refine zc ?_;refine zm ?_;refine AL.caseG rfl rfl (fun h1 => ?_) (fun h1 => ?_)
  ·refine zn ?_;refine zn ?_;refine zn ?_;refine zn ?_;refine zn ?_;refine zn ?_;refine zn ?_;refine zQ ?_;refine zm ?_;refine zn ?_;refine zn ?_;refine zn ?_;refine zn ?_;refine zn ?_;refine zn ?_;refine zn ?_;refine zQ ?_;refine AL.nil (th_n ?_);refine AC.condT rfl ?_;refine AC.seq (AC.region ?_);refine za ?_;refine AL.nil (th_n (AC.ret (ib_r (th_r (th_r (ib_r (th_r (bq_r ?_))))))));have hb : badH hi n.ts[k] = true := by simp_all [badH]
   have hany : n.ts.any (badH hi) = true := List.any_eq_true.2 ⟨_, List.getElem_mem hk1, hb⟩;exact ret1 rfl (by by_cases hg : 1 ≤ n.places ∧ n.places ≤ 30; rw [goodN, ← badH_eq hhi hg, hany]; simp; rw [goodN]; by_cases ha : 1 ≤ n.places; have hc : ¬ n.places ≤ 30 := (fun h => hg ⟨ha, h⟩); simp [hc]; simp [ha])
  refine zy ?_;refine zF ?_;refine zy ?_;refine zl ?_;refine zy ?_;refine zf ?_;refine zy ?_;refine zr ?_;refine zy ?_;refine AL.p (by exact g_arith rfl rfl rfl hhi.symm) rfl ?_;refine zy ?_;refine AL.q (by exact h_pure en_l1Set2 rfl rfl (by repeat (first | exact rfl | exact DLead.same | refine ⟨_, _, rfl, ?_, ?_⟩)) (l1Set2_spec _ _ (by assumption)) rfl) rfl ?_;refine zy ?_;refine kC ?_;refine zP ?_;refine zm ?_;refine AL.caseGB rfl rfl (fun h2 => ?_) (fun h2 => ?_)
  ·refine zn ?_;refine zn ?_;refine zn ?_;refine zn ?_;refine zn ?_;refine zn ?_;refine zn ?_;refine zQ ?_;refine AL.nil (th_n ?_);refine AC.condT rfl ?_;refine AC.seq (AC.region ?_);refine za ?_;refine AL.nil (th_n (AC.ret (ib_r (th_r (th_r (ib_r (th_r (bq_r ?_))))))));have hb : badH hi n.ts[k] = true := by simp_all [badH]
   have hany : n.ts.any (badH hi) = true := List.any_eq_true.2 ⟨_, List.getElem_mem hk1, hb⟩;exact ret1 rfl (by by_cases hg : 1 ≤ n.places ∧ n.places ≤ 30; rw [goodN, ← badH_eq hhi hg, hany]; simp; rw [goodN]; by_cases ha : 1 ≤ n.places; have hc : ¬ n.places ≤ 30 := (fun h => hg ⟨ha, h⟩); simp [hc]; simp [ha])
  refine zy ?_;refine zF ?_;refine zy ?_;refine zl ?_;refine zy ?_;refine zf ?_;refine zy ?_;refine zr ?_;refine zy ?_;refine AL.p (by exact g_arith rfl rfl rfl hhi.symm) rfl ?_;refine zy ?_;refine AL.q (by exact h_pure en_l1Set2 rfl rfl (by repeat (first | exact rfl | exact DLead.same | refine ⟨_, _, rfl, ?_, ?_⟩)) (l1Set2_spec _ _ (by assumption)) rfl) rfl ?_;refine zy ?_;refine kC ?_;refine zP ?_;refine AL.nil (th_n ?_);refine AC.condB rfl (fun h3 => ?_) (fun h3 => ?_)
  ·refine AC.seq (AC.region ?_);refine za ?_;refine AL.nil (th_n (AC.ret (ib_r (th_r (th_r (ib_r (th_r (bq_r ?_))))))));have hb : badH hi n.ts[k] = true := by simp_all [badH]
   have hany : n.ts.any (badH hi) = true := List.any_eq_true.2 ⟨_, List.getElem_mem hk1, hb⟩;exact ret1 rfl (by by_cases hg : 1 ≤ n.places ∧ n.places ≤ 30; rw [goodN, ← badH_eq hhi hg, hany]; simp; rw [goodN]; by_cases ha : 1 ≤ n.places; have hc : ¬ n.places ≤ 30 := (fun h => hg ⟨ha, h⟩); simp [hc]; simp [ha])
  refine AC.skip (ib_n (th_n (AC.region ?_)));refine zA ?_;refine zm ?_;refine AL.nil (th_n ?_);exact ⟨k + 1, ⟨by omega, fun j hj hj2 => by rcases Nat.lt_succ_iff_lt_or_eq.1 hj2 with h | rfl; exact hall j hj h; simp_all [badH]⟩, by omega, Weak.ren _ [] hC rfl (by repeat (first | exact True.intro | refine And.intro ?_ ?_ | exact DLead.same)) (by repeat (exact True.intro)) rfl rfl rfl⟩
 refine AC.exit (th_e (th_e (ib_y (th_n (AC.seq (AC.region ?_))))));refine zf ?_;refine zr ?_;refine AL.q (by exact h_pure en_l1In rfl rfl (by repeat (first | exact rfl | exact DLead.same | refine ⟨_, _, rfl, ?_, ?_⟩)) (l1In_spec _ _ _) rfl) rfl ?_;refine zm ?_;refine AL.caseGB rfl rfl (fun h1 => ?_) (fun h1 => ?_)
 ·refine zy ?_;refine zf ?_;refine zy ?_;refine zr ?_;refine zy ?_;refine kH ?_;refine zy ?_;refine zc ?_;refine zQ ?_;refine za ?_;refine AL.nil (th_n (AC.ret (bq_r ?_)));have hany : n.ts.any (badH hi) = false := List.any_eq_false.2 (fun x hx => by obtain ⟨j, hj, rfl⟩ := List.getElem_of_mem hx; have := hall j hj (by omega); rw [this]; decide)
  (have hg := and2_of h1; rw [badH_eq hhi hg] at hany; exact ret1 rfl (by rw [goodN, hany, h1]; simp))
 refine zn ?_;refine zn ?_;refine zn ?_;refine zn ?_;refine zP ?_;refine za ?_;refine AL.nil (th_n (AC.ret (bq_r ?_)));have hany : n.ts.any (badH hi) = false := List.any_eq_false.2 (fun x hx => by obtain ⟨j, hj, rfl⟩ := List.getElem_of_mem hx; have := hall j hj (by omega); rw [this]; decide);exact ret1 rfl (by rw [goodN, h1]; rfl)
theorem en_l1Good : Enters Tryz.prog 45 := enters_of Tryz.func45 rfl rfl
def bit (b : UInt8) : Bool := decide ((b.toNat : Int) = 48) || decide ((b.toNat : Int) = 49)
def bitsB (m : List UInt8) (n : Int) : Bool := m.all bit && decide ((m.length : Int) = n)
theorem bstr_at {l : List UInt8} {k : Nat} (h : k < l.length) : (bstr l).data.toList[k]? = some l[k] := by
 rw [bstr_data, List.getElem?_eq_getElem h]
theorem all_bits {m : List UInt8} (h : ∀ j (hj : j < m.length), bit m[j] = true) : m.all bit = true := List.all_eq_true.2 (fun x hx => by obtain ⟨j, hj, rfl⟩ := List.getElem_of_mem hx; exact h j hj)
theorem not_bits {m : List UInt8} {j : Nat} (hj : j < m.length) (h : bit m[j] = false) : m.all bit = false := List.all_eq_false.2 ⟨_, List.getElem_mem hj, by simp [h]⟩
set_option maxHeartbeats 1000000 in
theorem isBits_spec (m : List UInt8) (n : Int) (hm : m.length ≤ 2000000) : ASpec Tryz.prog 74 [aS (bstr m), aI n] [] (Pure1 (aT (bitsB m n))) := by
 have hsz := bstr_size m;refine ASpec.of Tryz.func74 rfl rfl fun C hC => ?_
 refine AC.seq (AC.region ?_);refine za ?_;refine AL.nil (th_n (AC.seq (AC.seq (AC.region ?_))));refine za ?_;refine AL.nil (th_n (AC.block ?_));refine AC.loop (ι := Nat) (fun k => ⟨26, 0, [(0, aS (bstr m)), (1, aI n), (5, aI k)], []⟩) (fun k => k ≤ m.length ∧ ∀ j (hj : j < m.length), j < k → bit m[j] = true) (fun k => m.length - k) (0) ?_ (⟨Nat.zero_le _, fun j _ hj => by omega⟩) ?_
 ·refine Weak.ren _ [] hC rfl ?_ ?_ rfl rfl rfl <;> repeat (first | exact True.intro | refine And.intro ?_ ?_ | exact DLead.same)
 intro k ⟨hk, hall⟩;refine AC.seq (AC.seq (AC.region ?_));refine zm ?_;refine zm ?_;refine AL.p (by exact g_len_str rfl rfl rfl) rfl ?_;refine zc ?_;refine AL.nil (th_n ?_);refine AC.condD rfl (fun h0 => ?_) (fun h0 => ?_)
 ·refine AC.skip (th_n (AC.seq (AC.block (AC.seq ?_))));have hk1 : k < m.length := by omega
  have hget := bstr_at hk1;have hlt := m[k].toNat_lt;refine AC.region ?_;refine zm ?_;refine zm ?_;refine AL.p (by exact g_index rfl rfl rfl (by rfl) (by assumption)) rfl ?_;refine zc ?_;refine zm ?_;refine AL.caseGN rfl rfl (fun h1 => ?_) (fun h1 => ?_)
  ·refine zy ?_;refine zm ?_;refine zy ?_;refine zm ?_;refine zy ?_;refine AL.p (by exact g_index rfl rfl rfl (by rfl) (by assumption)) rfl ?_;refine zy ?_;refine zc ?_;refine zQ ?_;refine AL.nil (th_n ?_);refine AC.condND rfl (fun h2 => ?_) (fun h2 => ?_)
   ·refine AC.seq (AC.region ?_);refine za ?_;refine AL.nil (th_n (AC.ret (ib_r (th_r (th_r (ib_r (th_r (bq_r ?_))))))));have hb : bit m[k] = false := by simp_all [bit]
    exact ret1 rfl (by rw [bitsB, not_bits hk1 hb]; rfl)
   refine AC.skip (ib_n (th_n (AC.region ?_)));refine zm ?_;refine zA ?_;refine za ?_;refine AL.nil (th_n ?_);have hb : bit m[k] = true := by simp_all [bit]
   exact ⟨k + 1, ⟨by omega, fun j hj hj2 => by rcases Nat.lt_succ_iff_lt_or_eq.1 hj2 with h | rfl; exact hall j hj h; exact hb⟩, by omega, Weak.ren _ [] hC rfl (by repeat (first | exact True.intro | refine And.intro ?_ ?_ | exact DLead.same)) (by repeat (exact True.intro)) rfl rfl rfl⟩
  refine zn ?_;refine zn ?_;refine zn ?_;refine zn ?_;refine zP ?_;refine AL.nil (th_n ?_);refine AC.condF rfl ?_;refine AC.skip (ib_n (th_n (AC.region ?_)));refine zm ?_;refine zA ?_;refine za ?_;refine AL.nil (th_n ?_);have hb : bit m[k] = true := by simp_all [bit]
  exact ⟨k + 1, ⟨by omega, fun j hj hj2 => by rcases Nat.lt_succ_iff_lt_or_eq.1 hj2 with h | rfl; exact hall j hj h; exact hb⟩, by omega, Weak.ren _ [] hC rfl (by repeat (first | exact True.intro | refine And.intro ?_ ?_ | exact DLead.same)) (by repeat (exact True.intro)) rfl rfl rfl⟩
 refine AC.exit (th_e (th_e (ib_y (th_n (AC.seq (AC.region ?_))))));refine zm ?_;refine AL.p (by exact g_len_str rfl rfl rfl) rfl ?_;refine zm ?_;refine zc ?_;refine za ?_;refine AL.nil (th_n (AC.ret (bq_r ?_)));exact ret1 rfl (by rw [bitsB, all_bits (fun j hj => hall j hj (by omega)), hsz]; rfl)
theorem en_isBits : Enters Tryz.prog 74 := enters_of Tryz.func74 rfl rfl
set_option maxHeartbeats 1000000 in
theorem l1Mark_spec (N : Net) (m : List UInt8) (hm : m.length ≤ 2000000) : ASpec Tryz.prog 47 [netA N, aS (bstr m)] [] (Pure1 (aT (bitsB m N.places))) := by
 have hsz := bstr_size m;refine ASpec.of Tryz.func47 rfl rfl fun C hC => ?_
 refine AC.seq (AC.region ?_);refine kD ?_;refine za ?_;refine AL.nil (th_n (AC.seq (AC.seq (AC.region ?_))));refine za ?_;refine AL.nil (th_n (AC.block ?_));refine AC.loop (ι := Nat) (fun k => ⟨27, 0, [(1, aS (bstr m)), (2, .d (.ref (netD N))), (5, aI k)], []⟩) (fun k => k ≤ m.length ∧ ∀ j (hj : j < m.length), j < k → bit m[j] = true) (fun k => m.length - k) (0) ?_ (⟨Nat.zero_le _, fun j _ hj => by omega⟩) ?_
 ·refine Weak.ren _ [] hC rfl ?_ ?_ rfl rfl rfl <;> repeat (first | exact True.intro | refine And.intro ?_ ?_ | exact DLead.same)
 intro k ⟨hk, hall⟩;refine AC.seq (AC.seq (AC.region ?_));refine zm ?_;refine zm ?_;refine AL.p (by exact g_len_str rfl rfl rfl) rfl ?_;refine zc ?_;refine AL.nil (th_n ?_);refine AC.condD rfl (fun h0 => ?_) (fun h0 => ?_)
 ·refine AC.skip (th_n (AC.seq (AC.block (AC.seq ?_))));have hk1 : k < m.length := by omega
  have hget := bstr_at hk1;have hlt := m[k].toNat_lt;refine AC.region ?_;refine zm ?_;refine zm ?_;refine AL.p (by exact g_index rfl rfl rfl (by rfl) (by assumption)) rfl ?_;refine zc ?_;refine zm ?_;refine AL.caseGN rfl rfl (fun h1 => ?_) (fun h1 => ?_)
  ·refine zy ?_;refine zm ?_;refine zy ?_;refine zm ?_;refine zy ?_;refine AL.p (by exact g_index rfl rfl rfl (by rfl) (by assumption)) rfl ?_;refine zy ?_;refine zc ?_;refine zQ ?_;refine AL.nil (th_n ?_);refine AC.condND rfl (fun h2 => ?_) (fun h2 => ?_)
   ·refine AC.seq (AC.region ?_);refine za ?_;refine AL.nil (th_n (AC.ret (ib_r (th_r (th_r (ib_r (th_r (bq_r ?_))))))));have hb : bit m[k] = false := by simp_all [bit]
    exact ret1 rfl (by rw [bitsB, not_bits hk1 hb]; rfl)
   refine AC.skip (ib_n (th_n (AC.region ?_)));refine zm ?_;refine zA ?_;refine za ?_;refine AL.nil (th_n ?_);have hb : bit m[k] = true := by simp_all [bit]
   exact ⟨k + 1, ⟨by omega, fun j hj hj2 => by rcases Nat.lt_succ_iff_lt_or_eq.1 hj2 with h | rfl; exact hall j hj h; exact hb⟩, by omega, Weak.ren _ [] hC rfl (by repeat (first | exact True.intro | refine And.intro ?_ ?_ | exact DLead.same)) (by repeat (exact True.intro)) rfl rfl rfl⟩
  refine zn ?_;refine zn ?_;refine zn ?_;refine zn ?_;refine zP ?_;refine AL.nil (th_n ?_);refine AC.condF rfl ?_;refine AC.skip (ib_n (th_n (AC.region ?_)));refine zm ?_;refine zA ?_;refine za ?_;refine AL.nil (th_n ?_);have hb : bit m[k] = true := by simp_all [bit]
  exact ⟨k + 1, ⟨by omega, fun j hj hj2 => by rcases Nat.lt_succ_iff_lt_or_eq.1 hj2 with h | rfl; exact hall j hj h; exact hb⟩, by omega, Weak.ren _ [] hC rfl (by repeat (first | exact True.intro | refine And.intro ?_ ?_ | exact DLead.same)) (by repeat (exact True.intro)) rfl rfl rfl⟩
 refine AC.exit (th_e (th_e (ib_y (th_n (AC.seq (AC.region ?_))))));refine zm ?_;refine AL.p (by exact g_len_str rfl rfl rfl) rfl ?_;refine zf ?_;refine zr ?_;refine zc ?_;refine za ?_;refine AL.nil (th_n (AC.ret (bq_r ?_)));exact ret1 rfl (by rw [bitsB, all_bits (fun j hj => hall j hj (by omega)), hsz]; rfl)
theorem en_l1Mark : Enters Tryz.prog 47 := enters_of Tryz.func47 rfl rfl
theorem IsValidMarking_gen (N : Net) (m : List UInt8) (hB : NetL N) (hm : m.length ≤ 2000000) : ASpec Tryz.prog 104 [netA N, aS (bstr m)] [] (Pure1 (aT (goodN N && bitsB m N.places))) := by
 refine ASpec.of Tryz.func104 rfl rfl fun C hC => ?_
 have hIs := IsValidNet_gen N hB;refine AC.seq (AC.region ?_);refine kD ?_;refine za ?_;refine AL.nil (th_n (AC.seq (AC.region ?_)));refine kG ?_;refine kV en_IsValidNet hIs ?_;refine zm ?_;refine AL.caseGB rfl rfl (fun h0 => ?_) (fun h0 => ?_)
 ·refine zy ?_;refine zm ?_;refine zy ?_;refine zf ?_;refine zy ?_;refine zr ?_;refine zy ?_;refine AL.q (by exact h_pure en_isBits rfl rfl (by repeat (first | exact rfl | exact DLead.same | refine ⟨_, _, rfl, ?_, ?_⟩)) (isBits_spec _ _ (by assumption)) rfl) rfl ?_;refine zQ ?_;refine za ?_;refine AL.nil (th_n (AC.ret (bq_r ?_)));exact ret1 rfl (by simp [h0])
 refine zn ?_;refine zn ?_;refine zn ?_;refine zn ?_;refine zP ?_;refine za ?_;refine AL.nil (th_n (AC.ret (bq_r ?_)));exact ret1 rfl (by simp [h0])
theorem en_IsValidMarking : Enters Tryz.prog 104 := enters_of Tryz.func104 rfl rfl
theorem bstr_getD {l : List UInt8} {k : Nat} (h : k < l.length) : (bstr l).data.toList[k]? = some (l.getD k 0) := by
 rw [bstr_data, List.getElem?_eq_getElem h]; simp [List.getD, List.getElem?_eq_getElem h]
theorem byteEls_set (m : List UInt8) (i : Nat) (b : UInt8) : (byteEls m).set i [dB b] = byteEls (m.set i b) := by simp [byteEls, List.map_set]
theorem byteEls_get {m : List UInt8} {k : Nat} (h : k < m.length) : (byteEls m)[k]? = some [dB (m.getD k 0)] := by
 simp [byteEls, List.getElem?_map, List.getElem?_eq_getElem h, List.getD]
theorem rising_in {l : List Int} {lo hi : Int} (h : rising l lo hi = true) : ∀ p, p ∈ l → lo ≤ p ∧ p ≤ hi := by
 intro p hp;obtain ⟨j, hj, rfl⟩ := List.getElem_of_mem hp;unfold rising allN at h;have := List.all_eq_true.1 h j (List.mem_range.2 hj);simp [riseAt, List.getD, List.getElem?_eq_getElem hj] at this;exact this.1
structure Cur where
 code : List UInt8
 pos : Nat
 seed : Int
def Cur.byte (c : Cur) : Int := if c.pos < c.code.length then ((c.code.getD c.pos 0).toNat : Int) else 0
def Cur.turn (c : Cur) : Int := IntKind.u64.wrap (IntKind.u64.wrap (IntKind.u64.wrap (c.seed * 6364136223846793005) + c.byte) + 1442695040888963407)
def drawn (seed : Int) : Int := IntKind.i64.wrap (IntKind.u64.wrap (BitVec.ofInt 64 (seed.fdiv (2 ^ (min (40 : Int).toNat 64))) &&& BitVec.ofInt 64 255).toNat)
def Cur.after (c : Cur) : Cur := ⟨c.code, c.pos + 1, c.turn⟩
def Cur.next (c : Cur) : Int := if c.pos + 1 ≤ c.code.length then c.byte else drawn c.turn
def hasI (l : List Int) (n : Int) : Bool := l.any (fun x => decide (x = n))
section
variable {P : Program} [PT P]
variable {s : ASt} {dst : Option Nat} {ty : Nat} {pos : String} {af : Array Edge} {gd : Option (Nat × Bool)} {x y : Operand} {t u f : Nat}
theorem g_cap_nil {n bt e : Nat} {zs : List ZK} (ht : PT.ty P t = some ⟨.slice e, n, bt, zs⟩) (h : s.ev x = .d (.val (.slice none 0 0))) : GOp P [] s ⟨dst, .call { callee := .builtin .cap, args := #[x], argTypes := #[t] }, ty, pos, af, gd⟩ (aI (0 : Nat)) := by
 refine g_vals1 x (by simp [Op.operands, Call.operands]) h fun A w e1 _ => ⟨?_, ok_len (by simp [maxLen])⟩
 simp [execOp, resolve, invoke, builtin, e1, run_cap_slice w t ty none 0 0 (elem_slice (PT.slice ht)), goInt]
theorem g_slice_nil {e n bt : Nat} {zs : List ZK} {te : TS} {hi : Option Operand} (ht : PT.ty P t = some ⟨.slice e, n, bt, zs⟩) (he : PT.ty P e = some te) (hx : s.ev x = .d (.val (.slice none 0 0))) (hhi : OptEv s hi 0 0) :
  GOp P [] s ⟨dst, .slice t x none hi none, ty, pos, af, gd⟩ (.d (.val (.slice none 0 0))) := by
 refine ⟨fun s' ha C U a w m hR => ?_⟩;have hv := hR.ev x;rw [ha.2.1 x (by simp [Op.operands]), hx] at hv;have ohi := optEv_run ha hR hhi (by rintro x rfl; simp [Op.operands]);obtain ⟨e1, _⟩ := hv.val_eq;have hb := run_bounds (P := P) (isS := true) (len := 0) (cap := 0) (lo := none) (mx := none) (l := 0) (mm := 0) (.inl ⟨rfl, rfl⟩) ohi (.inl ⟨rfl, rfl⟩) (Nat.zero_le _) (Nat.le_refl _) (Nat.le_refl _) w;refine ⟨_, ?_, .d (.val trivial)⟩;simp only [execOp, Sem.run_bind, e1, Option.map_none, run_sliceS ht he rfl hb, Result.andThen_ok, Sem.run_pure]
 split <;> simp
theorem h_growZ {e n bt n2 bt2 sz k tn : Nat} {zs zs2 : List ZK} {te : TS} {I : Int} (ht : PT.ty P t = some ⟨.slice e, n, bt, zs⟩) (htn : PT.ty P tn = some ⟨.int .i64, n2, bt2, zs2⟩) (he : PT.ty P e = some te) (hs : te.size = sz) (hz0 : te.zero.length = te.size) (h0 : Nat.beq sz 0 = false)
  (hx : s.ev x = .d (.val (.slice none 0 0))) (hy : s.ev y = aI I) (hI : I = (k : Int)) (hk0 : 0 < k) (hml : k ≤ 1125899906842624) (hbytes : k * te.bytes ≤ 140737488355328) :
  NOp P [] s ⟨dst, .call { callee := .builtin .append, args := #[x, y], argTypes := #[t, tn] }, ty, pos, af, gd⟩ f ⟨.own f k, [(f, some (.arr e sz []))]⟩ := by
 refine NOp.value fun s' ha C U U' a w m hR hU hU' hd => ?_
 have hne : sz ≠ 0 := Nat.ne_of_beq_eq_false h0;obtain ⟨i, d, z, hi, hd', hkd, h1, h2, h3, h4⟩ := PT.facts he;have hvx := hR.ev x;rw [ha.2.1 x (by simp [Op.operands, Call.operands]), hx] at hvx;obtain ⟨ex, _⟩ := hvx.val_eq;have hvy := hR.ev y;rw [ha.2.1 y (by simp [Op.operands, Call.operands]), hy] at hvy;obtain ⟨ey, _⟩ := hvy.val_eq;have hcapn := nextslicecap_le (need := 0 + k) (old := 0) (by omega)
 have hrun := Lib.run_append_grow_zeros (P := P) w t tn ty e i z .i64 .i64 (PT.slice ht) (PT.int htn) hi h3 none 0 0 [] (run_firstCells_none w.drew i.size 0 0 0) k hk0 (by omega) (by omega) (by omega) (by rw [h2]; omega) (by
  rw [h2];have : Builtin.nextslicecap (0 + k) 0 * te.bytes ≤ 2 * (0 + k) * te.bytes := Nat.mul_le_mul_right _ hcapn;rw [Nat.zero_add, Nat.mul_assoc] at this;rw [Nat.zero_add]
  omega)
 have hge := grownCap_ge w (0 + k) 0 e;have hzc : z.cells.size = sz := by rw [h4]; simp [hz0, hs]
 have hXs : (Builtin.zeroCells z.cells k ++ Builtin.zeroCells z.cells (grownCap w (0 + k) 0 e - (0 + k))).size = grownCap w (0 + k) 0 e * sz := by
  simp only [Array.size_append, Builtin.zeroCells];simp [hzc];simp only [Nat.zero_add] at hge;rw [← Nat.add_mul]; congr 1; omega
 have hexec : ∀ v w', (Builtin.append_ #[t, tn] ty #[a.eval x, a.eval y]).run P w = .ok v w' → (execOp a.eval ⟨dst, .call { callee := .builtin .append, args := #[x, y], argTypes := #[t, tn] }, ty, pos, af, gd⟩).run P w = .ok (.value v) w' := by
  intro v w' h;simp [execOp, resolve, invoke, builtin, h]
 have hU0 : U f := by simpa using hU 0 (by omega)
 have hU1 : ∀ j, U' j → U j ∧ j ≠ f := fun j hj => by have := hU' j hj; exact ⟨this.1, by omega⟩
 simp only [List.toArray, Array.empty_append, Array.append_assoc, Nat.zero_add] at hrun hXs hge;generalize Builtin.zeroCells z.cells k ++ Builtin.zeroCells z.cells (grownCap w k 0 e - k) = X at hrun hXs;have hfrd : Fr C.S C.w (w.drew.alloc (.cells X e)) := (hR.fr.drew).alloc _;have hsame : ∀ (o : Obj) k, k < w.heap.size → (w.drew.alloc o).heap[k]? = w.heap[k]? := fun o k hk => Below.heap_alloc w.drew o k hk
 have hhb : (w.drew.alloc (.cells X e)).heap[w.heap.size]? = some (.cells X e (0, 0)) := heap_alloc_new w.drew _;refine ⟨_, _, _, hexec _ _ (by rw [ex, ey, hI]; exact hrun), hR.named (p := (some w.heap.size, grownCap w k 0 e)) (c := .arr e sz []) hd hU0 hU1 (fun j c hj => by simp [getL] at hj) hfrd (by simp) (fun b hb => .inl (by have hb := hb.one_arr; simp only [Option.some.injEq] at hb; subst hb; simp)) (fun k hk _ => hsame _ k hk) (fun F' hF => ⟨?_, CRep.arr hhb (by simp) hXs (by simp) (grownCap_le_maxLen _ _ _ _ (by simp only [maxLen]; omega)) (by omega) (fun i' cs hic => by simp at hic) (fun i' cs j d' hic hjd => by simp at hic)⟩)⟩;exact .own (b := some w.heap.size) (newM_self _ _ _) (by simp)
theorem retN (ρ : List (Nat × Nat)) {fn : Func} {k : Nat} {x r : AV} {chs' : List (Nat × Chunk)} (hx : resAV P s fn.results.toList = some x) (h : r.leads (sig k ρ) x) (hc : leadsC (sig k ρ) s (chL chs')) (ha : apartL (sig k ρ) (keysC (chL chs')) = true) (hρ : ρ.all (fun p => Nat.blt p.1 (k + 8)) = true) : RetQ P fn k (Fun1 r chs') s :=
  ⟨⟨x, r, chs', ρ, hx, ⟨rfl, rfl⟩, h, fun id c hc' => (leadsC_get hc id c (by rw [getL_chL]; exact hc')).1, fun id hid => by
    have : Nat.blt id k = false := by cases hb : Nat.blt id k with
      | true => have : id < k := by simpa using hb
                omega
      | false => rfl
    have h2 : getL id ρ = none := by
      cases hg : getL id ρ with
      | none => rfl
      | some v =>
        have : ∀ (l : List (Nat × Nat)), l.all (fun p => Nat.blt p.1 (k + 8)) = true → getL id l = some v → id < k + 8 := by
          intro l
          induction l with
          | nil => intro _ h; simp [getL] at h
          | cons p l ih =>
            intro h1 h2;rw [getL_cons] at h2;simp only [List.all_cons, Bool.and_eq_true] at h1
            split at h2
            · rename_i e; have := h1.1; rw [e]; simpa using this
            exact ih h1.2 h2
        have := this ρ hρ hg;omega
    simp [sig, this, h2], fun id id' j h1 h2 h3 h4 => by
    obtain ⟨c, h1⟩ := h1;obtain ⟨c', h2⟩ := h2
    exact apartL_inj ha id id' j (leadsC_get hc id c (by rw [getL_chL]; exact h1)).2 (leadsC_get hc id' c' (by rw [getL_chL]; exact h2)).2 h3 h4⟩⟩
end
abbrev nilA : AV := .d (.val (.slice none 0 0))
theorem ints_all (l : List Int) : (ints l).take l.length = ints l := by rw [List.take_of_length_le (by simp)]
theorem ints_len (l : List Int) : (ints l).length = l.length := List.length_map _
theorem h_appendI (acc new : List Int) {s : ASt} {dst : Option Nat} {ty : Nat} {pos : String} {af : Array Edge} {gd : Option (Nat × Bool)} {x y : Operand} {f : Nat} {ids ids2 : List Nat} {gone : List (Nat × Option Chunk)}
  (hto : AppTo s x 3 1 (ints acc) ids gone) (harg : AppArg s y 1 (ints new) ids2) (h : (acc ++ new).length ≤ 100000000) (hnew : gone = [] → 0 < new.length) :
  NOp Tryz.prog (ids ++ ids2) s ⟨dst, .call { callee := .builtin .append, args := #[x, y], argTypes := #[51, 51] }, ty, pos, af, gd⟩ f ⟨.own f (acc ++ new).length, (f, some (.arr 3 1 (ints (acc ++ new)))) :: gone⟩ := by
 have := h_append (P := Tryz.prog) (s := s) (dst := dst) (ty := ty) (pos := pos) (af := af) (gd := gd) (x := x) (y := y) (f := f) (t := 51) (tx := 51) (k := (acc ++ new).length) rfl rfl rfl rfl rfl rfl hto harg (by simp) (by omega) (by show (acc ++ new).length * 8 ≤ _; omega) (fun h => by rw [ints_len]; exact hnew h)
 rwa [← List.map_append] at this
def shareI (a b : List Int) : Bool := a.any (fun n => b.any (fun x => decide (n = x)))
section
variable {P : Program} [PT P] {C : Ctx} {s : ASt}
theorem own_view {m : Nat → Option (Option Nat × Nat)} {F F' : Nat → Prop} {w : World} {id n e sz : Nat} {els : List (List DV)} {v : Value} {p : Option Nat × Nat} (hv : ARep m F w (.own id n) v) (hp : m id = some p) (hC : CRep m F w p (.arr e sz els)) (hn : n ≤ els.length) (hF : ∀ q, F q → F' q) (hFb : ∀ b, p.1 = some b → F' b) : DRep F' w (.view e sz (els.take n)) v := by
 cases hv with
 | own hp' h0 =>
  rename_i cap b;rw [hp] at hp';simp only [Option.some.injEq] at hp';subst hp';cases hC with
  | nil h =>
   have : n = 0 := by simpa using hn
   subst this;exact .nil
  | arr hb hf hsz hl hm h0' hrow hel =>
   rename_i b arr fz;have hlen : (els.take n).length = n := by simp; omega
   have hsub : ∀ (i : Nat) cs, (els.take n)[i]? = some cs → els[i]? = some cs := by
    intro i cs hi;rw [List.getElem?_take] at hi
    split at hi
    ·exact hi
    cases hi
   have := DRep.view (F := F') (w := w) (e := e) (sz := sz) (els := els.take n) (off := 0) (cap := cap) (hFb b rfl) hb (by omega) hm (by omega) (fun i cs hi => hrow i cs (hsub i cs hi)) (fun i cs j d hi hj => by rw [Nat.zero_add]; exact (hel i cs j d (hsub i cs hi) hj).mono hF);rw [hlen] at this;exact this
theorem Weak.freezeC {id0 id k n e sz tt : Nat} {cs : List AV} {els els' : List (List DV)} (hc0 : s.chunk id0 = some (.cells tt cs)) (hk : cs[k]? = some (.own id n)) (hc : s.chunk id = some (.arr e sz els)) (hn : n ≤ els.length) (he : els.take n = els') (hne : id0 ≠ id) : Weak C s { n := s.n, nx := s.nx, sl := s.sl, ch := (id0, some (.cells tt (cs.set k (.d (.view e sz els'))))) :: (id, none) :: s.ch } := by
 subst he;refine ⟨?_⟩;rintro a w ⟨m, hR⟩
 have hch : ∀ j c, (getL j ((id0, some (.cells tt (cs.set k (.d (.view e sz (els.take n)))))) :: (id, none) :: s.ch)).getD none = some c → (j = id0 ∧ c = .cells tt (cs.set k (.d (.view e sz (els.take n))))) ∨ (j ≠ id0 ∧ j ≠ id ∧ s.chunk j = some c) := by
  intro j c h;rw [getL_cons] at h
  split at h
  ·rename_i e; simp at h; exact .inl ⟨e, h.symm⟩
  rename_i e;rw [getL_cons] at h
  split at h
  ·simp at h
  rename_i e'; exact .inr ⟨e, e', h⟩
 have hF : ∀ q, Fz C m s w q → Fz C m { n := s.n, nx := s.nx, sl := s.sl, ch := (id0, some (.cells tt (cs.set k (.d (.view e sz (els.take n)))))) :: (id, none) :: s.ch } w q := by
  intro q hq;refine ⟨hq.1, hq.2.1, fun j c p h1 h2 h3 => ?_⟩;rcases hch j c h1 with ⟨rfl, rfl⟩ | ⟨_, _, h⟩
  ·exact hq.2.2 j _ p hc0 h2 (.inl h3.one_cells)
  exact hq.2.2 j c p h h2 h3
 have old : ∀ j c, (getL j ((id0, some (.cells tt (cs.set k (.d (.view e sz (els.take n)))))) :: (id, none) :: s.ch)).getD none = some c → j ≠ id ∧ ∃ c0, s.chunk j = some c0 ∧ ∀ p b, occ p c b → occ p c0 b := by
  intro j c h;rcases hch j c h with ⟨rfl, rfl⟩ | ⟨_, h1, h2⟩
  ·exact ⟨hne, _, hc0, fun _ b hb => .inl hb.one_cells⟩
  exact ⟨h1, _, h2, fun _ _ h => h⟩
 obtain ⟨q, hq, hCq, hloc⟩ := hR.ch id _ hc
 have hFb : ∀ b, q.1 = some b → Fz C m { n := s.n, nx := s.nx, sl := s.sl, ch := (id0, some (.cells tt (cs.set k (.d (.view e sz (els.take n)))))) :: (id, none) :: s.ch } w b := by
  intro b hb;refine ⟨.inr (hloc b (.inl hb)), hCq.lt (.inl hb), fun j c p h1 h2 h3 => ?_⟩;obtain ⟨hj, c0, h4, h5⟩ := old j c h1;exact hj (hR.inj j id c0 _ p q h4 hc h2 hq b (h5 _ _ h3) (.inl hb))
 refine ⟨m, hR.fr, hR.fin, hR.sz, fun j => (hR.sl j).turn (MLe.refl m) (fun k hk _ => ⟨hF k hk, rfl⟩), fun j c h1 => ?_, fun j j' c c' p p' h1 h2 hp hp' b hb hb' => ?_, hR.un, hR.defers, hR.m0, hR.m0k⟩
 ·rcases hch j c h1 with ⟨rfl, rfl⟩ | ⟨_, _, h⟩
  ·obtain ⟨p, hp, hr, hl⟩ := hR.ch j _ hc0;refine ⟨p, hp, ?_, fun b hb => hl b (.inl hb.one_cells)⟩;cases hr with
   | cells g1 g2 g3 g4 =>
    refine .cells g1 (by simpa using g2) (fun i x hx => ?_) g4
    by_cases hik : k = i
    ·subst hik;rw [List.getElem?_set_self (List.getElem?_eq_some_iff.1 hk).1] at hx;simp only [Option.some.injEq] at hx;subst hx;exact .d (own_view (g3 k _ hk) hq (hR.chunkAt hc hq) hn hF hFb)
    rw [List.getElem?_set_ne hik] at hx;exact (g3 i x hx).turn (MLe.refl m) (fun k hk _ => ⟨hF k hk, rfl⟩)
  obtain ⟨p, hp, hr, hl⟩ := hR.ch j c h;exact ⟨p, hp, hr.turn (MLe.refl m) (fun k hk _ => ⟨hF k hk, rfl⟩) (fun _ _ => rfl), hl⟩
 obtain ⟨_, c0, g1, g2⟩ := old j c h1;obtain ⟨_, c0', g1', g2'⟩ := old j' c' h2;exact hR.inj j j' c0 c0' p p' g1 g1' hp hp' b (g2 _ _ hb) (g2' _ _ hb')
theorem Weak.nilOwnP (i k : Nat) {id0 o e sz tt : Nat} {cs : List AV} (hp : s.get i = .ptr id0 o) (hc : s.chunk id0 = some (.cells tt cs)) (hk : cs[k]? = some (.d (.val (.slice none 0 0)))) (h0 : Nat.ble 1 sz = true) (hid0 : Nat.beq id0 s.nx = false) : Weak C s { n := s.n, nx := s.nx + 8, sl := s.sl, ch := (id0, some (.cells tt (cs.set k (.own s.nx 0)))) :: (s.nx, some (.arr e sz [])) :: s.ch } :=
 Weak.nilOwnC hc hk (Nat.le_of_ble_eq_true h0) (Nat.ne_of_beq_eq_false hid0)
theorem Weak.freezeP (i k : Nat) {id0 o id n e sz tt : Nat} {cs : List AV} {els els' : List (List DV)} (hp : s.get i = .ptr id0 o) (hc0 : s.chunk id0 = some (.cells tt cs)) (hk : cs[k]? = some (.own id n)) (hc : s.chunk id = some (.arr e sz els)) (hn : n ≤ els.length) (he : els.take n = els') (hne : Nat.beq id0 id = false) : Weak C s { n := s.n, nx := s.nx, sl := s.sl, ch := (id0, some (.cells tt (cs.set k (.d (.view e sz els'))))) :: (id, none) :: s.ch } :=
 Weak.freezeC hc0 hk hc hn he (Nat.ne_of_beq_eq_false hne)
end
open Go.ChangeShapes Go.WideShapes Go.ChangeAt Go.RowKit
theorem ASpec.law {P : Program} {f : FuncId} {ars : List AV} {W : World} {vs : Array Value} (h : ASpec P f ars [] (Pure1 (aT true))) (hn : vs.size = ars.length) (ha : ∀ (i : Nat) x, ars[i]? = some x → ARep (fun _ => none) (fun k => k < W.heap.size) W x (vs.getD i undef)) :
  Calls P f vs W fun e W' => e = .returned (.bool true) ∧ Below W.heap.size W W' := by
 refine (h W (fun _ => none) (fun k => k < W.heap.size) vs (fun k hk => ⟨hk, fun id c p hc => by simp [getL] at hc⟩) hn ha (fun id c hc => by simp [getL] at hc) (fun id id' c c' p p' b hc => by simp [getL] at hc) (fun id _ => rfl)).mono ?_;rintro e W' ⟨v, r, chs', m', F', rfl, ⟨rfl, rfl⟩, _, _, _, ⟨h1, h2, h3, h4, h5⟩, hv, _⟩;refine ⟨?_, h1, h2, h3, h4, fun k hk => h5 k hk (fun id c p hc => by simp [getL] at hc)⟩;cases hv with
 | d hd => cases hd; rfl
section
variable {P : Program} [PT P] {C : Ctx} {Q : Exit → ASt → Prop} {s : ASt} {ops : Array Oper}
theorem AL.eqNil {x : Operand} {rest : List Oper} {dst : Option Nat} {ty xt yt : Nat} {pos : String} {af : Array Edge} {e sz e0 n bt : Nat} {zs : List ZK} {els : List (List DV)} (ht : PT.ty P xt = some ⟨.slice e0, n, bt, zs⟩) (hx : s.ev x = .d (.view e sz els)) (hd : dstOk dst s.n = true)
  (h : ∀ b, (b = true → els = []) → AL P C ops rest Q (s.put dst (aT b))) : AL P C ops (⟨dst, .binOp .eql xt x (.const (.slice none 0 0)) yt, ty, pos, af, none⟩ :: rest) Q s := by
 refine ⟨fun a w hR' => ?_⟩;obtain ⟨m, hR⟩ := hR';refine wpList_step fun K hK => ?_
 rw [if_pos (wanted_none rfl a)];obtain ⟨i, d, z, _, hdd, hk, _⟩ := PT.facts ht;have hu : P.underlying xt = some (.slice e0) := by rw [hdd]; cases d <;> simp [tkOf] at hk; rw [hk]
 have hv := hR.ev x;rw [hx] at hv
 have key : ∃ (ad : Option Addr) (l c : Nat), a.eval x = .slice ad l c ∧ (ad = none → els = []) := by
  generalize hz : a.eval x = vv at hv;cases hv with
  | d hd =>
   cases hd with
   | nil => exact ⟨_, _, _, rfl, fun _ => rfl⟩
   | empty => exact ⟨_, _, _, rfl, fun _ => rfl⟩
   | view => exact ⟨_, _, _, rfl, fun h => by cases h⟩
 obtain ⟨ad, l, c, he, hne⟩ := key
 have hrun : (execOp a.eval ⟨dst, .binOp .eql xt x (.const (.slice none 0 0)) yt, ty, pos, af, none⟩).run P w = .ok (.value (.bool ad.isNone)) w := by
  have h1 : a.eval (.const (.slice none 0 0)) = .slice none 0 0 := rfl;have h2 := Go.Lib.run_eql_slice_nil (P := P) w xt e0 ad l c 0 0 hu;simp only [execOp, he, h1, eqGuard];simp [h2]
 unfold Oper.wp;rw [hrun];refine hK _ _ ((h ad.isNone (fun hb => hne (by simpa using hb))).run _ _ ⟨m, ?_⟩);have := hR.setSlot (x := aT ad.isNone) (v := .bool ad.isNone) hd (.d (.val trivial));cases hdst : dst <;> (rw [hdst] at this; exact this)
end
section
variable {P : Program} [PT P] {s : ASt} {dst : Option Nat} {ty : Nat} {pos : String} {af : Array Edge} {gd : Option (Nat × Bool)} {x y : Operand} {f t : Nat}
theorem h_make {e n bt sz k : Nat} {zs : List ZK} {te : TS} {I : Int} (ht : PT.ty P t = some ⟨.slice e, n, bt, zs⟩) (he : PT.ty P e = some te) (hs : te.size = sz) (hz0 : te.zero.length = te.size) (h0 : Nat.beq sz 0 = false)
  (hx : s.ev x = aI I) (hy : s.ev y = aI I) (hI : I = (k : Int)) (hbytes : te.bytes * k ≤ 281474976710656) (hk : k ≤ 9223372036854775807) :
  NOp P [] s ⟨dst, .makeSlice t x y, ty, pos, af, gd⟩ f ⟨.own f k, [(f, some (.arr e sz (List.replicate k (te.zero.map fun z => DV.val z.val))))]⟩ := by
 refine NOp.value fun s' ha C U U' a w m hR hU hU' hd => ?_
 have hne : sz ≠ 0 := Nat.ne_of_beq_eq_false h0;obtain ⟨i, d, z, hi, hd', hkd, h1, h2, h3, h4⟩ := PT.facts he;have hvx := hR.ev x;rw [ha.2.1 x (by simp [Op.operands]), hx] at hvx;obtain ⟨ex, _⟩ := hvx.val_eq;have hvy := hR.ev y;rw [ha.2.1 y (by simp [Op.operands]), hy] at hvy;obtain ⟨ey, _⟩ := hvy.val_eq;subst hI
 have hb' : (i.bytes : Int) * (k : Int) ≤ 281474976710656 := by
  rw [h2];have : ((te.bytes * k : Nat) : Int) ≤ 281474976710656 := by omega
  rwa [Int.natCast_mul] at this
 have hrun := run_make (P := P) w t e i z (PT.slice ht) hi h3 .i64 .i64 (k : Int) (k : Int) (by omega) (Int.le_refl _) hb' (by omega);simp only [Int.toNat_natCast] at hrun;have hzc : z.cells.size = sz := by rw [h4]; simp [hz0, hs]
 have hXs : (madeCells z.cells (k * i.size)).size = k * sz := by rw [size_madeCells, h1, hs]
 refine ⟨_, _, _, ?_, hR.newArr (n := k) (cap := k) (els := List.replicate k (te.zero.map fun z => DV.val z.val)) (vs := madeCells z.cells (k * i.size)) (fz := (0, 0)) (e := e) (sz := sz) hd (by simpa using hU 0 (by omega)) (fun j hj => by have := hU' j hj; exact ⟨this.1, by omega⟩) (by simp) hXs (by simp) (by simp only [maxLen]; omega) (by omega) (fun i' cs hc => ?_) (fun i' cs j dd hc hdd => ?_)⟩
 ·simp only [execOp, Sem.run_bind, ex, ey, hrun]
  rfl
 ·obtain ⟨h5, h6⟩ := List.getElem?_eq_some_iff.1 hc;rw [List.getElem_replicate] at h6;rw [← h6, List.length_map, hz0, hs]
 obtain ⟨h5, h6⟩ := List.getElem?_eq_some_iff.1 hc;rw [List.getElem_replicate] at h6;rw [List.length_replicate] at h5;subst h6;rw [List.getElem?_map, Option.map_eq_some_iff] at hdd;obtain ⟨zk, hzk, rfl⟩ := hdd;have hj : j < sz := by have := (List.getElem?_eq_some_iff.1 hzk).1; omega
 have hin : i' * sz + j < k * i.size := by
  rw [h1, hs];have : (i' + 1) * sz ≤ k * sz := Nat.mul_le_mul_right _ h5;rw [Nat.succ_mul] at this; omega
 have hmod : (i' * sz + j) % sz = j := by rw [Nat.mul_comm, Nat.mul_add_mod, Nat.mod_eq_of_lt hj]
 have hval : (madeCells z.cells (k * i.size)).getD (i' * sz + j) undef = zk.val := by
  unfold madeCells;rw [Array.getD_eq_getD_getElem?, Array.getElem?_map, Array.getElem?_range, if_pos hin];show z.cells[(i' * sz + j) % z.cells.size]! = zk.val;rw [hzc, hmod, h4];rw [getElem!_def];simp [hzk]
 rw [hval];exact .val zk.ok
theorem h_store_row {id k e sz i : Nat} {ts : TS} {els : List (List DV)} {ds : List DV} (ht : PT.ty P t = some ts) (h1s : ts.size = sz) (hx : s.ev x = .ptr id k) (hc : s.chunk id = some (.arr e sz els)) (hy : (s.ev y).cells? = some (ds.map AV.d)) (hdl : ds.length = sz) (hk : k = i * sz) (hi : i < els.length) :
  NOp P [id] s ⟨dst, .store t x y, ty, pos, af, gd⟩ f ⟨.dead, [(id, some (.arr e sz (els.set i ds)))]⟩ := by
 refine ⟨fun s' ha C U U' a w m hR hU hU' hd K Q hK => ?_⟩;have hxr := hR.ev x;rw [ha.2.1 x (by simp [Op.operands]), hx] at hxr;have hyr := hR.ev y;rw [ha.2.1 y (by simp [Op.operands])] at hyr;have hc' : s'.chunk id = some (.arr e sz els) := by rw [ha.2.2 id (by simp)]; exact hc
 obtain ⟨g1, g2, g3⟩ := cells_rep hyr hy;rw [List.length_map, hdl] at g1
 have g4 : ∀ (j : Nat) (d : DV), ds[j]? = some d → DRep (Fz C m s' w) w d ((a.eval y).cells.getD j undef) := by
  intro j d hj;have := g2 j (.d d) (by rw [List.getElem?_map, hj]; rfl);cases this with
  | d h => exact h
 generalize hxv : a.eval x = xv at hxr;cases hxr with
 | ptr hp =>
  rename_i b cap;have hC := hR.chunkAt hc' hp;cases hC with
  | arr hb hf hs hl hm h0 hsz he =>
   rename_i arr fz
   have hin : k + sz ≤ arr.size := by
    have : (i + 1) * sz ≤ cap * sz := Nat.mul_le_mul_right _ (by omega);rw [Nat.succ_mul] at this;omega
   have hrun := run_storeAt (P := P) (o := k) ht hb hf (v := a.eval y) (by omega) (by omega) g3
   have hg : ∀ q, (setSeg arr k (a.eval y).cells.toList).getD q undef = if k ≤ q ∧ q < k + sz then (a.eval y).cells.getD (q - k) undef else arr.getD q undef := by
    intro q;rw [setSeg_get _ _ _ (by simp; omega) q];simp only [Array.length_toList, g1, toList_getD]
   have hR' := hR.turned (i := dst) (r := .dead) (v := undef) (w' := w.setCells b k (a.eval y).cells.toList) (c' := .arr e sz (els.set i ds)) hd hc' hp (fr_setCells _ w k) (fun F' hF => ⟨.dead, .arr (heap_setCells_at _ w _ k hb) (by rw [setSeg_size]; exact hf) (by rw [setSeg_size]; exact hs) (by simpa using hl) hm h0 (fun i' cs' hi' => ?_) (fun i' cs' j' d' hi' hj' => ?_)⟩)
   ·unfold Oper.wp;simp only [execOp, Sem.run_bind, hxv, hrun, Result.andThen_ok, Sem.run_pure, Oper.upon];exact hK _ _ m (hR'.weaken rfl (fun _ => .inr rfl) (fun _ _ h => h) (fun j hj => (hU' j hj).1))
   ·by_cases hii : i = i'
    ·subst hii;rw [List.getElem?_set_self hi] at hi';simp only [Option.some.injEq] at hi';subst hi'; exact hdl
    rw [List.getElem?_set_ne hii] at hi';exact hsz i' cs' hi'
   rw [hg]
   by_cases hii : i = i'
   ·subst hii;rw [List.getElem?_set_self hi] at hi';simp only [Option.some.injEq] at hi';subst hi';have hj2 := (List.getElem?_eq_some_iff.1 hj').1;rw [if_pos (by omega), show i * sz + j' - k = j' from by omega];exact (g4 j' d' hj').turn (fun k hk _ => hF k hk)
   rw [List.getElem?_set_ne hii] at hi'
   have hj2 : j' < sz := by
    have := hsz i' cs' hi';have := (List.getElem?_eq_some_iff.1 hj').1;omega
   rw [if_neg]
   ·exact (he i' cs' j' d' hi' hj').turn (fun k hk _ => hF k hk)
   rw [hk];rintro ⟨q1, q2⟩;rcases Nat.lt_or_gt_of_ne hii with h | h
   ·have : (i + 1) * sz ≤ i' * sz := Nat.mul_le_mul_right _ h;rw [Nat.succ_mul] at this;omega
   have : (i' + 1) * sz ≤ i * sz := Nat.mul_le_mul_right _ h;rw [Nat.succ_mul] at this;omega
end
def fillR (R : List (List DV)) (z : List DV) (k : Nat) : List (List DV) := R.take k ++ List.replicate (R.length - k) z
theorem fill_zero (R : List (List DV)) (z : List DV) : fillR R z 0 = List.replicate R.length z := rfl
theorem fill_all (R : List (List DV)) (z : List DV) : fillR R z R.length = R := by unfold fillR; rw [List.take_length, Nat.sub_self]; exact List.append_nil _
theorem fill_len (R : List (List DV)) (z : List DV) {k : Nat} (h : k ≤ R.length) : (fillR R z k).length = R.length := by unfold fillR; rw [List.length_append, List.length_take, List.length_replicate]; omega
theorem fill_set {R : List (List DV)} {z r : List DV} {k : Nat} (h : k < R.length) (hr : R[k]? = some r) : (fillR R z k).set k r = fillR R z (k + 1) := by
 have hr' : R[k] = r := (List.getElem?_eq_some_iff.1 hr).2;refine List.ext_getElem? fun i => ?_
 rw [List.getElem?_set];unfold fillR
 by_cases h1 : k = i
 ·subst h1;rw [if_pos rfl, if_pos (by rw [List.length_append, List.length_take, List.length_replicate]; omega), List.getElem?_append_left (by rw [List.length_take]; omega), List.getElem?_take, if_pos (by omega), hr]
 rw [if_neg h1]
 by_cases h2 : i < k
 ·rw [List.getElem?_append_left (by rw [List.length_take]; omega), List.getElem?_append_left (by rw [List.length_take]; omega), List.getElem?_take, List.getElem?_take, if_pos h2, if_pos (by omega)]
 rw [List.getElem?_append_right (by rw [List.length_take]; omega), List.getElem?_append_right (by rw [List.length_take]; omega), List.length_take, List.length_take, List.getElem?_replicate, List.getElem?_replicate]
 by_cases h3 : i < R.length
 ·rw [if_pos (by omega), if_pos (by omega)]
 rw [if_neg (by omega), if_neg (by omega)]
structure Cond where
 place : Int
 by_ : Int
 deriving DecidableEq
structure Ev where
 t : Int
 pre : List Int
 deriving DecidableEq
structure Unf where
 cs : List Cond
 es : List Ev
 deriving DecidableEq
abbrev condD (c : Cond) : List DV := [dI c.place, dI c.by_]
def szI (n : Nat) (left : Int) : Int := if left - n < 0 then -1 else left - n
theorem szI_in {n : Nat} {left : Int} (h : 0 ≤ left ∧ left ≤ 1048576) : szI n left = -1 ∨ (0 ≤ szI n left ∧ szI n left ≤ left ∧ (n : Int) ≤ left) := by
 unfold szI
 split
 ·exact .inl rfl
 right; omega
set_option maxHeartbeats 1000000 in
theorem eqIntS_spec (a b : List Int) (ha : a.length ≤ 1048576) (hb : b.length ≤ 1048576)  : ASpec Tryz.prog 112 [.d (vI a), .d (vI b)] [] (Pure1 (aT (decide (a = b)))) := by
 refine ASpec.of Tryz.func112 rfl rfl fun C hC => ?_
 refine AC.seq (AC.region ?_);refine za ?_;refine AL.nil (th_n (AC.seq (AC.seq (AC.region ?_))));refine zm ?_;refine kH ?_;refine zm ?_;refine kH ?_;refine zc ?_;refine AL.nil (th_n ?_);refine AC.condND rfl (fun h0 => ?_) (fun h0 => ?_)
 ·refine AC.seq (AC.region ?_);refine za ?_;refine AL.nil (th_n (AC.ret (th_r (bq_r ?_))));have hne : a ≠ b := fun e => h0 (by rw [e])
  exact ret1 rfl (by rw [decide_eq_false hne])
 refine AC.skip (th_n (AC.seq (AC.seq (AC.region ?_))));refine za ?_;refine AL.nil (th_n (AC.block ?_));refine AC.loop (ι := Nat) (fun k => ⟨26, 0, [(0, .d (vI a)), (1, .d (vI b)), (5, aI k)], []⟩) (fun k => k ≤ a.length ∧ ∀ j (h1 : j < a.length) (h2 : j < b.length), j < k → a[j] = b[j]) (fun k => a.length - k) (0) ?_ (⟨Nat.zero_le _, fun j _ _ hj => by omega⟩) ?_
 ·refine Weak.ren _ [] hC rfl ?_ ?_ rfl rfl rfl <;> repeat (first | exact True.intro | refine And.intro ?_ ?_ | exact DLead.same)
 intro k ⟨hk, hall⟩;refine AC.seq (AC.seq (AC.region ?_));refine zm ?_;refine zm ?_;refine kH ?_;refine zc ?_;refine AL.nil (th_n ?_);refine AC.condD rfl (fun h1 => ?_) (fun h1 => ?_)
 ·refine AC.skip (th_n (AC.seq (AC.block (AC.seq ?_))));have hk1 : k < a.length := by omega
  have hk2 : k < b.length := by omega
  have hgeta := ints_at hk1;have hgetb := ints_at hk2;refine AC.drawn' mixed_ok [[], [], [0,1], [0,1,2], [], [], [4,5], [4,5,6], [0,1,2,3,4,5,6,7]] (by decide) ?_;refine zd 0 [] 9 (by exact mv1 rfl) ?_;refine zd 1 [] 9 (by exact mv1 rfl) ?_;refine zd 2 [0,1] 9 (by exact g_ia_view rfl rfl rfl rfl rfl (by rfl) (by assumption)) ?_;refine zd 3 [0,1,2] 9 (by exact g_load_ref rfl rfl rfl) ?_;refine zd 4 [] 9 (by exact mv1 rfl) ?_;refine zd 5 [] 9 (by exact mv1 rfl) ?_;refine zd 6 [4,5] 9 (by exact g_ia_view rfl rfl rfl rfl rfl (by rfl) (by assumption)) ?_;refine zd 7 [4,5,6] 9 (by exact g_load_ref rfl rfl rfl) ?_;refine zd 8 [0,1,2,3,4,5,6,7] 9 (by exact g_cmp rfl rfl rfl) ?_;refine zj 9 ?_;refine th_n ?_;refine AC.condND rfl (fun h2 => ?_) (fun h2 => ?_)
  ·refine AC.seq (AC.region ?_);refine za ?_;refine AL.nil (th_n (AC.ret (ib_r (th_r (th_r (ib_r (th_r (bq_r ?_))))))));have hne : a ≠ b := fun e => by subst e; simp at h2
   exact ret1 rfl (by rw [decide_eq_false hne])
  refine AC.skip (ib_n (th_n (AC.region ?_)));refine zm ?_;refine zA ?_;refine za ?_;refine AL.nil (th_n ?_);have hkk : a[k] = b[k] := by simpa using h2
  exact ⟨k + 1, ⟨by omega, fun j h1 h2 hj => by rcases Nat.lt_succ_iff_lt_or_eq.1 hj with h | rfl; exact hall j h1 h2 h; exact hkk⟩, by omega, Weak.ren _ [] hC rfl (by repeat (first | exact True.intro | refine And.intro ?_ ?_ | exact DLead.same)) (by repeat (exact True.intro)) rfl rfl rfl⟩
 refine AC.exit (th_e (th_e (ib_y (th_n (AC.seq (AC.region ?_))))));refine za ?_;refine AL.nil (th_n (AC.ret (bq_r ?_)));have he : a = b := List.ext_getElem (by omega) (fun j h1 h2 => hall j h1 h2 (by omega));exact ret1 rfl (by rw [decide_eq_true he])
theorem en_eqIntS : Enters Tryz.prog 112 := enters_of Tryz.func112 rfl rfl
theorem eqTn_dec (a b : Tn) : decide (a = b) = (decide (a.pre = b.pre) && decide (a.post = b.post)) := by
 cases a; cases b;simp only [Tn.mk.injEq];exact Bool.decide_and _ _
set_option maxHeartbeats 1000000 in
theorem eqTn_spec (a b : Tn) (h1 : a.pre.length ≤ 1048576) (h2 : b.pre.length ≤ 1048576) (h3 : a.post.length ≤ 1048576) (h4 : b.post.length ≤ 1048576) : ASpec Tryz.prog 87 [tnA a, tnA b] [] (Pure1 (aT (decide (a = b)))) := by
 rw [eqTn_dec];refine ASpec.of Tryz.func87 rfl rfl fun C hC => ?_
 refine AC.seq (AC.region ?_);refine kD ?_;refine kD ?_;refine za ?_;refine AL.nil (th_n (AC.seq (AC.seq (AC.region ?_))));refine zf ?_;refine zr ?_;refine zf ?_;refine zr ?_;refine AL.q (by exact h_pure en_eqIntS rfl rfl (by repeat (first | exact rfl | exact DLead.same | refine ⟨_, _, rfl, ?_, ?_⟩)) (eqIntS_spec _ _ (by assumption) (by assumption)) rfl) rfl ?_;refine kC ?_;refine AL.nil (th_n ?_);refine AC.condND rfl (fun h0 => ?_) (fun h0 => ?_)
 ·refine AC.seq (AC.region ?_);refine za ?_;refine AL.nil (th_n (AC.ret (th_r (bq_r ?_))));exact ret1 rfl (by simp_all)
 refine AC.skip (th_n (AC.seq (AC.seq (AC.region ?_))));refine zf ?_;refine zr ?_;refine zf ?_;refine zr ?_;refine AL.q (by exact h_pure en_eqIntS rfl rfl (by repeat (first | exact rfl | exact DLead.same | refine ⟨_, _, rfl, ?_, ?_⟩)) (eqIntS_spec _ _ (by assumption) (by assumption)) rfl) rfl ?_;refine kC ?_;refine AL.nil (th_n ?_);refine AC.condND rfl (fun h1 => ?_) (fun h1 => ?_)
 ·refine AC.seq (AC.region ?_);refine za ?_;refine AL.nil (th_n (AC.ret (th_r (bq_r ?_))));exact ret1 rfl (by simp_all)
 refine AC.skip (th_n (AC.seq (AC.region ?_)));refine za ?_;refine AL.nil (th_n (AC.ret (bq_r ?_)));exact ret1 rfl (by simp_all)
theorem en_eqTn : Enters Tryz.prog 87 := enters_of Tryz.func87 rfl rfl
set_option maxHeartbeats 1000000 in
theorem eqTnS_spec (a b : List Tn) (ha : a.length ≤ 1048576) (hb : b.length ≤ 1048576) (hba : ∀ t, t ∈ a → t.pre.length ≤ 1048576 ∧ t.post.length ≤ 1048576) (hbb : ∀ t, t ∈ b → t.pre.length ≤ 1048576 ∧ t.post.length ≤ 1048576) : ASpec Tryz.prog 55 [.d (vTs a), .d (vTs b)] [] (Pure1 (aT (decide (a = b)))) := by
 refine ASpec.of Tryz.func55 rfl rfl fun C hC => ?_
 refine AC.seq (AC.region ?_);refine za ?_;refine AL.nil (th_n (AC.seq (AC.seq (AC.region ?_))));refine zm ?_;refine kH ?_;refine zm ?_;refine kH ?_;refine zc ?_;refine AL.nil (th_n ?_);refine AC.condND rfl (fun h0 => ?_) (fun h0 => ?_)
 ·refine AC.seq (AC.region ?_);refine za ?_;refine AL.nil (th_n (AC.ret (th_r (bq_r ?_))));have hne : a ≠ b := fun e => h0 (by rw [e])
  exact ret1 rfl (by rw [decide_eq_false hne])
 refine AC.skip (th_n (AC.seq (AC.seq (AC.region ?_))));refine za ?_;refine AL.nil (th_n (AC.block ?_));refine AC.loop (ι := Nat) (fun k => ⟨27, 0, [(0, .d (vTs a)), (1, .d (vTs b)), (5, aI k)], []⟩) (fun k => k ≤ a.length ∧ ∀ j (h1 : j < a.length) (h2 : j < b.length), j < k → a[j] = b[j]) (fun k => a.length - k) (0) ?_ (⟨Nat.zero_le _, fun j _ _ hj => by omega⟩) ?_
 ·refine Weak.ren _ [] hC rfl ?_ ?_ rfl rfl rfl <;> repeat (first | exact True.intro | refine And.intro ?_ ?_ | exact DLead.same)
 intro k ⟨hk, hall⟩;refine AC.seq (AC.seq (AC.region ?_));refine zm ?_;refine zm ?_;refine kH ?_;refine zc ?_;refine AL.nil (th_n ?_);refine AC.condD rfl (fun h1 => ?_) (fun h1 => ?_)
 ·refine AC.skip (th_n (AC.seq (AC.block (AC.seq ?_))));have hk1 : k < a.length := by omega
  have hk2 : k < b.length := by omega
  have hgeta := tsL_get hk1;have hgetb := tsL_get hk2;have q1 := (hba _ (List.getElem_mem hk1)).1;have q2 := (hba _ (List.getElem_mem hk1)).2;have q3 := (hbb _ (List.getElem_mem hk2)).1;have q4 := (hbb _ (List.getElem_mem hk2)).2;refine AC.drawn' mixed_ok [[], [], [0,1], [0,1,2], [], [], [4,5], [4,5,6], [0,1,2,3,4,5,6,7], [0,1,2,3,4,5,6,7,8]] (by decide) ?_;refine zd 0 [] 10 (by exact mv1 rfl) ?_;refine zd 1 [] 10 (by exact mv1 rfl) ?_;refine zd 2 [0,1] 10 (by exact g_ia_view rfl rfl rfl rfl rfl (by rfl) (by assumption)) ?_;refine zd 3 [0,1,2] 10 (by exact g_load_refN rfl rfl rfl rfl) ?_;refine zd 4 [] 10 (by exact mv1 rfl) ?_;refine zd 5 [] 10 (by exact mv1 rfl) ?_;refine zd 6 [4,5] 10 (by exact g_ia_view rfl rfl rfl rfl rfl (by rfl) (by assumption)) ?_;refine zd 7 [4,5,6] 10 (by exact g_load_refN rfl rfl rfl rfl) ?_;refine zh 8 [0,1,2,3,4,5,6,7] 10 (by exact h_pure en_eqTn rfl rfl (by repeat (first | exact rfl | exact DLead.same | refine ⟨_, _, rfl, ?_, ?_⟩ | refine ⟨_, rfl, ?_⟩)) (eqTn_spec _ _ (by assumption) (by assumption) (by assumption) (by assumption)) rfl) ?_;refine zd 9 (List.range 9) 10 (by exact g_not rfl) ?_;refine zj 10 ?_;refine th_n ?_;refine AC.condND rfl (fun h2 => ?_) (fun h2 => ?_)
  ·refine AC.seq (AC.region ?_);refine za ?_;refine AL.nil (th_n (AC.ret (ib_r (th_r (th_r (ib_r (th_r (bq_r ?_))))))));have hne : a ≠ b := fun e => by subst e; simp at h2
   exact ret1 rfl (by rw [decide_eq_false hne])
  refine AC.skip (ib_n (th_n (AC.region ?_)));refine zm ?_;refine zA ?_;refine za ?_;refine AL.nil (th_n ?_);have hkk : a[k] = b[k] := by simpa using h2
  exact ⟨k + 1, ⟨by omega, fun j h1 h2 hj => by rcases Nat.lt_succ_iff_lt_or_eq.1 hj with h | rfl; exact hall j h1 h2 h; exact hkk⟩, by omega, Weak.ren _ [] hC rfl (by repeat (first | exact True.intro | refine And.intro ?_ ?_ | exact DLead.same)) (by repeat (exact True.intro)) rfl rfl rfl⟩
 refine AC.exit (th_e (th_e (ib_y (th_n (AC.seq (AC.region ?_))))));refine za ?_;refine AL.nil (th_n (AC.ret (bq_r ?_)));have he : a = b := List.ext_getElem (by omega) (fun j h1 h2 => hall j h1 h2 (by omega));exact ret1 rfl (by rw [decide_eq_true he])
theorem en_eqTnS : Enters Tryz.prog 55 := enters_of Tryz.func55 rfl rfl
theorem eqNet_dec (a b : Net) : decide (a = b) = (decide (a.places = b.places) && decide (a.ts = b.ts)) := by
 cases a; cases b;simp only [Net.mk.injEq];exact Bool.decide_and _ _
set_option maxHeartbeats 1000000 in
theorem eqNet_spec (a b : Net) (h1 : a.ts.length ≤ 1048576) (h2 : b.ts.length ≤ 1048576) (h3 : ∀ t, t ∈ a.ts → t.pre.length ≤ 1048576 ∧ t.post.length ≤ 1048576) (h4 : ∀ t, t ∈ b.ts → t.pre.length ≤ 1048576 ∧ t.post.length ≤ 1048576) : ASpec Tryz.prog 26 [netA a, netA b] [] (Pure1 (aT (decide (a = b)))) := by
 rw [eqNet_dec];refine ASpec.of Tryz.func26 rfl rfl fun C hC => ?_
 refine AC.seq (AC.region ?_);refine kD ?_;refine kD ?_;refine za ?_;refine AL.nil (th_n (AC.seq (AC.seq (AC.region ?_))));refine zf ?_;refine zr ?_;refine zf ?_;refine zr ?_;refine zc ?_;refine AL.nil (th_n ?_);refine AC.condND rfl (fun h0 => ?_) (fun h0 => ?_)
 ·refine AC.seq (AC.region ?_);refine za ?_;refine AL.nil (th_n (AC.ret (th_r (bq_r ?_))));exact ret1 rfl (by simp_all)
 refine AC.skip (th_n (AC.seq (AC.seq (AC.region ?_))));refine zf ?_;refine zr ?_;refine zf ?_;refine zr ?_;refine AL.q (by exact h_pure en_eqTnS rfl rfl (by repeat (first | exact rfl | exact DLead.same | refine ⟨_, _, rfl, ?_, ?_⟩)) (eqTnS_spec _ _ (by assumption) (by assumption) (by assumption) (by assumption)) rfl) rfl ?_;refine kC ?_;refine AL.nil (th_n ?_);refine AC.condND rfl (fun h1 => ?_) (fun h1 => ?_)
 ·refine AC.seq (AC.region ?_);refine za ?_;refine AL.nil (th_n (AC.ret (th_r (bq_r ?_))));exact ret1 rfl (by simp_all)
 refine AC.skip (th_n (AC.seq (AC.region ?_)));refine za ?_;refine AL.nil (th_n (AC.ret (bq_r ?_)));exact ret1 rfl (by simp_all)
theorem en_eqNet : Enters Tryz.prog 26 := enters_of Tryz.func26 rfl rfl
def inR (N : Net) (t : Int) : Bool := decide (0 ≤ t) && decide (t ≤ (N.ts.length : Int) - 1)
def Cur.pick (c : Cur) (n : Int) : Int × Cur :=
 if n ≤ 1 then (0, c) else if 200 < n then ((c.next * 256 + c.after.next).tmod n, c.after.after) else (c.next.tmod n, c.after)
def putI (l : List Int) (x : Int) : List Int :=
 if l[l.findIdx (fun y => decide (x ≤ y))]? = some x then l else l.take (l.findIdx (fun y => decide (x ≤ y))) ++ [x] ++ l.drop (l.findIdx (fun y => decide (x ≤ y)))
def subN (n : Int) : Nat → Cur → List Int → List Int × Cur
 | 0, c, s => (s, c)
 | j + 1, c, s => subN n j (c.pick n).2 (putI s (c.pick n).1)
def Cur.subset (c : Cur) (n k : Int) : List Int × Cur := subN n (1 + (c.pick k).1).toNat (c.pick k).2 []
theorem bstr_cut (s : List UInt8) {l h : Nat} (hl : l ≤ h) (hh : h ≤ s.length) : (bstr s).extract l h = bstr ((s.take h).drop l) := by
 have : ((bstr s).extract l h).data.toList = (s.take h).drop l := by
  simp [bstr, ByteArray.data_extract, List.extract_eq_drop_take, List.drop_take]
 rw [← bstr_of ((bstr s).extract l h), this]
theorem tsL_len (l : List Tn) : (tsL l).length = l.length := List.length_map _
def Cur.tn (c : Cur) (p : Int) : Tn × Cur :=
 (⟨(c.subset p 2).1, if (((c.subset p 2).2.subset p 2).2.pick 10).1 = 0 then [] else ((c.subset p 2).2.subset p 2).1⟩, (((c.subset p 2).2.subset p 2).2.pick 10).2)
def small (N : Net) : Prop := 0 ≤ N.places ∧ N.places ≤ 31 ∧ N.ts.length ≤ 4 ∧ ∀ t, t ∈ N.ts → t.pre.length ≤ 2 ∧ t.post.length ≤ 2
theorem getD_at {l : List Int} {k : Nat} (h : k < l.length) : l.getD k 0 = l[k] := by rw [List.getD_eq_getElem?_getD, List.getElem?_eq_getElem h]; rfl
theorem en_clone : Enters Tryz.prog 51 := enters_of Tryz.func51 rfl rfl
theorem l1Own_spec (l : List Int) (hl : l.length ≤ 1000000) : ASpec Tryz.prog 68 [.d (vI l)] [] (Pure1 (.d (vI l))) := by
 refine ASpec.of Tryz.func68 rfl rfl fun C hC => ?_
 refine AC.seq (AC.region ?_);refine za ?_;refine AL.nil (th_n (AC.seq (AC.region ?_)));refine AL.q (by exact h_lit rfl rfl rfl rfl rfl rfl rfl rfl) rfl ?_;refine zm ?_;refine AL.q (by exact h_appendI [] l (.own rfl rfl rfl) (.view rfl) (by simp; omega) (by simp)) rfl ?_;refine AL.weak (Weak.freeze (i := 5) rfl rfl (Nat.le_of_eq (ints_len _).symm) (ints_all _)) ?_;refine za ?_;refine AL.nil (th_n (AC.ret (bq_r ?_)));exact ret1 rfl rfl
theorem en_l1Own : Enters Tryz.prog 68 := enters_of Tryz.func68 rfl rfl
def evAt (u : Unf) (e : Int) : List Int := (u.es.getD e.toNat ⟨0, []⟩).pre
def cAt (u : Unf) (c : Int) : Cond := u.cs.getD c.toNat ⟨0, 0⟩
theorem evAt_nat {u : Unf} {k : Nat} (h : k < u.es.length) : evAt u (k : Int) = u.es[k].pre := by unfold evAt; rw [Int.toNat_natCast, List.getD_eq_getElem?_getD, List.getElem?_eq_getElem h]; rfl
theorem cAt_nat {u : Unf} {k : Nat} (h : k < u.cs.length) : cAt u (k : Int) = u.cs[k] := by unfold cAt; rw [Int.toNat_natCast, List.getD_eq_getElem?_getD, List.getElem?_eq_getElem h]; rfl
structure WF (u : Unf) : Prop where
 p : ∀ e, e ∈ u.es → ∀ c, c ∈ e.pre → 0 ≤ c ∧ c < u.cs.length
 b : ∀ c, c ∈ u.cs → -1 ≤ c.by_ ∧ c.by_ < u.es.length
 l : ∀ e, e ∈ u.es → e.pre.length ≤ 1000000
 e : u.es.length ≤ 1000
 c : u.cs.length ≤ 100000
def usedI (u : Unf) (list : List Int) (c : Int) : Bool := list.any (fun e => hasI (evAt u e) c)
def placesI (u : Unf) (list : List Int) : List Int := list.foldl (fun out c => putI out (cAt u c).place) []
end Go.Proofs.YteakkoiflbaleaaGreat
