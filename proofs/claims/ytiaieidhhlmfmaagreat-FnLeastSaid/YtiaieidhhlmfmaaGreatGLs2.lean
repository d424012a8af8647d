/- Contracts of the functions of the program and of the reference, each proved by a walk through its code. -/
import Derived.Orders
import Derived.Laws.IdiomStrings
import Derived.Lib.AppendZerosOnto
import Derived.ProofKit
import Derived.OpenShut
import Derived.Lib.SliceRun
import Derived.Laws.RangeString
import Derived.Shelf.Small.Bits
import Derived.Shelf.Strconv.Itoa0
import Derived.Shelf.Strings.Search1
import Derived.Shelf.Strings.Search2
import Derived.Shelf.Strings.Search3
import Derived.Shelf.LaysM
import Derived.Shelf.Strings.Shaped
import Derived.Shelf.Sort.Plain
import Derived.Ground.Names2Prog
import Derived.Shelf.Slices.Clone
import Derived.Shelf.Slices.CompactS
import Derived.Shelf.Slices.Delete
import Derived.Shelf.Slices.Cells
import Derived.Shelf.Slices.In.SortNone
import Derived.Shelf.Slices.Empties
import Derived.Ground.SlgnProg
import Derived.Shelf.SlicesE.Clone
import Derived.Test.YtiaieidhhlmfmaaGreatRows
import Derived.Lib.IndexAny
import Derived.Laws.StructEq
import Derived.ChangeKeysEq
import Derived.Sort.Grow
import Derived.Below
import Derived.Test.YtiaieidhhlmfmaaGreatGLs1
set_option linter.all false
set_option maxRecDepth 20000
namespace Go.Proofs.YtiaieidhhlmfmaaGreat
open Go.RowKit
abbrev ORec := Upd × List Nat
def memL (k : Nat) : List Nat → Bool
 | [] => false
 | j :: l => bif Nat.beq k j then true else memL k l
theorem memL_iff {k : Nat} {l : List Nat} : memL k l = true ↔ k ∈ l := by
 induction l with
 | nil => simp [memL]
 | cons j l ih =>
  simp only [memL, List.mem_cons]
  by_cases h : k = j
  ·subst h; simp
  have : Nat.beq k j = false := by cases hb : Nat.beq k j with
   | true => exact absurd (by simpa using hb) h
   | false => rfl
  simp [this, ih, h]
theorem memL_not {k : Nat} {l : List Nat} : memL k l = false ↔ k ∉ l := by
 rw [← memL_iff]; simp
def goS (L : Nat → Bool) : Nat → List Oper → List ORec → List (Nat × AV) → List (Nat × AV)
 | k, o :: os, r :: rs, acc => goS L (k + 1) os rs (match L k, o.dst with | true, some d => (d, r.1.r) :: acc | _, _ => acc)
 | _, _, _, acc => acc
def goC (L : Nat → Bool) : Nat → List Oper → List ORec → List (Nat × Option Chunk) → List (Nat × Option Chunk)
 | k, o :: os, r :: rs, acc => goC L (k + 1) os rs (match L k with | true => r.1.ch ++ acc | _ => acc)
 | _, _, _, acc => acc
def mkS (s : ASt) (L : Nat → Bool) (ops : List Oper) (recs : List ORec) : ASt := ⟨s.n, s.nx + 8 * ops.length, goS L 0 ops recs s.sl, goC L 0 ops recs s.ch⟩
theorem goS_same {t : Nat} {L L' : Nat → Bool} : ∀ (os : List Oper) (rs : List ORec) (k : Nat) (a a' : List (Nat × AV)), (∀ i o, os[i]? = some o → o.dst = some t → L (k + i) = L' (k + i)) → getL t a = getL t a' → getL t (goS L k os rs a) = getL t (goS L' k os rs a')
 | [], rs, k, a, a', h, ha => by simpa [goS] using ha
 | o :: os, [], k, a, a', h, ha => by simpa [goS] using ha
 | o :: os, r :: rs, k, a, a', h, ha => by
  simp only [goS];refine goS_same os rs (k + 1) _ _ (fun i o' hi hd => by have := h (i + 1) o' (by simpa using hi) hd; rw [show k + 1 + i = k + (i + 1) by omega]; exact this) ?_;cases hd : o.dst with
  | none => cases L k <;> cases L' k <;> simpa using ha
  | some d =>
   by_cases hdt : d = t
   ·subst hdt;have := h 0 o rfl hd;rw [Nat.add_zero] at this;rw [this];cases L' k <;> simp [getL_cons, ha]
   have key : ∀ (b : Bool) (x : List (Nat × AV)), getL t (match b, some d with | true, some d => (d, r.1.r) :: x | _, _ => x) = getL t x := by
    intro b x; cases b <;> simp [getL_cons, Ne.symm hdt]
   rw [key, key]; exact ha
theorem goC_same {t : Nat} {L L' : Nat → Bool} : ∀ (os : List Oper) (rs : List ORec) (k : Nat) (a a' : List (Nat × Option Chunk)), (∀ i r, rs[i]? = some r → getL t r.1.ch ≠ none → L (k + i) = L' (k + i)) → getL t a = getL t a' → getL t (goC L k os rs a) = getL t (goC L' k os rs a')
 | [], rs, k, a, a', h, ha => by simpa [goC] using ha
 | o :: os, [], k, a, a', h, ha => by simpa [goC] using ha
 | o :: os, r :: rs, k, a, a', h, ha => by
  simp only [goC];refine goC_same os rs (k + 1) _ _ (fun i o' hi hd => by have := h (i + 1) o' (by simpa using hi) hd; rw [show k + 1 + i = k + (i + 1) by omega]; exact this) ?_
  by_cases hr : getL t r.1.ch = none
  ·have key : ∀ (b : Bool) (x : List (Nat × Option Chunk)), getL t (match b with | true => r.1.ch ++ x | _ => x) = getL t x := by
    intro b x; cases b <;> simp [getL_append, hr]
   rw [key, key]; exact ha
  have := h 0 r rfl hr;rw [Nat.add_zero] at this;rw [this];cases L' k <;> simp [getL_append, ha]
theorem goS_more {t i : Nat} {L : Nat → Bool} {r0 : ORec} : ∀ (os : List Oper) (rs : List ORec) (k : Nat) (a : List (Nat × AV)) (o0 : Oper), k ≤ i → os[i - k]? = some o0 → rs[i - k]? = some r0 → (∀ j o, os[j]? = some o → i < k + j → L (k + j) = true → o.dst = some t → o0.dst ≠ some t) →
  getL t (goS (fun j => L j || j == i) k os rs a) = if o0.dst = some t then some r0.1.r else getL t (goS L k os rs a)
 | [], rs, k, a, o0, hk, h1, h2, h3 => by simp at h1
 | o :: os, [], k, a, o0, hk, h1, h2, h3 => by simp at h2
 | o :: os, r :: rs, k, a, o0, hk, h1, h2, h3 => by
  simp only [goS]
  by_cases hki : k = i
  ·subst hki;rw [Nat.sub_self] at h1 h2;simp only [List.getElem?_cons_zero, Option.some.injEq] at h1 h2;subst h1; subst h2
   -- behind i, L and L+i agree
   have hsame : ∀ (x : List (Nat × AV)), getL t (goS (fun j => L j || j == k) (k + 1) os rs x) = getL t (goS L (k + 1) os rs x) := fun x => goS_same os rs (k + 1) x x (fun i o' _ _ => by simp; intro h; omega) rfl
   rw [hsame]
   by_cases hd : o.dst = some t
   ·rw [if_pos hd, hd];simp only [BEq.rfl, Bool.or_true]
    have hno : getL t (goS L (k + 1) os rs ((t, r.1.r) :: a)) = getL t (goS (fun _ => false) (k + 1) os rs ((t, r.1.r) :: a)) := goS_same os rs (k + 1) _ _ (fun j o' hj hd' => by
     cases hL : L (k + 1 + j) with
     | false => rfl
     | true => exact absurd hd (h3 (j + 1) o' (by simpa using hj) (by omega) (by rw [show k + (j + 1) = k + 1 + j by omega]; exact hL) hd')) rfl
    have hf : ∀ (os : List Oper) (rs : List ORec) (k : Nat) (a : List (Nat × AV)), goS (fun _ => false) k os rs a = a := by
     intro os
     induction os with
     | nil => intro rs k a; simp [goS]
     | cons o os ih => intro rs k a; cases rs <;> simp [goS, ih]
    rw [hno, hf]; simp [getL_cons]
   rw [if_neg hd];refine goS_same os rs (k + 1) _ _ (fun _ _ _ _ => rfl) ?_;cases hdd : o.dst with
   | none => cases L k <;> simp
   | some d =>
    have hdt : d ≠ t := fun e => hd (by rw [hdd, e])
    cases L k <;> simp [getL_cons, Ne.symm hdt]
  have hki' : (k == i) = false := by simpa using hki
  simp only [hki', Bool.or_false];have e : i - k = (i - (k + 1)) + 1 := by omega
  rw [e] at h1 h2;exact goS_more os rs (k + 1) _ o0 (by omega) (by simpa using h1) (by simpa using h2) (fun j o' hj h4 h5 h6 => h3 (j + 1) o' (by simpa using hj) (by omega) (by rw [show k + (j + 1) = k + 1 + j by omega]; exact h5) h6)
theorem goC_more {t i : Nat} {L : Nat → Bool} {r0 : ORec} : ∀ (os : List Oper) (rs : List ORec) (k : Nat) (a : List (Nat × Option Chunk)), os.length = rs.length → k ≤ i → rs[i - k]? = some r0 → (∀ j r, rs[j]? = some r → i < k + j → L (k + j) = true → getL t r.1.ch ≠ none → getL t r0.1.ch = none) →
  getL t (goC (fun j => L j || j == i) k os rs a) = (getL t r0.1.ch).or (getL t (goC L k os rs a))
 | [], rs, k, a, hl, hk, h2, h3 => by cases rs <;> simp at hl h2
 | o :: os, [], k, a, hl, hk, h2, h3 => by simp at h2
 | o :: os, r :: rs, k, a, hl, hk, h2, h3 => by
  simp only [goC]
  by_cases hki : k = i
  ·subst hki;rw [Nat.sub_self] at h2;simp only [List.getElem?_cons_zero, Option.some.injEq] at h2;subst h2;have hsame : ∀ (x : List (Nat × Option Chunk)), getL t (goC (fun j => L j || j == k) (k + 1) os rs x) = getL t (goC L (k + 1) os rs x) := fun x => goC_same os rs (k + 1) x x (fun i o' _ _ => by simp; intro h; omega) rfl
   rw [hsame];simp only [BEq.rfl, Bool.or_true];cases hd : getL t r.1.ch with
   | none =>
    simp only [Option.none_or];refine goC_same os rs (k + 1) _ _ (fun _ _ _ _ => rfl) ?_;cases L k <;> simp [getL_append, hd]
   | some c =>
    have hno : getL t (goC L (k + 1) os rs (r.1.ch ++ a)) = getL t (goC (fun _ => false) (k + 1) os rs (r.1.ch ++ a)) := goC_same os rs (k + 1) _ _ (fun j o' hj hd' => by
     cases hL : L (k + 1 + j) with
     | false => rfl
     | true =>
      have := h3 (j + 1) o' (by simpa using hj) (by omega) (by rw [show k + (j + 1) = k + 1 + j by omega]; exact hL) hd'
      rw [hd] at this; cases this) rfl
    have hf : ∀ (os : List Oper) (rs : List ORec) (k : Nat) (a : List (Nat × Option Chunk)), goC (fun _ => false) k os rs a = a := by
     intro os
     induction os with
     | nil => intro rs k a; simp [goC]
     | cons o os ih => intro rs k a; cases rs <;> simp [goC, ih]
    rw [hno, hf]; simp [getL_append, hd]
  have hki' : (k == i) = false := by simpa using hki
  simp only [hki', Bool.or_false];have e : i - k = (i - (k + 1)) + 1 := by omega
  rw [e] at h2;exact goC_more os rs (k + 1) _ (by simpa using hl) (by omega) (by simpa using h2) (fun j o' hj h4 h5 h6 => h3 (j + 1) o' (by simpa using hj) (by omega) (by rw [show k + (j + 1) = k + 1 + j by omega]; exact h5) h6)
def looksT (ops : List Oper) (o : Oper) : List Nat := (o.op.operands.toList.filterMap fun | .tmp t => some t | _ => none) ++ (match o.guard with | some (g, _) => ((ops[g]?).bind (·.dst)).toList | none => [])
def keysU (u : Upd) : List Nat := u.ch.map (·.1)
def deps (o : Oper) : List Nat := (o.after.toList.filter (Region.binds .any)).map (·.on)
def ancAt (anc : List (List Nat)) (i : Nat) : List Nat := (anc[i]?).getD []
def ancOk (ops : List Oper) (anc : List (List Nat)) : Bool :=
 (List.range ops.length).all fun i => match ops[i]? with
  | some o => (deps o).all (fun d => Nat.blt d i) && (ancAt anc i).all fun j => Nat.blt j i && ((deps o).contains j || (deps o).any fun k => (ancAt anc k).contains j)
  | none => false
def disj (a b : List Nat) : Bool := a.all fun x => !b.contains x
def indepOk (ops : List Oper) (anc : List (List Nat)) (recs : List ORec) : Bool :=
 (List.range ops.length).all fun i => (List.range ops.length).all fun j => i == j || (ancAt anc i).contains j || (ancAt anc j).contains i ||
  match ops[i]?, ops[j]?, recs[i]?, recs[j]? with
  | some oi, some oj, some ri, some rj => disj oj.dst.toList (looksT ops oi) && disj oj.dst.toList oi.dst.toList && disj (keysU rj.1) ri.2 && disj (keysU rj.1) (keysU ri.1)
  | _, _, _, _ => false
structure AgrT (ops : List Oper) (ids : List Nat) (o : Oper) (s s' : ASt) : Prop where
 n : s'.n = s.n
 get : ∀ t, t ∈ looksT ops o → s'.get t = s.get t
 ch : ∀ id, id ∈ ids → s'.chunk id = s.chunk id
theorem AgrT.agr {ops : List Oper} {ids : List Nat} {o : Oper} {s s' : ASt} (h : AgrT ops ids o s s') : Agr ids o s s' := by
 refine ⟨h.n, fun x hx => ?_, h.ch⟩;cases x with
 | tmp t => exact h.get t (List.mem_append_left _ (List.mem_filterMap.2 ⟨.tmp t, by simpa using hx, rfl⟩))
 | _ => rfl
inductive StepOk (P : Program) (ops : List Oper) (D : ASt) (o : Oper) (ids : List Nat) (f : Nat) (u : Upd) : Prop
 | free : o.guard = none → NOp P ids D o f u → StepOk P ops D o ids f u
 | yes {j t : Nat} {w : Bool} : o.guard = some (j, w) → ((ops[j]?).bind (·.dst)) = some t → Nat.blt t D.n = true → D.get t = aT w → NOp P ids D o f u → StepOk P ops D o ids f u
 | no {j t : Nat} {w b : Bool} : o.guard = some (j, w) → ((ops[j]?).bind (·.dst)) = some t → Nat.blt t D.n = true → D.get t = aT b → b = !w → u = ⟨.und, []⟩ → StepOk P ops D o ids f u
 | noU {j t : Nat} {w : Bool} : o.guard = some (j, w) → ((ops[j]?).bind (·.dst)) = some t → D.get t = .und → u = ⟨.und, []⟩ → StepOk P ops D o ids f u
inductive Dr (P : Program) (ops : List Oper) (anc : List (List Nat)) (s : ASt) (Q : Exit → ASt → Prop) : List ORec → Prop
 | done {recs : List ORec} : Nat.beq recs.length ops.length = true → indepOk ops anc recs = true → Q .normal (mkS s (fun _ => true) ops recs) → Dr P ops anc s Q recs
 | op {recs : List ORec} {o : Oper} {ids : List Nat} {u : Upd} : ops[recs.length]? = some o → StepOk P ops (mkS s (fun k => memL k (ancAt anc recs.length)) ops recs) o ids (s.nx + 8 * recs.length) u → dstOk o.dst s.n = true → Dr P ops anc s Q (recs ++ [(u, ids)]) → Dr P ops anc s Q recs
def memP (i j : Nat) : List (Nat × Nat) → Bool
 | [] => false
 | (a, b) :: l => bif Nat.beq i a && Nat.beq j b then true else memP i j l
def coverOk (n : Nat) (anc : List (List Nat)) (pairs : List (Nat × Nat)) : Bool := (List.range n).all fun i => (List.range n).all fun j => Nat.beq i j || memL j (ancAt anc i) || memL i (ancAt anc j) || memP i j pairs
def slotOk (ops : List Oper) : List (Nat × Nat) → Bool
 | [] => true
 | (i, j) :: l => (match ops[i]?, ops[j]? with
  | some oi, some oj => disj oj.dst.toList (looksT ops oi) && disj oj.dst.toList oi.dst.toList
  | _, _ => false) && slotOk ops l
def disj2 : List Nat → List Nat → List Nat → Bool
 | [], _, _ => true
 | x :: l, a, b => !memL x a && !memL x b && disj2 l a b
def idsOk (recs : List ORec) : List (Nat × Nat) → Bool
 | [] => true
 | (i, j) :: l => (match recs[i]?, recs[j]? with
  | some ri, some rj => disj2 (keysU rj.1) ri.2 (keysU ri.1)
  | _, _ => false) && idsOk recs l
theorem disj2_ok : ∀ {l a b : List Nat}, disj2 l a b = true → disj l a = true ∧ disj l b = true
 | [], a, b, _ => ⟨rfl, rfl⟩
 | x :: l, a, b, h => by
  simp only [disj2, Bool.and_eq_true, Bool.not_eq_true'] at h;obtain ⟨h1, h2⟩ := disj2_ok h.2;have e1 := memL_not.1 h.1.1;have e2 := memL_not.1 h.1.2;constructor
  ·simp only [disj, List.all_cons, Bool.and_eq_true] at h1 ⊢; exact ⟨by simpa using e1, h1⟩
  simp only [disj, List.all_cons, Bool.and_eq_true] at h2 ⊢; exact ⟨by simpa using e2, h2⟩
theorem memP_iff {i j : Nat} : ∀ {l : List (Nat × Nat)}, memP i j l = true → (i, j) ∈ l
  | (a, b) :: l, h => by
    simp only [memP] at h;cases hb : (Nat.beq i a && Nat.beq j b) with
    | true => simp only [Bool.and_eq_true] at hb; have h1 : i = a := by simpa using hb.1
              have h2 : j = b := by simpa using hb.2
              subst h1; subst h2; simp
    | false => rw [hb] at h; exact List.mem_cons_of_mem _ (memP_iff h)
theorem slotOk_mem {ops : List Oper} : ∀ {l : List (Nat × Nat)} {i j : Nat}, slotOk ops l = true → (i, j) ∈ l → ∃ oi oj, ops[i]? = some oi ∧ ops[j]? = some oj ∧ disj oj.dst.toList (looksT ops oi) = true ∧ disj oj.dst.toList oi.dst.toList = true
 | (a, b) :: l, i, j, h, hm => by
  simp only [slotOk, Bool.and_eq_true] at h;rcases List.mem_cons.1 hm with e | e
  ·simp only [Prod.mk.injEq] at e;obtain ⟨rfl, rfl⟩ := e;cases ha : ops[i]? with
   | none => rw [ha] at h; simp at h
   | some oi =>
    cases hb : ops[j]? with
    | none => rw [ha, hb] at h; simp at h
    | some oj => rw [ha, hb] at h; simp only [Bool.and_eq_true] at h; exact ⟨oi, oj, rfl, rfl, h.1.1, h.1.2⟩
  exact slotOk_mem h.2 e
theorem idsOk_mem {recs : List ORec} : ∀ {l : List (Nat × Nat)} {i j : Nat}, idsOk recs l = true → (i, j) ∈ l → ∃ ri rj, recs[i]? = some ri ∧ recs[j]? = some rj ∧ disj (keysU rj.1) ri.2 = true ∧ disj (keysU rj.1) (keysU ri.1) = true
 | (a, b) :: l, i, j, h, hm => by
  simp only [idsOk, Bool.and_eq_true] at h;rcases List.mem_cons.1 hm with e | e
  ·simp only [Prod.mk.injEq] at e;obtain ⟨rfl, rfl⟩ := e;cases ha : recs[i]? with
   | none => rw [ha] at h; simp at h
   | some ri =>
    cases hb : recs[j]? with
    | none => rw [ha, hb] at h; simp at h
    | some rj => rw [ha, hb] at h; have := disj2_ok h.1; exact ⟨ri, rj, rfl, rfl, this.1, this.2⟩
  exact idsOk_mem h.2 e
theorem indep_parts {ops : List Oper} {anc : List (List Nat)} {recs : List ORec} {pairs : List (Nat × Nat)} (h1 : coverOk ops.length anc pairs = true) (h2 : slotOk ops pairs = true) (h3 : idsOk recs pairs = true) : indepOk ops anc recs = true := by
 simp only [indepOk, coverOk, List.all_eq_true, List.mem_range] at h1 ⊢;intro i hi j hj;have := h1 i hi j hj;simp only [Bool.or_eq_true] at this ⊢;rcases this with ((h | h) | h) | h
 ·exact .inl (.inl (.inl (by simpa using h)))
 ·exact .inl (.inl (.inr (by simpa using memL_iff.1 h)))
 ·exact .inl (.inr (by simpa using memL_iff.1 h))
 obtain ⟨oi, oj, a1, a2, a3, a4⟩ := slotOk_mem h2 (memP_iff h);obtain ⟨ri, rj, b1, b2, b3, b4⟩ := idsOk_mem h3 (memP_iff h);right;rw [a1, a2, b1, b2];simp [a3, a4, b3, b4]
def goD : List (Option Nat) → List ORec → List (Nat × AV) → List (Nat × AV)
 | some d :: ds, r :: rs, acc => goD ds rs ((d, r.1.r) :: acc)
 | none :: ds, _ :: rs, acc => goD ds rs acc
 | _, _, acc => acc
def goE : List (Option Nat) → List ORec → List (Nat × Option Chunk) → List (Nat × Option Chunk)
 | _ :: ds, r :: rs, acc => goE ds rs (r.1.ch ++ acc)
 | _, _, acc => acc
def mkD (s : ASt) (ds : List (Option Nat)) (recs : List ORec) : ASt := ⟨s.n, s.nx + 8 * ds.length, goD ds recs s.sl, goE ds recs s.ch⟩
theorem goS_D : ∀ (os : List Oper) (rs : List ORec) (k : Nat) (a : List (Nat × AV)), goS (fun _ => true) k os rs a = goD (os.map (·.dst)) rs a
 | [], rs, k, a => by simp [goS, goD]
 | o :: os, [], k, a => by cases hd : o.dst <;> simp [goS, goD, hd]
 | o :: os, r :: rs, k, a => by cases hd : o.dst <;> simp [goS, goD, hd, goS_D os rs]
theorem goC_D : ∀ (os : List Oper) (rs : List ORec) (k : Nat) (a : List (Nat × Option Chunk)), goC (fun _ => true) k os rs a = goE (os.map (·.dst)) rs a
 | [], rs, k, a => by simp [goC, goE]
 | o :: os, [], k, a => by simp [goC, goE]
 | o :: os, r :: rs, k, a => by simp [goC, goE, goC_D os rs]
theorem Dr.fin {P : Program} {ops : List Oper} {anc : List (List Nat)} {s : ASt} {Q : Exit → ASt → Prop} {recs : List ORec} (ds : List (Option Nat)) (pairs : List (Nat × Nat)) (hd : ops.map (·.dst) = ds) (hl : Nat.beq recs.length ops.length = true) (h1 : coverOk ops.length anc pairs = true) (h2 : slotOk ops pairs = true) (h3 : idsOk recs pairs = true) (h : Q .normal (mkD s ds recs)) : Dr P ops anc s Q recs := by
 subst hd;refine .done hl (indep_parts h1 h2 h3) ?_;have : mkS s (fun _ => true) ops recs = mkD s (ops.map (·.dst)) recs := by simp [mkS, mkD, goS_D, goC_D]
 rw [this]; exact h
theorem Dr.eq {P : Program} {ops : List Oper} {anc : List (List Nat)} {s : ASt} {Q : Exit → ASt → Prop} {recs : List ORec} {j : Nat} {r : ORec} (h : recs[j]? = some r) (k : Dr P ops anc s Q (recs.set j r)) : Dr P ops anc s Q recs := by
 have : recs.set j r = recs := by
  apply List.ext_getElem?
  intro i
  by_cases hi : i = j
  ·subst hi;rw [List.getElem?_set_self (List.getElem?_eq_some_iff.1 h).1, h]
  rw [List.getElem?_set_ne (Ne.symm hi)]
 rwa [this] at k
theorem Dr.caseD {P : Program} {ops : List Oper} {anc : List (List Nat)} {s : ASt} {Q : Exit → ASt → Prop} {recs : List ORec} (j : Nat) {p : Prop} [Decidable p] {ch : List (Nat × Option Chunk)} {ids : List Nat} (h : recs[j]? = some (⟨aT (decide p), ch⟩, ids)) (hT : p → Dr P ops anc s Q (recs.set j (⟨aT true, ch⟩, ids))) (hF : ¬ p → Dr P ops anc s Q (recs.set j (⟨aT false, ch⟩, ids))) : Dr P ops anc s Q recs := by
 by_cases hp : p
 ·exact Dr.eq (r := (⟨aT true, ch⟩, ids)) (by rw [h]; simp [hp]) (hT hp)
 exact Dr.eq (r := (⟨aT false, ch⟩, ids)) (by rw [h]; simp [hp]) (hF hp)
theorem Dr.caseB {P : Program} {ops : List Oper} {anc : List (List Nat)} {s : ASt} {Q : Exit → ASt → Prop} {recs : List ORec} (j : Nat) {b : Bool} {ch : List (Nat × Option Chunk)} {ids : List Nat} (h : recs[j]? = some (⟨aT b, ch⟩, ids)) (hT : b = true → Dr P ops anc s Q (recs.set j (⟨aT true, ch⟩, ids))) (hF : b = false → Dr P ops anc s Q (recs.set j (⟨aT false, ch⟩, ids))) : Dr P ops anc s Q recs :=
 Dr.caseD j (p := b = true) (by rw [h]; simp) hT (fun h => hF (by simpa using h))
theorem Dr.all {P : Program} {ops : List Oper} {anc : List (List Nat)} {s : ASt} {Q : Exit → ASt → Prop} {recs : List ORec} (h : Dr P ops anc s Q recs) : ∃ full, recs <+: full ∧ full.length = ops.length ∧ indepOk ops anc full = true ∧ Q .normal (mkS s (fun _ => true) ops full) ∧
  ∀ i o r, recs.length ≤ i → ops[i]? = some o → full[i]? = some r → dstOk o.dst s.n = true ∧ StepOk P ops (mkS s (fun k => memL k (ancAt anc i)) ops (full.take i)) o r.2 (s.nx + 8 * i) r.1 := by
 induction h with
 | @done recs h1 h2 h3 =>
  have hl : recs.length = ops.length := by simpa using h1
  exact ⟨recs, List.prefix_rfl, hl, h2, h3, fun i o r hi ho => by have := (List.getElem?_eq_some_iff.1 ho).1; omega⟩
 | @op recs o ids u h1 h2 h3 _ ih =>
  obtain ⟨full, g1, g2, g3, g4, g5⟩ := ih;have hpre : recs <+: full := (List.prefix_append _ _).trans g1;refine ⟨full, hpre, g2, g3, g4, fun i o' r hi ho hr => ?_⟩
  by_cases hi2 : recs.length + 1 ≤ i
  ·exact g5 i o' r (by simpa using hi2) ho hr
  have : i = recs.length := by omega
  subst this;rw [h1] at ho;obtain rfl : o = o' := by simpa using ho
  have hr2 : full[recs.length]? = some (u, ids) := by
   obtain ⟨tl, rfl⟩ := g1;simp
  rw [hr2] at hr;obtain rfl : (u, ids) = r := by simpa using hr
  refine ⟨h3, ?_⟩
  have : full.take recs.length = recs := by
   obtain ⟨tl, rfl⟩ := hpre;simp
  rw [this]; exact h2
def cntF (L : Nat → Bool) : Nat → Nat
 | 0 => 0
 | n + 1 => cntF L n + (if L n then 0 else 1)
theorem cntF_zero {L : Nat → Bool} : ∀ {n : Nat}, cntF L n = 0 → ∀ i, i < n → L i = true
 | n + 1, h, i, hi => by
  simp only [cntF] at h
  by_cases hin : i = n
  ·subst hin; cases hL : L i <;> simp [hL] at h ⊢
  exact cntF_zero (n := n) (by omega) i (by omega)
theorem cntF_set {L L' : Nat → Bool} {i : Nat} (hi0 : L i = false) (hi1 : L' i = true) (hne : ∀ j, j ≠ i → L' j = L j) : ∀ n, (i < n → cntF L' n + 1 = cntF L n) ∧ (n ≤ i → cntF L' n = cntF L n)
 | 0 => by simp [cntF]
 | n + 1 => by
  obtain ⟨h1, h2⟩ := cntF_set hi0 hi1 hne n;simp only [cntF];refine ⟨fun h => ?_, fun h => ?_⟩
  ·by_cases hin : n = i
   ·subst hin; have := h2 (Nat.le_refl _); simp [hi0, hi1, this]
   have := h1 (by omega); rw [hne n hin]; omega
  have := h2 (by omega); rw [hne n (by omega)]; omega
theorem cntF_full (L : Nat → Bool) (h : ∀ i, L i = false) : ∀ n, cntF L n = n
 | 0 => rfl
 | n + 1 => by simp [cntF, cntF_full L h n, h]
theorem goS_cut {L : Nat → Bool} {i : Nat} (hL : ∀ k, L k = true → k < i) : ∀ (os : List Oper) (rs : List ORec) (k : Nat) (x : List (Nat × AV)), goS L k os (rs.take (i - k)) x = goS L k os rs x := by
 have hfalse : ∀ (os : List Oper) (rs : List ORec) (q : Nat) (x : List (Nat × AV)), i ≤ q → goS L q os rs x = x := by
  intro os
  induction os with
  | nil => intro rs q x _; simp [goS]
  | cons o os ih2 =>
   intro rs q x hq;cases rs with
   | nil => simp [goS]
   | cons r rs =>
    have : L q = false := by cases hh : L q with
     | false => rfl
     | true => have := hL q hh; omega
    simp only [goS, this];exact ih2 rs (q + 1) x (by omega)
 intro os
 induction os with
 | nil => intro rs k x; simp [goS]
 | cons o os ih =>
  intro rs k x;cases rs with
  | nil => simp
  | cons r rs =>
   by_cases hk : k < i
   ·rw [show i - k = (i - (k + 1)) + 1 by omega, List.take_succ_cons];simp only [goS];exact ih rs (k + 1) _
   have hki : i - k = 0 := by omega
   rw [hki, List.take_zero, hfalse _ (r :: rs) _ _ (by omega)];simp [goS]
theorem goC_cut {L : Nat → Bool} {i : Nat} (hL : ∀ k, L k = true → k < i) : ∀ (os : List Oper) (rs : List ORec) (k : Nat) (x : List (Nat × Option Chunk)), goC L k os (rs.take (i - k)) x = goC L k os rs x := by
 have hfalse : ∀ (os : List Oper) (rs : List ORec) (q : Nat) (x : List (Nat × Option Chunk)), i ≤ q → goC L q os rs x = x := by
  intro os
  induction os with
  | nil => intro rs q x _; simp [goC]
  | cons o os ih2 =>
   intro rs q x hq;cases rs with
   | nil => simp [goC]
   | cons r rs =>
    have : L q = false := by cases hh : L q with
     | false => rfl
     | true => have := hL q hh; omega
    simp only [goC, this];exact ih2 rs (q + 1) x (by omega)
 intro os
 induction os with
 | nil => intro rs k x; simp [goC]
 | cons o os ih =>
  intro rs k x;cases rs with
  | nil => simp
  | cons r rs =>
   by_cases hk : k < i
   ·rw [show i - k = (i - (k + 1)) + 1 by omega, List.take_succ_cons];simp only [goC];exact ih rs (k + 1) _
   have hki : i - k = 0 := by omega
   rw [hki, List.take_zero, hfalse _ (r :: rs) _ _ (by omega)];simp [goC]
section
variable {P : Program} {C : Ctx} {Q : Exit → ASt → Prop} {s : ASt} {ops : List Oper} {anc : List (List Nat)} {recs : List ORec}
theorem anc_lt (h : ancOk ops anc = true) {i j : Nat} (hi : i < ops.length) (hj : j ∈ ancAt anc i) : j < i := by
 simp only [ancOk, List.all_eq_true, List.mem_range] at h;have := h i hi;rw [List.getElem?_eq_getElem hi] at this;simp only [Bool.and_eq_true, List.all_eq_true] at this;have := (this.2 j hj).1;simpa using this
theorem deps_lt (h : ancOk ops anc = true) {i d : Nat} {o : Oper} (ho : ops[i]? = some o) (hd : d ∈ deps o) : d < i := by
 have hi := (List.getElem?_eq_some_iff.1 ho).1;simp only [ancOk, List.all_eq_true, List.mem_range] at h;have := h i hi;rw [ho] at this;simp only [Bool.and_eq_true, List.all_eq_true] at this;simpa using this.1 d hd
theorem anc_in (h : ancOk ops anc = true) {L : Nat → Bool} (hL : ∀ i o, ops[i]? = some o → L i = true → ∀ d, d ∈ deps o → L d = true) : ∀ n i o, i < n → ops[i]? = some o → (∀ d, d ∈ deps o → L d = true) → ∀ j, j ∈ ancAt anc i → L j = true := by
 intro n
 induction n with
 | zero => intro i o hi; omega
 | succ n ih =>
  intro i o hi ho hd j hj;have hil := (List.getElem?_eq_some_iff.1 ho).1;have h' := h;simp only [ancOk, List.all_eq_true, List.mem_range] at h';have := h' i hil;rw [ho] at this;simp only [Bool.and_eq_true, List.all_eq_true, Bool.or_eq_true, List.any_eq_true] at this;rcases (this.2 j hj).2 with h1 | ⟨k, h1, h2⟩
  ·exact hd j (by simpa using h1)
  have hk := deps_lt h ho h1;have hkl : k < ops.length := by omega
  exact ih k ops[k] (by omega) (List.getElem?_eq_getElem hkl) (hL k _ (List.getElem?_eq_getElem hkl) (hd k h1)) j (by simpa using h2)
def UL (s : ASt) (n : Nat) (L : Nat → Bool) (j : Nat) : Prop := s.nx + 8 * n ≤ j ∨ ∃ i, i < n ∧ L i = false ∧ s.nx + 8 * i ≤ j ∧ j < s.nx + 8 * i + 8
theorem indep_of (h : indepOk ops anc recs = true) {i j : Nat} {oi oj : Oper} {ri rj : ORec} (hi : ops[i]? = some oi) (hj : ops[j]? = some oj) (hri : recs[i]? = some ri) (hrj : recs[j]? = some rj) (hne : i ≠ j) (h1 : j ∉ ancAt anc i) (h2 : i ∉ ancAt anc j) :
  (∀ d, oj.dst = some d → d ∉ looksT ops oi ∧ oi.dst ≠ some d) ∧ (∀ id, id ∈ keysU rj.1 → id ∉ ri.2 ∧ id ∉ keysU ri.1) := by
 simp only [indepOk, List.all_eq_true, List.mem_range] at h;have := h i (List.getElem?_eq_some_iff.1 hi).1 j (List.getElem?_eq_some_iff.1 hj).1;rw [hi, hj, hri, hrj] at this;simp only [Bool.or_eq_true, beq_iff_eq, List.contains_eq_mem, decide_eq_true_eq] at this;rcases this with ((h3 | h3) | h3) | h3
 ·exact absurd h3 hne
 ·exact absurd h3 h1
 ·exact absurd h3 h2
 simp only [Bool.and_eq_true, disj, List.all_eq_true, Bool.not_eq_true', List.contains_eq_mem, decide_eq_false_iff_not] at h3;obtain ⟨⟨⟨a, b⟩, c⟩, d⟩ := h3;refine ⟨fun x hx => ⟨a x (by simp [hx]), fun he => b x (by simp [hx]) (by simp [he])⟩, fun id hid => ⟨c id hid, d id hid⟩⟩
theorem keysU_none {u : Upd} {id : Nat} (h : id ∉ keysU u) : getL id u.ch = none := by
 unfold keysU at h;generalize u.ch = l at h
 induction l with
 | nil => rfl
 | cons p l ih =>
  obtain ⟨j, x⟩ := p;simp only [List.map_cons, List.mem_cons, not_or] at h;rw [getL_cons, if_neg h.1];exact ih h.2
theorem keysU_of {u : Upd} {id : Nat} (h : getL id u.ch ≠ none) : id ∈ keysU u := by
 by_cases hm : id ∈ keysU u
 ·exact hm
 exact absurd (keysU_none hm) h
theorem dr_any (hanc : ancOk ops anc = true) (hlen : recs.length = ops.length) (hind : indepOk ops anc recs = true) (hfin : Q .normal (mkS s (fun _ => true) ops recs))
  (hstep : ∀ i o r, ops[i]? = some o → recs[i]? = some r → dstOk o.dst s.n = true ∧ StepOk P ops (mkS s (fun k => memL k (ancAt anc i)) ops (recs.take i)) o r.2 (s.nx + 8 * i) r.1) :
  ∀ (fuel : Nat) (listed : Array Bool) (a : Act) (w : World) (m : Nat → Option (Option Nat × Nat)), listed.size = ops.length → cntF (fun i => listed.getD i false) ops.length = fuel → (∀ i o, ops[i]? = some o → listed.getD i false = true → ∀ d, d ∈ deps o → listed.getD d false = true) →
   RelM C (UL s ops.length (fun i => listed.getD i false)) (mkS s (fun i => listed.getD i false) ops recs) a w m → wpAny P .any ops.toArray (Qc C Q) fuel listed a w := by
 have hready : ∀ (listed : Array Bool), listed.size = ops.length → ∀ i, i ∈ Region.ready .any ops.toArray listed ↔ ∃ o, ops[i]? = some o ∧ listed.getD i false = false ∧ ∀ d, d ∈ deps o → listed.getD d false = true := by
  intro listed hsz i;rw [mem_ready];have hg : ∀ i, i < ops.length → listed.getD i true = listed.getD i false := fun i hi => by simp [Array.getD_eq_getD_getElem?, show i < listed.size by omega]
  constructor
  ·rintro ⟨h0, o, ho, hall⟩;have ho' : ops[i]? = some o := by simpa using ho
   refine ⟨o, ho', by rw [← hg i (List.getElem?_eq_some_iff.1 ho').1]; exact h0, fun d hd => ?_⟩;simp only [deps, List.mem_map, List.mem_filter] at hd;obtain ⟨e, ⟨he, hb⟩, rfl⟩ := hd;exact hall e (by simpa using he) hb
  rintro ⟨o, ho, h0, hall⟩;refine ⟨by rw [hg i (List.getElem?_eq_some_iff.1 ho).1]; exact h0, o, by simpa using ho, fun e he hb => hall e.on ?_⟩;simp only [deps, List.mem_map, List.mem_filter];exact ⟨e, ⟨by simpa using he, hb⟩, rfl⟩
 have hnone : ∀ (listed : Array Bool), listed.size = ops.length → Region.ready .any ops.toArray listed = [] → ∀ i, i < ops.length → listed.getD i false = true := by
  intro listed hsz hr i
  induction i using Nat.strongRecOn with
  | _ i ih =>
   intro hi;cases hL : listed.getD i false with
   | true => rfl
   | false =>
    have ho := List.getElem?_eq_getElem hi;have : i ∈ Region.ready .any ops.toArray listed := (hready listed hsz i).2 ⟨_, ho, hL, fun d hd => ih d (deps_lt hanc ho hd) (by have := deps_lt hanc ho hd; omega)⟩;rw [hr] at this; cases this
 have hend : ∀ (listed : Array Bool) a w m, (∀ i, i < ops.length → listed.getD i false = true) → RelM C (UL s ops.length (fun i => listed.getD i false)) (mkS s (fun i => listed.getD i false) ops recs) a w m → Qc C Q .normal a w := by
  intro listed a w m hall hR;refine ⟨mkS s (fun _ => true) ops recs, ⟨m, hR.weaken (s' := mkS s (fun _ => true) ops recs) rfl (fun t => .inr ?_) (fun id c hc => ?_) (fun j hj => .inl hj)⟩, hfin⟩
  ·show (getL t (goS _ 0 ops recs s.sl)).getD .dead = (getL t (goS _ 0 ops recs s.sl)).getD .dead;rw [goS_same (L := fun _ => true) (L' := fun i => listed.getD i false) ops recs 0 s.sl s.sl (fun i o hi _ => by simp only [Nat.zero_add]; exact (hall i (List.getElem?_eq_some_iff.1 hi).1).symm) rfl]
  have : (mkS s (fun _ => true) ops recs).chunk id = (mkS s (fun i => listed.getD i false) ops recs).chunk id := by
   show (getL id (goC _ 0 ops recs s.ch)).getD none = (getL id (goC _ 0 ops recs s.ch)).getD none;rw [goC_same (L := fun _ => true) (L' := fun i => listed.getD i false) ops recs 0 s.ch s.ch (fun i r hi _ => by simp only [Nat.zero_add]; exact (hall i (by have := (List.getElem?_eq_some_iff.1 hi).1; omega)).symm) rfl]
  rw [← this]; exact hc
 intro fuel
 induction fuel with
 | zero =>
  intro listed a w m hsz hcnt hcl hR;have hall : ∀ i, i < ops.length → listed.getD i false = true := fun i hi => cntF_zero hcnt i hi
  refine ⟨?_, hend listed a w m hall hR⟩;cases hr : Region.ready .any ops.toArray listed with
  | nil => rfl
  | cons i l =>
   obtain ⟨o, ho, h0, _⟩ := (hready listed hsz i).1 (by rw [hr]; simp);rw [hall i (List.getElem?_eq_some_iff.1 ho).1] at h0; cases h0
 | succ fuel ih =>
  intro listed a w m hsz hcnt hcl hR;refine ⟨fun hr => hend listed a w m (hnone listed hsz hr) hR, fun i hi => ?_⟩;obtain ⟨o, ho, h0, hd⟩ := (hready listed hsz i).1 hi;have hil := (List.getElem?_eq_some_iff.1 ho).1;obtain ⟨r, hr⟩ : ∃ r, recs[i]? = some r := ⟨_, List.getElem?_eq_getElem (by omega)⟩;obtain ⟨hdst, hst⟩ := hstep i o r ho hr;have hanci : ∀ j, j ∈ ancAt anc i → listed.getD j false = true := anc_in (L := fun i => listed.getD i false) hanc hcl (i + 1) i o (by omega) ho hd
  have hdesc : ∀ j, j < ops.length → i ∈ ancAt anc j → listed.getD j false = false := by
   intro j hj hij;cases hL : listed.getD j false with
   | false => rfl
   | true =>
    have hoj := List.getElem?_eq_getElem hj;have := anc_in (L := fun i => listed.getD i false) hanc hcl (j + 1) j _ (by omega) hoj (hcl j _ hoj hL) i hij;rw [h0] at this; cases this
  have hL' : ∀ j, (listed.setIfInBounds i true).getD j false = (listed.getD j false || j == i) := by
   intro j
   by_cases hj : j = i
   ·subst hj; simp [Array.getD_eq_getD_getElem?, show j < listed.size by omega]
   simp [Array.getD_eq_getD_getElem?, Array.getElem?_setIfInBounds_ne (Ne.symm hj), hj]
  have hlt : ∀ k, memL k (ancAt anc i) = true → k < i := fun k hk => anc_lt hanc hil (memL_iff.1 hk)
  have hsame : ∀ k, k < ops.length → (k ∉ ancAt anc i → i ∉ ancAt anc k → k ≠ i → False) → listed.getD k false = memL k (ancAt anc i) := by
   intro k hkl hex
   by_cases hka : k ∈ ancAt anc i
   ·rw [hanci k hka]; exact (memL_iff.2 hka).symm
   have e1 : memL k (ancAt anc i) = false := memL_not.2 hka;rw [e1]
   by_cases hki : k = i
   ·subst hki; exact h0
   by_cases hik : i ∈ ancAt anc k
   ·exact hdesc k hkl hik
   exact (hex hka hik hki).elim
  have hagr : AgrT ops r.2 o (mkS s (fun k => memL k (ancAt anc i)) ops (recs.take i)) (mkS s (fun i => listed.getD i false) ops recs) := by
   refine ⟨rfl, fun t ht => ?_, fun id hid => ?_⟩
   ·show (getL t (goS _ 0 ops recs s.sl)).getD .dead = (getL t (goS _ 0 ops (recs.take i) s.sl)).getD .dead;have := goS_cut hlt ops recs 0 s.sl;rw [Nat.sub_zero] at this;rw [this, goS_same (L := fun i => listed.getD i false) (L' := fun k => memL k (ancAt anc i)) ops recs 0 s.sl s.sl (fun k ok hk hdk => ?_) rfl];simp only [Nat.zero_add];have hkl := (List.getElem?_eq_some_iff.1 hk).1;refine hsame k hkl (fun hka hik hki => ?_);obtain ⟨rk, hrk⟩ : ∃ rk, recs[k]? = some rk := ⟨_, List.getElem?_eq_getElem (by omega)⟩;exact absurd ht ((indep_of hind ho hk hr hrk (Ne.symm hki) hka hik).1 t hdk).1
   show (getL id (goC _ 0 ops recs s.ch)).getD none = (getL id (goC _ 0 ops (recs.take i) s.ch)).getD none;have := goC_cut hlt ops recs 0 s.ch;rw [Nat.sub_zero] at this;rw [this, goC_same (L := fun i => listed.getD i false) (L' := fun k => memL k (ancAt anc i)) ops recs 0 s.ch s.ch (fun k rk hrk hdk => ?_) rfl];simp only [Nat.zero_add];have hkl : k < ops.length := by have := (List.getElem?_eq_some_iff.1 hrk).1; omega
   refine hsame k hkl (fun hka hik hki => ?_);exact absurd hid ((indep_of hind ho (List.getElem?_eq_getElem hkl) hr hrk (Ne.symm hki) hka hik).2 id (keysU_of hdk)).1
  have hnext : ∀ a' w' m', RelM C (UL s ops.length (fun j => (listed.setIfInBounds i true).getD j false)) ((mkS s (fun i => listed.getD i false) ops recs).app o.dst r.1) a' w' m' → wpAny P .any ops.toArray (Qc C Q) fuel (listed.setIfInBounds i true) a' w' := by
   intro a' w' m' hR';refine ih (listed.setIfInBounds i true) a' w' m' (by simpa using hsz) ?_ ?_ ?_
   ·have := (cntF_set (L := fun i => listed.getD i false) (L' := fun j => (listed.setIfInBounds i true).getD j false) (i := i) h0 (by simp only [hL']; simp) (fun j hj => by simp only [hL']; simp [hj]) ops.length).1 hil;omega
   ·intro k ok hk hLk d hdd;rw [hL'] at hLk ⊢;simp only [Bool.or_eq_true, beq_iff_eq] at hLk ⊢;rcases hLk with h | h
    ·exact .inl (hcl k ok hk h d hdd)
    subst h;rw [ho] at hk;obtain rfl : o = ok := by simpa using hk
    exact .inl (hd d hdd)
   have e1 : (fun j => (listed.setIfInBounds i true).getD j false) = (fun j => (fun k => listed.getD k false) j || j == i) := funext hL';refine hR'.weaken (by rw [ASt.n_app]; rfl) (fun t => .inr ?_) (fun id c hc => ?_) (fun j hj => hj)
   ·rw [ASt.get_app];show (getL t (goS (fun j => (listed.setIfInBounds i true).getD j false) 0 ops recs s.sl)).getD .dead = _;rw [e1, goS_more (L := fun k => listed.getD k false) (i := i) (r0 := r) ops recs 0 s.sl o (Nat.zero_le _) (by simpa using ho) (by simpa using hr) (fun j oj hj hij hLj hdj hdi => ?_)]
    ·by_cases hdt : o.dst = some t
     ·rw [if_pos hdt, if_pos hdt]; rfl
     rw [if_neg hdt, if_neg hdt]; rfl
    rw [Nat.zero_add] at hij hLj;have hjl := (List.getElem?_eq_some_iff.1 hj).1;obtain ⟨rj, hrj⟩ : ∃ rj, recs[j]? = some rj := ⟨_, List.getElem?_eq_getElem (by omega)⟩
    by_cases hja : j ∈ ancAt anc i
    ·have := anc_lt hanc hil hja; omega
    by_cases hij2 : i ∈ ancAt anc j
    ·rw [hdesc j hjl hij2] at hLj; cases hLj
    exact ((indep_of hind ho hj hr hrj (by omega) hja hij2).1 t hdj).2 hdi
   rw [ASt.chunk_app];have hc2 : (getL id (goC (fun j => (listed.setIfInBounds i true).getD j false) 0 ops recs s.ch)).getD none = some c := hc;rw [e1, goC_more (t := id) (L := fun k => listed.getD k false) (i := i) (r0 := r) ops recs 0 s.ch hlen.symm (Nat.zero_le _) (by simpa using hr) (fun j rj hrj hij hLj hdj => ?_)] at hc2
   ·cases hg : getL id r.1.ch with
    | some x => rw [hg] at hc2; simpa using hc2
    | none => rw [hg] at hc2; rw [Option.none_or] at hc2; exact hc2
   rw [Nat.zero_add] at hij hLj;have hjl : j < ops.length := by have := (List.getElem?_eq_some_iff.1 hrj).1; omega
   by_cases hja : j ∈ ancAt anc i
   ·have := anc_lt hanc hil hja; omega
   by_cases hij2 : i ∈ ancAt anc j
   ·rw [hdesc j hjl hij2] at hLj; cases hLj
   exact keysU_none ((indep_of hind ho (List.getElem?_eq_getElem hjl) hr hrj (by omega) hja hij2).2 id (keysU_of hdj)).2
  have hU1 : ∀ k, k < 8 → UL s ops.length (fun i => listed.getD i false) (s.nx + 8 * i + k) := fun k hk => .inr ⟨i, hil, h0, by omega, by omega⟩
  have hU2 : ∀ j, UL s ops.length (fun j => (listed.setIfInBounds i true).getD j false) j → UL s ops.length (fun i => listed.getD i false) j ∧ (j < s.nx + 8 * i ∨ s.nx + 8 * i + 8 ≤ j) := by
   rintro j (hj | ⟨k, hk, hLk, h1, h2⟩)
   ·exact ⟨.inl hj, .inr (by omega)⟩
   have hLk' : (listed.getD k false || k == i) = false := by rw [← hL']; exact hLk
   simp only [Bool.or_eq_false_iff, beq_eq_false_iff_ne] at hLk';exact ⟨.inr ⟨k, hk, hLk'.1, h1, h2⟩, by omega⟩
  have hoa : ops.toArray[i]? = some o := by simpa using ho
  have hrun : NOp P r.2 (mkS s (fun k => memL k (ancAt anc i)) ops (recs.take i)) o (s.nx + 8 * i) r.1 → o.wp P a w (wpAny P .any ops.toArray (Qc C Q) fuel (listed.setIfInBounds i true)) (Qc C Q) := fun hn =>
   hn.run _ hagr.agr C _ _ a w m hR hU1 hU2 hdst _ _ hnext
  have hyield : ∀ j t b, ((ops[j]?).bind (·.dst)) = some t → Nat.blt t s.n = true → (mkS s (fun i => listed.getD i false) ops recs).get t = aT b → yielded ops.toArray a.tmps j = some b := by
   intro j t b h1 h2 h3;have := hR.sl t;rw [h3] at this;have hv := this.val_eq.1;have hlt : t < a.tmps.size := by rw [hR.sz]; simpa [mkS] using h2
   have h4 : a.tmps[t]? = some (.bool b) := by
    rw [Array.getElem?_eq_getElem hlt];rw [Array.getD_eq_getD_getElem?, Array.getElem?_eq_getElem hlt] at hv;simpa using hv
   simp [yielded, h1, h4]
  have hskip : r.1 = ⟨.und, []⟩ → wpAny P .any ops.toArray (Qc C Q) fuel (listed.setIfInBounds i true) (a.put o.dst undef) w := by
   intro hu;refine hnext _ _ m ?_;rw [hu];exact (hR.setSlot (x := .und) (v := undef) hdst .und).weaken rfl (fun _ => .inr rfl) (fun _ _ h => h) (fun j hj => (hU2 j hj).1)
  have hlook : ∀ j w t, o.guard = some (j, w) → ((ops[j]?).bind (·.dst)) = some t → t ∈ looksT ops o := by
   intro j w t h1 h2;refine List.mem_append_right _ ?_;rw [h1]; simp [h2]
  unfold wpOp;rw [hoa];simp only;cases hst with
  | free hg hn => rw [if_pos (by simp [Region.wanted, hg])]; exact .inl (hrun hn)
  | @yes j t b hg ht htn hs hn =>
   rw [if_pos (by simp [Region.wanted, hg, hyield j t b ht htn ((hagr.get t (hlook j b t hg ht)).trans hs)])];exact .inl (hrun hn)
  | @no j t b b' hg ht htn hs hb hu =>
   rw [if_neg (by simp [Region.wanted, hg, hyield j t b' ht htn ((hagr.get t (hlook j b t hg ht)).trans hs), hb])];exact hskip hu
  | @noU j t b hg ht hs hu =>
   have hux := hR.sl t;rw [(hagr.get t (hlook j b t hg ht)).trans hs] at hux
   have hy : yielded ops.toArray a.tmps j = none := by
    generalize hv : a.tmps.getD t undef = v at hux;cases hux;have ht' : ((ops.toArray[j]?).bind (·.dst)) = some t := by simpa using ht
    unfold yielded;rw [ht'];rw [Array.getD_eq_getD_getElem?] at hv;simp only [Option.bind_some];cases hq : a.tmps[t]? with
    | none => rfl
    | some v => rw [hq] at hv; simp only [Option.getD_some] at hv; subst hv; rfl
   rw [if_neg (by simp [Region.wanted, hg, hy])];exact hskip hu
theorem AC.drawn {id : Nat} (hm : P.follows .mixedOrders = true) (anc : List (List Nat)) (hanc : ancOk ops anc = true) (h : Dr P ops anc s Q []) : ACode P C (.region id ops.toArray true) Q s := by
 refine ⟨fun a w hR => ?_⟩;obtain ⟨m, hR⟩ := hR;obtain ⟨full, _, g2, g3, g4, g5⟩ := h.all;refine wp_region_any hm ?_
 have hrep : ∀ i, (Array.replicate ops.toArray.size false).getD i false = false := fun i => by
  simp only [Array.getD_eq_getD_getElem?, Array.getElem?_replicate]
  split <;> rfl
 have e1 : (fun i => (Array.replicate ops.toArray.size false).getD i false) = (fun _ => false) := funext hrep;refine dr_any (recs := full) (anc := anc) hanc g2 g3 g4 (fun i o r ho hr => g5 i o r (Nat.zero_le _) ho hr) ops.toArray.size _ a _ m (by simp) (by rw [e1, cntF_full _ (fun _ => rfl)]; simp) (fun i o _ h => by rw [hrep] at h; cases h) ?_;rw [e1]
 have hS : ∀ (os : List Oper) (rs : List ORec) (k : Nat) (x : List (Nat × AV)), goS (fun _ => false) k os rs x = x := by
  intro os
  induction os with
  | nil => intro rs k x; simp [goS]
  | cons o os ih => intro rs k x; cases rs <;> simp [goS, ih]
 have hC : ∀ (os : List Oper) (rs : List ORec) (k : Nat) (x : List (Nat × Option Chunk)), goC (fun _ => false) k os rs x = x := by
  intro os
  induction os with
  | nil => intro rs k x; simp [goC]
  | cons o os ih => intro rs k x; cases rs <;> simp [goC, ih]
 have := hR.drewN 1;refine RelM.weaken (s := s) (U := fun id => s.nx ≤ id) (w := { w with drawn := w.drawn + 1 }) this rfl (fun t => .inr ?_) (fun id c hc => ?_) (fun j hj => ?_)
 ·show (getL t (goS _ 0 ops full s.sl)).getD .dead = _;rw [hS]; rfl
 ·have h2 : (getL id (goC (fun _ => false) 0 ops full s.ch)).getD none = some c := hc;rw [hC] at h2; exact h2
 rcases hj with h | ⟨i, _, _, h1, _⟩
 ·show s.nx ≤ j; omega
 show s.nx ≤ j; omega
end
abbrev FRec := Nat × Option Nat × Upd × List Nat
def fS (row : List Nat) : List FRec → List (Nat × AV) → List (Nat × AV)
 | [], acc => acc
 | (i, some d, u, _) :: l, acc => bif memL i row then (d, u.r) :: fS row l acc else fS row l acc
 | (_, none, _, _) :: l, acc => fS row l acc
def fC (row : List Nat) : List FRec → List (Nat × Option Chunk) → List (Nat × Option Chunk)
 | [], acc => acc
 | (_, _, ⟨_, []⟩, _) :: l, acc => fC row l acc
 | (i, _, ⟨_, c :: cs⟩, _) :: l, acc => bif memL i row then c :: (cs ++ fC row l acc) else fC row l acc
def mkF (s : ASt) (n : Nat) (row : List Nat) (l : List FRec) : ASt := ⟨s.n, s.nx + 8 * n, fS row l s.sl, fC row l s.ch⟩
def allS : List FRec → List (Nat × AV) → List (Nat × AV)
 | [], acc => acc
 | (_, some d, u, _) :: l, acc => (d, u.r) :: allS l acc
 | (_, none, _, _) :: l, acc => allS l acc
def allC : List FRec → List (Nat × Option Chunk) → List (Nat × Option Chunk)
 | [], acc => acc
 | (_, _, ⟨_, []⟩, _) :: l, acc => allC l acc
 | (_, _, ⟨_, c :: cs⟩, _) :: l, acc => c :: (cs ++ allC l acc)
def mkAll (s : ASt) (n : Nat) (l : List FRec) : ASt := ⟨s.n, s.nx + 8 * n, allS l s.sl, allC l s.ch⟩
def fwd (l : List FRec) : List ORec := (l.map fun f => (f.2.2.1, f.2.2.2)).reverse
def FOk (ops : List Oper) : List FRec → Prop
 | [] => True
 | (i, d, _, _) :: l => i = l.length ∧ (∃ o, ops[i]? = some o ∧ o.dst = d) ∧ FOk ops l
theorem fwd_cons (f : FRec) (l : List FRec) : fwd (f :: l) = fwd l ++ [(f.2.2.1, f.2.2.2)] := by simp [fwd]
theorem fwd_len (l : List FRec) : (fwd l).length = l.length := by simp [fwd]
theorem goS_snoc (L : Nat → Bool) (r : ORec) (o : Oper) : ∀ (os : List Oper) (rs : List ORec) (k : Nat) (acc : List (Nat × AV)), os[rs.length]? = some o → goS L k os (rs ++ [r]) acc = match L (k + rs.length), o.dst with | true, some d => (d, r.1.r) :: goS L k os rs acc | _, _ => goS L k os rs acc
 | [], rs, k, acc, h => by simp at h
 | o' :: os, [], k, acc, h => by
  simp only [List.length_nil, List.getElem?_cons_zero, Option.some.injEq] at h;subst h;cases hL : L k <;> cases hd : o'.dst <;> cases os <;> simp [goS, hL, hd]
 | o' :: os, r' :: rs, k, acc, h => by
  simp only [List.length_cons, List.getElem?_cons_succ] at h;simp only [List.cons_append, goS, List.length_cons];rw [goS_snoc L r o os rs (k + 1) _ h];rw [show k + 1 + rs.length = k + (rs.length + 1) by omega]
theorem goC_snoc (L : Nat → Bool) (r : ORec) (o : Oper) : ∀ (os : List Oper) (rs : List ORec) (k : Nat) (acc : List (Nat × Option Chunk)), os[rs.length]? = some o → goC L k os (rs ++ [r]) acc = match L (k + rs.length) with | true => r.1.ch ++ goC L k os rs acc | _ => goC L k os rs acc
 | [], rs, k, acc, h => by simp at h
 | o' :: os, [], k, acc, h => by
  cases hL : L k <;> cases os <;> simp [goC, hL]
 | o' :: os, r' :: rs, k, acc, h => by
  simp only [List.length_cons, List.getElem?_cons_succ] at h;simp only [List.cons_append, goC, List.length_cons];rw [goC_snoc L r o os rs (k + 1) _ h];rw [show k + 1 + rs.length = k + (rs.length + 1) by omega]
theorem goS_F (row : List Nat) {ops : List Oper} : ∀ {l : List FRec}, FOk ops l → ∀ acc, goS (fun k => memL k row) 0 ops (fwd l) acc = fS row l acc
 | [], _, acc => by cases ops <;> simp [fwd, goS, fS]
 | (i, d, u, ids) :: l, h, acc => by
  obtain ⟨rfl, ⟨o, ho, rfl⟩, h3⟩ := h;rw [fwd_cons, goS_snoc _ _ o _ _ _ _ (by rw [fwd_len]; exact ho), fwd_len, Nat.zero_add, goS_F row h3];cases hm : memL l.length row <;> cases hd : o.dst <;> simp [fS, hm]
theorem goC_F (row : List Nat) {ops : List Oper} : ∀ {l : List FRec}, FOk ops l → ∀ acc, goC (fun k => memL k row) 0 ops (fwd l) acc = fC row l acc
 | [], _, acc => by cases ops <;> simp [fwd, goC, fC]
 | (i, d, u, ids) :: l, h, acc => by
  obtain ⟨rfl, ⟨o, ho, rfl⟩, h3⟩ := h;rw [fwd_cons, goC_snoc _ _ o _ _ _ _ (by rw [fwd_len]; exact ho), fwd_len, Nat.zero_add, goC_F row h3];obtain ⟨r, ch⟩ := u;cases hm : memL l.length row <;> cases ch <;> simp [fC, hm]
theorem goS_A {ops : List Oper} : ∀ {l : List FRec}, FOk ops l → ∀ acc, goS (fun _ => true) 0 ops (fwd l) acc = allS l acc
 | [], _, acc => by cases ops <;> simp [fwd, goS, allS]
 | (i, d, u, ids) :: l, h, acc => by
  obtain ⟨rfl, ⟨o, ho, rfl⟩, h3⟩ := h;rw [fwd_cons, goS_snoc _ _ o _ _ _ _ (by rw [fwd_len]; exact ho), goS_A h3];cases hd : o.dst <;> simp [allS]
theorem goC_A {ops : List Oper} : ∀ {l : List FRec}, FOk ops l → ∀ acc, goC (fun _ => true) 0 ops (fwd l) acc = allC l acc
 | [], _, acc => by cases ops <;> simp [fwd, goC, allC]
 | (i, d, u, ids) :: l, h, acc => by
  obtain ⟨rfl, ⟨o, ho, rfl⟩, h3⟩ := h;rw [fwd_cons, goC_snoc _ _ o _ _ _ _ (by rw [fwd_len]; exact ho), goC_A h3];obtain ⟨r, ch⟩ := u;cases ch <;> simp [allC]
def idsF : List FRec → List (Nat × Nat) → Bool
 | l, [] => true
 | l, (i, j) :: ps => (match atF j l with
  | some ([], _) => true
  | some (ks, _) => (match atF i l with
   | some (ks', ids') => disj2 ks ids' ks'
   | none => false)
  | none => false) && idsF l ps
where atF (i : Nat) : List FRec → Option (List Nat × List Nat)
 | [] => none
 | (k, _, u, ids) :: l => bif Nat.beq k i then some (keysU u, ids) else atF i l
theorem atF_of {ops : List Oper} {i : Nat} : ∀ {l : List FRec}, FOk ops l → ∀ {x}, idsF.atF i l = some x → ∃ r, (fwd l)[i]? = some r ∧ (keysU r.1, r.2) = x
 | [], _, x, h => by simp [idsF.atF] at h
 | (k, d, u, ids) :: l, hf, x, h => by
  obtain ⟨rfl, _, h3⟩ := hf;simp only [idsF.atF] at h;rw [fwd_cons];cases hb : Nat.beq l.length i with
  | true =>
   rw [hb] at h;simp only [cond_true, Option.some.injEq] at h;have : l.length = i := by simpa using hb
   subst this;exact ⟨(u, ids), by rw [List.getElem?_append_right (by rw [fwd_len]; exact Nat.le_refl _), fwd_len]; simp, h⟩
  | false =>
   rw [hb] at h;obtain ⟨r, h1, h2⟩ := atF_of h3 h;exact ⟨r, by rw [List.getElem?_append_left (List.getElem?_eq_some_iff.1 h1).1]; exact h1, h2⟩
theorem idsF_ok {ops : List Oper} {l : List FRec} (hf : FOk ops l) (hlen : l.length = ops.length) : ∀ {ps : List (Nat × Nat)}, slotOk ops ps = true → idsF l ps = true → idsOk (fwd l) ps = true
 | [], _, _ => rfl
 | (i, j) :: ps, hs, h => by
  obtain ⟨oi, oj, h1, h2, _⟩ := slotOk_mem hs (List.mem_cons_self ..);have hi := (List.getElem?_eq_some_iff.1 h1).1;have hj := (List.getElem?_eq_some_iff.1 h2).1;have hs' : slotOk ops ps = true := by simp only [slotOk, Bool.and_eq_true] at hs; exact hs.2
  simp only [idsF, Bool.and_eq_true] at h;simp only [idsOk, Bool.and_eq_true];refine ⟨?_, idsF_ok hf hlen hs' h.2⟩;obtain ⟨ri, hri⟩ : ∃ ri, (fwd l)[i]? = some ri := ⟨_, List.getElem?_eq_getElem (by rw [fwd_len]; omega)⟩;cases ha : idsF.atF j l with
  | none => rw [ha] at h; simp at h
  | some x =>
   obtain ⟨rj, g1, g2⟩ := atF_of hf ha;rw [hri, g1];obtain ⟨ks, ids⟩ := x;simp only [Prod.mk.injEq] at g2;cases ks with
   | nil => simp only [g2.1, disj2]
   | cons k ks =>
    rw [ha] at h;cases hb : idsF.atF i l with
    | none => rw [hb] at h; simp at h
    | some y =>
     obtain ⟨ri', q1, q2⟩ := atF_of hf hb;rw [hri] at q1;obtain rfl : ri = ri' := by simpa using q1
     obtain ⟨ks', ids'⟩ := y;simp only [Prod.mk.injEq] at q2;rw [hb] at h;simp only;rw [g2.1, q2.1, q2.2];exact h.1
structure DF (P : Program) (ops : List Oper) (anc : List (List Nat)) (s : ASt) (Q : Exit → ASt → Prop) (rest : List Oper) (l : List FRec) : Prop where
 dr : FOk ops l → ops.drop l.length = rest → Dr P ops anc s Q (fwd l)
section
variable {P : Program} {ops : List Oper} {anc : List (List Nat)} {s : ASt} {Q : Exit → ASt → Prop} {l : List FRec}
theorem DF.fin {ps : List (Nat × Nat)} (n : Nat) (hn : Nat.beq ops.length n = true) (h1 : coverOk n anc ps = true) (h2 : slotOk ops ps = true) (h3 : idsF l ps = true) (h : Q .normal (mkAll s n l)) : DF P ops anc s Q [] l := by
 refine ⟨fun hf hr => ?_⟩;have hn : ops.length = n := by simpa using hn
 subst hn;have hle : ops.length ≤ l.length := by simpa using hr
 have hle2 : l.length ≤ ops.length := by
  cases l with
  | nil => exact Nat.zero_le _
  | cons f l =>
   obtain ⟨i, d, u, ids⟩ := f;obtain ⟨rfl, ⟨o, ho, _⟩, _⟩ := hf;exact (List.getElem?_eq_some_iff.1 ho).1
 have hlen : l.length = ops.length := by omega
 refine Dr.done (by rw [fwd_len, hlen]; simp) (indep_parts h1 h2 (idsF_ok hf hlen h2 h3)) ?_;have : mkS s (fun _ => true) ops (fwd l) = mkAll s ops.length l := by simp [mkS, mkAll, goS_A hf, goC_A hf]
 rw [this]; exact h
theorem DF.op {rest : List Oper} {o : Oper} (i : Nat) (row : List Nat) {ids : List Nat} {u : Upd} (n : Nat) (hi : Nat.beq l.length i = true) (hn : Nat.beq ops.length n = true) (hrow : ancAt anc i = row) (hst : StepOk P ops (mkF s n row l) o ids (s.nx + 8 * i) u) (hd : dstOk o.dst s.n = true) (h : DF P ops anc s Q rest ((i, o.dst, u, ids) :: l)) : DF P ops anc s Q (o :: rest) l := by
 refine ⟨fun hf hr => ?_⟩;have hi : l.length = i := by simpa using hi
 have hn : ops.length = n := by simpa using hn
 subst hi; subst hn
 have ho : ops[l.length]? = some o := by
  have := congrArg (fun x => x[0]?) hr;simpa using this
 have hr' : ops.drop (l.length + 1) = rest := by
  have := congrArg List.tail hr;simpa using this
 have h1 := h.dr ⟨rfl, ⟨o, ho, rfl⟩, hf⟩ hr';rw [fwd_cons] at h1;refine Dr.op (by rw [fwd_len]; exact ho) ?_ hd h1;rw [fwd_len];have : mkS s (fun k => memL k (ancAt anc l.length)) ops (fwd l) = mkF s ops.length row l := by rw [hrow]; simp [mkS, mkF, goS_F row hf, goC_F row hf]
 rw [this]; exact hst
def prs (n : Nat) (anc : List (List Nat)) : List (Nat × Nat) := (List.range n).flatMap fun i => ((List.range n).filter fun j => !(Nat.beq i j || memL j (ancAt anc i) || memL i (ancAt anc j))).map fun j => (i, j)
theorem zd [PT P] {rest : List Oper} {o : Oper} (i : Nat) (row : List Nat) (n : Nat) {ids : List Nat} {r : AV} (hg : GOp P ids (mkF s n row l) o r) (h : DF P ops anc s Q rest ((i, o.dst, ⟨r, []⟩, ids) :: l)) (hgd : o.guard = none := by exact rfl) (hi : Nat.beq l.length i = true := by exact rfl) (hn : Nat.beq ops.length n = true := by exact rfl) (hrow : ancAt anc i = row := by exact rfl) (hd : dstOk o.dst s.n = true := by exact rfl) : DF P ops anc s Q (o :: rest) l := DF.op i row n hi hn hrow (.free hgd (NOp.of hg)) hd h
theorem zh {rest : List Oper} {o : Oper} (i : Nat) (row : List Nat) (n : Nat) {ids : List Nat} {u : Upd} (hg : NOp P ids (mkF s n row l) o (s.nx + 8 * i) u) (h : DF P ops anc s Q rest ((i, o.dst, u, ids) :: l)) (hgd : o.guard = none := by exact rfl) (hi : Nat.beq l.length i = true := by exact rfl) (hn : Nat.beq ops.length n = true := by exact rfl) (hrow : ancAt anc i = row := by exact rfl) (hd : dstOk o.dst s.n = true := by exact rfl) : DF P ops anc s Q (o :: rest) l := DF.op i row n hi hn hrow (.free hgd hg) hd h
theorem ze [PT P] {rest : List Oper} {o : Oper} (i : Nat) (row : List Nat) (n : Nat) {ids : List Nat} {r : AV} {j t : Nat} {w : Bool} (hg : GOp P ids (mkF s n row l) o r) (h : DF P ops anc s Q rest ((i, o.dst, ⟨r, []⟩, ids) :: l)) (hgd : o.guard = some (j, w) := by exact rfl) (ht : ((ops[j]?).bind (·.dst)) = some t := by exact rfl) (hl : Nat.blt t (mkF s n row l).n = true := by exact rfl) (hw : (mkF s n row l).get t = aT w := by exact rfl) (hi : Nat.beq l.length i = true := by exact rfl) (hn : Nat.beq ops.length n = true := by exact rfl) (hrow : ancAt anc i = row := by exact rfl) (hd : dstOk o.dst s.n = true := by exact rfl) : DF P ops anc s Q (o :: rest) l := DF.op i row n hi hn hrow (.yes hgd ht hl hw (NOp.of hg)) hd h
theorem zi {rest : List Oper} {o : Oper} (i : Nat) (row : List Nat) (n : Nat) {ids : List Nat} {u : Upd} {j t : Nat} {w : Bool} (hg : NOp P ids (mkF s n row l) o (s.nx + 8 * i) u) (h : DF P ops anc s Q rest ((i, o.dst, u, ids) :: l)) (hgd : o.guard = some (j, w) := by exact rfl) (ht : ((ops[j]?).bind (·.dst)) = some t := by exact rfl) (hl : Nat.blt t (mkF s n row l).n = true := by exact rfl) (hw : (mkF s n row l).get t = aT w := by exact rfl) (hi : Nat.beq l.length i = true := by exact rfl) (hn : Nat.beq ops.length n = true := by exact rfl) (hrow : ancAt anc i = row := by exact rfl) (hd : dstOk o.dst s.n = true := by exact rfl) : DF P ops anc s Q (o :: rest) l := DF.op i row n hi hn hrow (.yes hgd ht hl hw hg) hd h
theorem zg {rest : List Oper} {o : Oper} (i : Nat) (row : List Nat) (n : Nat) {j t : Nat} {w b : Bool} (h : DF P ops anc s Q rest ((i, o.dst, ⟨.und, []⟩, []) :: l)) (hgd : o.guard = some (j, w) := by exact rfl) (ht : ((ops[j]?).bind (·.dst)) = some t := by exact rfl) (hl : Nat.blt t (mkF s n row l).n = true := by exact rfl) (hw : (mkF s n row l).get t = aT b := by exact rfl) (hb : b = !w := by exact rfl) (hi : Nat.beq l.length i = true := by exact rfl) (hn : Nat.beq ops.length n = true := by exact rfl) (hrow : ancAt anc i = row := by exact rfl) (hd : dstOk o.dst s.n = true := by exact rfl) : DF P ops anc s Q (o :: rest) l := DF.op i row n hi hn hrow (.no hgd ht hl hw hb rfl) hd h
theorem zj (n : Nat) (h : Q .normal (mkAll s n l)) (hn : Nat.beq ops.length n = true := by exact rfl) (h1 : coverOk n anc (prs n anc) = true := by decide +kernel) (h2 : slotOk ops (prs n anc) = true := by decide +kernel) (h3 : idsF l (prs n anc) = true := by rfl) : DF P ops anc s Q [] l := DF.fin n hn h1 h2 h3 h
def setF (j : Nat) (r : AV) : List FRec → List FRec
 | [] => []
 | (i, d, u, ids) :: l => bif Nat.beq i j then (i, d, ⟨r, u.ch⟩, ids) :: l else (i, d, u, ids) :: setF j r l
def getF (j : Nat) : List FRec → Option AV
 | [] => none
 | (i, _, u, _) :: l => bif Nat.beq i j then some u.r else getF j l
theorem setF_same {j : Nat} {r : AV} : ∀ {l : List FRec}, getF j l = some r → setF j r l = l
 | [], h => rfl
 | (i, d, u, ids) :: l, h => by
  simp only [getF] at h;simp only [setF];cases hb : Nat.beq i j with
  | true => rw [hb] at h; simp only [cond_true, Option.some.injEq] at h; subst h; rfl
  | false => rw [hb] at h; simp only [cond_false] at h ⊢; rw [setF_same h]
theorem DF.caseD {rest : List Oper} (j : Nat) {p : Prop} [Decidable p] (h : getF j l = some (aT (decide p))) (hT : p → DF P ops anc s Q rest (setF j (aT true) l)) (hF : ¬ p → DF P ops anc s Q rest (setF j (aT false) l)) : DF P ops anc s Q rest l := by
 by_cases hp : p
 ·have := hT hp; rwa [setF_same (by rw [h]; simp [hp])] at this
 have := hF hp; rwa [setF_same (by rw [h]; simp [hp])] at this
theorem DF.caseB {rest : List Oper} (j : Nat) {b : Bool} (h : getF j l = some (aT b)) (hT : b = true → DF P ops anc s Q rest (setF j (aT true) l)) (hF : b = false → DF P ops anc s Q rest (setF j (aT false) l)) : DF P ops anc s Q rest l := by
 cases b
 ·have := hF rfl; rwa [setF_same h] at this
 have := hT rfl; rwa [setF_same h] at this
theorem AC.drawn' {C : Ctx} {id : Nat} (hm : P.follows .mixedOrders = true) (anc : List (List Nat)) (hanc : ancOk ops anc = true) (h : DF P ops anc s Q ops []) : ACode P C (.region id ops.toArray true) Q s := AC.drawn hm anc hanc (h.dr trivial rfl)
end
structure Tn where
 pre : List Int
 post : List Int
 deriving DecidableEq
theorem leadsL_data (σ : Nat → Option Nat) : ∀ ds : List DV, AV.leadsL σ (ds.map .d) (ds.map .d)
 | [] => rfl
 | d :: ds => ⟨_, _, rfl, .same, leadsL_data σ ds⟩
def findI {α : Type} (p : α → Bool) (l : List α) : Int := if l.findIdx p < l.length then (l.findIdx p : Int) else -1
theorem findI_at {α : Type} {p : α → Bool} {l : List α} {k : Nat} (hk : k < l.length) (h : p l[k] = true) (hp : ∀ j (hj : j < k), p (l[j]'(by omega)) = false) : findI p l = (k : Int) := by
 have : l.findIdx p = k := (List.findIdx_eq hk).2 ⟨h, fun j hj => by simpa using hp j hj⟩;rw [findI, this, if_pos hk]
theorem findI_none {α : Type} {p : α → Bool} {l : List α} (hp : ∀ j (hj : j < l.length), p l[j] = false) : findI p l = -1 := by
 have : l.findIdx p = l.length := List.findIdx_eq_length.2 (fun x hx => by obtain ⟨j, hj, rfl⟩ := List.getElem_of_mem hx; exact hp j hj);rw [findI, this, if_neg (Nat.lt_irrefl _)]
theorem findI_any {α : Type} (p : α → Bool) (l : List α) : decide (0 ≤ findI p l) = l.any p := by
 unfold findI
 by_cases h : l.findIdx p < l.length
 ·rw [if_pos h, List.any_eq_true.2 (List.findIdx_lt_length.1 h)]; simp
 rw [if_neg h]
 have : l.any p = false := by
  rw [List.any_eq_false];intro x hx hp;exact h (List.findIdx_lt_length.2 ⟨x, hx, hp⟩)
 rw [this]; rfl
def bstr (l : List UInt8) : ByteArray := ⟨l.toArray⟩
theorem bstr_data (l : List UInt8) : (bstr l).data.toList = l := rfl
theorem bstr_size (l : List UInt8) : (bstr l).size = l.length := by simp [bstr, ByteArray.size]
theorem bstr_of (s : ByteArray) : bstr s.data.toList = s := by cases s; rfl
theorem bstr_inj {a b : List UInt8} (h : bstr a = bstr b) : a = b := by have := congrArg (fun s => s.data.toList) h; simpa [bstr_data] using this
theorem bstr_append (a b : List UInt8) : bstr a ++ bstr b = bstr (a ++ b) := by
 rw [← bstr_of (bstr a ++ bstr b)];congr 1
section
variable {P : Program} [PT P]
variable {s : ASt} {dst : Option Nat} {ty : Nat} {pos : String} {af : Array Edge} {gd : Option (Nat × Bool)} {x : Operand} {t u f : Nat}
end
theorem l1In_spec (n lo hi : Int) : ASpec Tryz.prog 70 [aI n, aI lo, aI hi] [] (Pure1 (aT (decide (lo ≤ n) && decide (n ≤ hi)))) := by
 refine ASpec.of Tryz.func70 rfl rfl fun C hC => ?_
 refine AC.seq (AC.region ?_);refine za ?_;refine AL.nil (th_n (AC.seq (AC.region ?_)));refine zm ?_;refine zm ?_;refine zc ?_;refine zm ?_;refine AL.caseG rfl rfl (fun h0 => ?_) (fun h0 => ?_)
 ·refine zy ?_;refine zm ?_;refine zy ?_;refine zm ?_;refine zy ?_;refine zc ?_;refine zQ ?_;refine za ?_;refine AL.nil (th_n (AC.ret (bq_r ?_)));exact ret1 rfl (by simp [h0])
 refine zn ?_;refine zn ?_;refine zn ?_;refine zP ?_;refine za ?_;refine AL.nil (th_n (AC.ret (bq_r ?_)));exact ret1 rfl (by simp [h0])
theorem en_l1In : Enters Tryz.prog 70 := enters_of Tryz.func70 rfl rfl
structure Net where
 places : Int
 ts : List Tn
 deriving DecidableEq
structure NetB (n : Net) : Prop where
 p : -1000000 ≤ n.places ∧ n.places ≤ 1000000
 l : n.ts.length ≤ 1000000
 t : ∀ t, t ∈ n.ts → t.pre.length ≤ 1000000 ∧ t.post.length ≤ 1000000
structure NetL (n : Net) : Prop where
 p : -9223372036854775808 ≤ n.places ∧ n.places ≤ 9223372036854775807
 l : n.ts.length ≤ 2000000
 t : ∀ t, t ∈ n.ts → t.pre.length ≤ 2000000 ∧ t.post.length ≤ 2000000
theorem NetB.L {n : Net} (h : NetB n) : NetL n := ⟨by have := h.p; omega, by have := h.l; omega, fun t ht => by have := h.t t ht; omega⟩
def bit (b : UInt8) : Bool := decide ((b.toNat : Int) = 48) || decide ((b.toNat : Int) = 49)
def bitsB (m : List UInt8) (n : Int) : Bool := m.all bit && decide ((m.length : Int) = n)
theorem bstr_at {l : List UInt8} {k : Nat} (h : k < l.length) : (bstr l).data.toList[k]? = some l[k] := by
 rw [bstr_data, List.getElem?_eq_getElem h]
theorem all_bits {m : List UInt8} (h : ∀ j (hj : j < m.length), bit m[j] = true) : m.all bit = true := List.all_eq_true.2 (fun x hx => by obtain ⟨j, hj, rfl⟩ := List.getElem_of_mem hx; exact h j hj)
theorem not_bits {m : List UInt8} {j : Nat} (hj : j < m.length) (h : bit m[j] = false) : m.all bit = false := List.all_eq_false.2 ⟨_, List.getElem_mem hj, by simp [h]⟩
theorem bstr_getD {l : List UInt8} {k : Nat} (h : k < l.length) : (bstr l).data.toList[k]? = some (l.getD k 0) := by
 rw [bstr_data, List.getElem?_eq_getElem h]; simp [List.getD, List.getElem?_eq_getElem h]
structure Cur where
 code : List UInt8
 pos : Nat
 seed : Int
abbrev bytesL (l : List UInt8) : List (List DV) := l.map fun b => [dB b]
abbrev vB (l : List UInt8) : DV := .view 5 1 (bytesL l)
abbrev curC (c : Cur) : Chunk := .cells 53 [.d (vB c.code), aI c.pos, .d (.val (.int .u64 c.seed))]
def cur0 (code : List UInt8) : Cur := ⟨code, 0, 0⟩
theorem bytes_get {l : List UInt8} {k : Nat} (h : k < l.length) : (bytesL l)[k]? = some [dB (l.getD k 0)] := by
 simp [bytesL, List.getElem?_map, List.getElem?_eq_getElem h, List.getD]
def Cur.byte (c : Cur) : Int := if c.pos < c.code.length then ((c.code.getD c.pos 0).toNat : Int) else 0
def Cur.turn (c : Cur) : Int := IntKind.u64.wrap (IntKind.u64.wrap (IntKind.u64.wrap (c.seed * 6364136223846793005) + c.byte) + 1442695040888963407)
def drawn (seed : Int) : Int := IntKind.i64.wrap (IntKind.u64.wrap (BitVec.ofInt 64 (seed.fdiv (2 ^ (min (40 : Int).toNat 64))) &&& BitVec.ofInt 64 255).toNat)
def Cur.after (c : Cur) : Cur := ⟨c.code, c.pos + 1, c.turn⟩
def Cur.next (c : Cur) : Int := if c.pos + 1 ≤ c.code.length then c.byte else drawn c.turn
theorem Cur.byte_in (c : Cur) : 0 ≤ c.byte ∧ c.byte ≤ 255 := by
 unfold Cur.byte
 split
 ·have := (c.code.getD c.pos 0).toNat_lt; omega
 omega
set_option maxHeartbeats 1000000 in
theorem next_spec (c : Cur) (hp : c.pos ≤ 1000000000000000) : ASpec Tryz.prog 88 [.ptr 0 0] [(0, curC c)] (Fun1 (aI c.next) [(0, curC c.after)]) := by
 refine ASpec.of Tryz.func88 rfl rfl fun C hC => ?_
 refine AC.seq (AC.region ?_);refine za ?_;refine AL.nil (th_n (AC.seq (AC.region ?_)));refine za ?_;refine AL.nil (th_n ?_);refine AC.cut (fun (_ : Unit) => ⟨62, 1, [(0, .ptr 0 0), (3, aI c.byte)], [(0, some (curC c))]⟩) (fun _ => True) ?_ ?_
 ·refine AC.seq ?_;refine AC.drawn' mixed_ok [[], [0], [0,1], [0,1,2], [], [4], [4,5], [4,5,6], [4,5,6,7], [0,1,2,3,4,5,6,7,8]] (by decide) ?_;refine zd 0 [] 10 (by exact mv3 rfl) ?_;refine zd 1 [0] 10 (by exact g_nilP rfl) ?_;refine zd 2 [0,1] 10 (by exact g_fa_ptr rfl rfl rfl rfl rfl) ?_;refine zd 3 [0,1,2] 10 (by exact g_load_ptr rfl rfl rfl rfl rfl) ?_;refine zd 4 [] 10 (by exact mv3 rfl) ?_;refine zd 5 [4] 10 (by exact g_nilP rfl) ?_;refine zd 6 [4,5] 10 (by exact g_fa_ptr rfl rfl rfl rfl rfl) ?_;refine zd 7 [4,5,6] 10 (by exact g_load_ptr rfl rfl rfl rfl rfl) ?_;refine zd 8 [4,5,6,7] 10 (by exact g_len_view rfl rfl (by exact List.length_map _)) ?_;refine zd 9 (List.range 9) 10 (by exact g_cmp rfl rfl rfl) ?_;refine zj 10 ?_;refine th_n ?_;refine AC.condD rfl (fun h0 => ?_) (fun h0 => ?_)
  ·have hk : c.pos < c.code.length := by omega
   have hget : (bytesL c.code)[c.pos]? = some [dB (c.code.getD c.pos 0)] := bytes_get hk;have hlt := (c.code.getD c.pos 0).toNat_lt;refine AC.drawn' mixed_ok [[], [0], [0,1], [0,1,2], [], [4], [4,5], [4,5,6], [0,1,2,3,4,5,6,7], [0,1,2,3,4,5,6,7,8], [0,1,2,3,4,5,6,7,8,9], [0,1,2,3,4,5,6,7,8,9,10]] (by decide) ?_;refine zd 0 [] 12 (by exact mv3 rfl) ?_;refine zd 1 [0] 12 (by exact g_nilP rfl) ?_;refine zd 2 [0,1] 12 (by exact g_fa_ptr rfl rfl rfl rfl rfl) ?_;refine zd 3 [0,1,2] 12 (by exact g_load_ptr rfl rfl rfl rfl rfl) ?_;refine zd 4 [] 12 (by exact mv3 rfl) ?_;refine zd 5 [4] 12 (by exact g_nilP rfl) ?_;refine zd 6 [4,5] 12 (by exact g_fa_ptr rfl rfl rfl rfl rfl) ?_;refine zd 7 [4,5,6] 12 (by exact g_load_ptr rfl rfl rfl rfl rfl) ?_;refine zd 8 [0,1,2,3,4,5,6,7] 12 (by exact g_ia_view rfl rfl rfl rfl rfl (by rfl) (by assumption)) ?_;refine zd 9 (List.range 9) 12 (by exact g_load_ref rfl rfl rfl) ?_;refine zd 10 (List.range 10) 12 (by exact g_convI rfl rfl rfl (by exact wrap_i64 (by omega))) ?_;refine zd 11 (List.range 11) 12 (by exact as1 rfl) ?_;refine zj 12 ?_;refine th_n ?_;have hb : c.byte = if c.pos < c.code.length then ((c.code.getD c.pos 0).toNat : Int) else 0 := rfl
   exact ⟨(), trivial, Weak.ren _ [] hC rfl (by refine ⟨?_, ?_, ?_⟩; repeat (refine ⟨_, rfl, ?_⟩); (try (exact DLead.eqI (by rw [hb]; split <;> omega))); repeat (first | exact True.intro | exact DLead.eqI (by omega) | exact rfl)) (by repeat (first | exact True.intro | refine And.intro ?_ ?_ | exact DLead.same | exact rfl | refine ⟨_, _, rfl, rfl, ?_⟩ | refine ⟨_, rfl, ?_⟩ | refine ⟨_, _, rfl, ?_, ?_⟩)) rfl rfl rfl⟩
  refine AC.skip (th_n ?_);have hb : c.byte = if c.pos < c.code.length then ((c.code.getD c.pos 0).toNat : Int) else 0 := rfl
  exact ⟨(), trivial, Weak.ren _ [] hC rfl (by refine ⟨?_, ?_, ?_⟩; repeat (refine ⟨_, rfl, ?_⟩); (try (exact DLead.eqI (by rw [hb]; split <;> omega))); repeat (first | exact True.intro | exact DLead.eqI (by omega) | exact rfl)) (by repeat (first | exact True.intro | refine And.intro ?_ ?_ | exact DLead.same | exact rfl | refine ⟨_, _, rfl, rfl, ?_⟩ | refine ⟨_, rfl, ?_⟩ | refine ⟨_, _, rfl, ?_, ?_⟩)) rfl rfl rfl⟩
 intro _ _;have hbi := c.byte_in;refine AC.seq (AC.region ?_);refine AL.p (by exact mv3 rfl) rfl ?_;refine AL.p (by exact g_nilP rfl) rfl ?_;refine zF ?_;refine zl ?_;refine zA ?_;refine AL.p (by exact g_nilP rfl) rfl ?_;refine zF ?_;refine zs ?_;refine AL.nil (th_n (AC.seq (AC.region ?_)));refine AL.p (by exact mv3 rfl) rfl ?_;refine AL.p (by exact mv3 rfl) rfl ?_;refine AL.p (by exact g_nilP rfl) rfl ?_;refine zF ?_;refine zl ?_;refine AL.p (by exact g_arith rfl rfl rfl (by rfl)) rfl ?_;refine zm ?_;refine AL.p (by exact g_convI rfl rfl rfl (by exact wrap_u64 (by omega))) rfl ?_;refine AL.p (by exact g_arith rfl rfl rfl (by rfl)) rfl ?_;refine AL.p (by exact g_arith rfl rfl rfl (by rfl)) rfl ?_;refine AL.p (by exact g_nilP rfl) rfl ?_;refine zF ?_;refine zs ?_;refine AL.nil (th_n (AC.seq (AC.seq ?_)));refine AC.drawn' mixed_ok [[], [0], [0,1], [0,1,2], [], [4], [4,5], [4,5,6], [4,5,6,7], [0,1,2,3,4,5,6,7,8]] (by decide) ?_;refine zd 0 [] 10 (by exact mv3 rfl) ?_;refine zd 1 [0] 10 (by exact g_nilP rfl) ?_;refine zd 2 [0,1] 10 (by exact g_fa_ptr rfl rfl rfl rfl rfl) ?_;refine zd 3 [0,1,2] 10 (by exact g_load_ptr rfl rfl rfl rfl rfl) ?_;refine zd 4 [] 10 (by exact mv3 rfl) ?_;refine zd 5 [4] 10 (by exact g_nilP rfl) ?_;refine zd 6 [4,5] 10 (by exact g_fa_ptr rfl rfl rfl rfl rfl) ?_;refine zd 7 [4,5,6] 10 (by exact g_load_ptr rfl rfl rfl rfl rfl) ?_;refine zd 8 [4,5,6,7] 10 (by exact g_len_view rfl rfl (by exact List.length_map _)) ?_;refine zd 9 (List.range 9) 10 (by exact g_cmp rfl rfl rfl) ?_;refine zj 10 ?_;refine th_n ?_;refine AC.condD rfl (fun h0 => ?_) (fun h0 => ?_)
 ·refine AC.seq (AC.region ?_);refine zm ?_;refine za ?_;refine AL.nil (th_n (AC.ret (th_r (bq_r ?_))));exact retF rfl (by show DLead _ _; exact DLead.eqI (by unfold Cur.next; rw [if_pos (by omega)])) (by repeat (first | exact True.intro | refine And.intro ?_ ?_ | exact DLead.same | exact rfl | refine ⟨_, _, rfl, rfl, ?_⟩ | refine ⟨_, rfl, ?_⟩ | refine ⟨_, _, rfl, ?_, ?_⟩)) rfl
 refine AC.skip (th_n (AC.seq (AC.region ?_)));refine AL.p (by exact mv3 rfl) rfl ?_;refine AL.p (by exact g_nilP rfl) rfl ?_;refine zF ?_;refine zl ?_;refine AL.p (by exact g_shr rfl rfl (by decide) (by rfl)) rfl ?_;refine AL.p (by exact g_bits rfl rfl rfl) rfl ?_;refine AL.p (by exact g_convI rfl rfl rfl (by rfl)) rfl ?_;refine za ?_;refine AL.nil (th_n (AC.ret (bq_r ?_)));exact retF rfl (by show DLead _ _; exact DLead.eqI (by unfold Cur.next; rw [if_neg (by omega)]; rfl)) (by repeat (first | exact True.intro | refine And.intro ?_ ?_ | exact DLead.same | exact rfl | refine ⟨_, _, rfl, rfl, ?_⟩ | refine ⟨_, rfl, ?_⟩ | refine ⟨_, _, rfl, ?_, ?_⟩)) rfl
theorem en_next : Enters Tryz.prog 88 := enters_of Tryz.func88 rfl rfl
set_option maxHeartbeats 1000000 in
theorem big_spec (a b : List UInt8) (ha : a.length ≤ 9223372036854775807) (hb : b.length ≤ 9223372036854775807) : ASpec Tryz.prog 5 [.d (vB a), .d (vB b)] [] (Pure1 (aT (decide ((a.length : Int) > 1048576) || decide ((b.length : Int) > 1048576 - a.length)))) := by
 refine ASpec.of Tryz.func5 rfl rfl fun C hC => ?_
 refine AC.seq (AC.region ?_);refine za ?_;refine AL.nil (th_n (AC.seq (AC.region ?_)));refine zm ?_;refine kH ?_;refine zc ?_;refine zm ?_;refine AL.caseG rfl rfl (fun h0 => ?_) (fun h0 => ?_)
 ·refine zn ?_;refine zn ?_;refine zn ?_;refine zn ?_;refine zn ?_;refine zn ?_;refine zQ ?_;refine za ?_;refine AL.nil (th_n (AC.ret (bq_r ?_)));exact ret1 rfl (by simp [h0])
 refine zy ?_;refine zm ?_;refine zy ?_;refine kH ?_;refine zy ?_;refine zm ?_;refine zy ?_;refine kH ?_;refine zy ?_;refine zA ?_;refine zy ?_;refine zc ?_;refine zP ?_;refine za ?_;refine AL.nil (th_n (AC.ret (bq_r ?_)));exact ret1 rfl (by simp [h0])
theorem en_big : Enters Tryz.prog 5 := enters_of Tryz.func5 rfl rfl
section
variable {P : Program} [PT P]
variable {s : ASt} {dst : Option Nat} {ty : Nat} {pos : String} {af : Array Edge} {gd : Option (Nat × Bool)} {x y : Operand} {t u f : Nat}
theorem retN (ρ : List (Nat × Nat)) {fn : Func} {k : Nat} {x r : AV} {chs' : List (Nat × Chunk)} (hx : resAV P s fn.results.toList = some x) (h : r.leads (sig k ρ) x) (hc : leadsC (sig k ρ) s (chL chs')) (ha : apartL (sig k ρ) (keysC (chL chs')) = true) (hρ : ρ.all (fun p => Nat.blt p.1 (k + 8)) = true) : RetQ P fn k (Fun1 r chs') s :=
  ⟨⟨x, r, chs', ρ, hx, ⟨rfl, rfl⟩, h, fun id c hc' => (leadsC_get hc id c (by rw [getL_chL]; exact hc')).1, fun id hid => by
    have : Nat.blt id k = false := by cases hb : Nat.blt id k with
      | true => have : id < k := by simpa using hb
                omega
      | false => rfl
    have h2 : getL id ρ = none := by
      cases hg : getL id ρ with
      | none => rfl
      | some v =>
        have : ∀ (l : List (Nat × Nat)), l.all (fun p => Nat.blt p.1 (k + 8)) = true → getL id l = some v → id < k + 8 := by
          intro l
          induction l with
          | nil => intro _ h; simp [getL] at h
          | cons p l ih =>
            intro h1 h2;rw [getL_cons] at h2;simp only [List.all_cons, Bool.and_eq_true] at h1
            split at h2
            · rename_i e; have := h1.1; rw [e]; simpa using this
            exact ih h1.2 h2
        have := this ρ hρ hg;omega
    simp [sig, this, h2], fun id id' j h1 h2 h3 h4 => by
    obtain ⟨c, h1⟩ := h1;obtain ⟨c', h2⟩ := h2
    exact apartL_inj ha id id' j (leadsC_get hc id c (by rw [getL_chL]; exact h1)).2 (leadsC_get hc id' c' (by rw [getL_chL]; exact h2)).2 h3 h4⟩⟩
end
def Cur.pick (c : Cur) (n : Int) : Int × Cur :=
 if n ≤ 1 then (0, c) else if 200 < n then ((c.next * 256 + c.after.next).tmod n, c.after.after) else (c.next.tmod n, c.after)
theorem drawn_in (s : Int) : 0 ≤ drawn s ∧ drawn s ≤ 255 := by
 unfold drawn
 have h1 : (BitVec.ofInt 64 (s.fdiv (2 ^ (min (40 : Int).toNat 64))) &&& BitVec.ofInt 64 255).toNat ≤ 255 := by
  rw [BitVec.toNat_and];exact Nat.le_trans Nat.and_le_right (by decide)
 generalize (BitVec.ofInt 64 (s.fdiv (2 ^ (min (40 : Int).toNat 64))) &&& BitVec.ofInt 64 255).toNat = x at h1;have h2 : IntKind.u64.wrap (x : Int) = x := wrap_u64 (by omega);rw [h2, wrap_i64 (by omega)];omega
theorem Cur.next_in (c : Cur) : 0 ≤ c.next ∧ c.next ≤ 255 := by
 unfold Cur.next
 split
 ·exact c.byte_in
 exact drawn_in _
theorem Cur.pick_in (c : Cur) (n : Int) (h : 1 ≤ n) : 0 ≤ (c.pick n).1 ∧ (c.pick n).1 < n := by
 have h1 := c.next_in;have h2 := c.after.next_in;unfold Cur.pick
 split
 ·exact ⟨Int.le_refl _, by show (0 : Int) < n; omega⟩
 split
 ·exact ⟨Int.tmod_nonneg _ (by omega), Int.tmod_lt_of_pos _ (by omega)⟩
 exact ⟨Int.tmod_nonneg _ (by omega), Int.tmod_lt_of_pos _ (by omega)⟩
theorem Cur.pick_pos (c : Cur) (n : Int) : (c.pick n).2.pos ≤ c.pos + 2 := by
 unfold Cur.pick
 split
 ·show c.pos ≤ _; omega
 split
 ·show c.pos + 1 + 1 ≤ _; omega
 show c.pos + 1 ≤ _; omega
set_option maxHeartbeats 1000000 in
theorem pick_spec (c : Cur) (n : Int) (hn : n ≤ 65536) (hp : c.pos ≤ 100000000000000) : ASpec Tryz.prog 53 [.ptr 0 0, aI n] [(0, curC c)] (Fun1 (aI (c.pick n).1) [(0, curC (c.pick n).2)]) := by
 have hi := c.next_in;have hi2 := c.after.next_in;have hpa : c.after.pos ≤ 1000000000000000 := by show c.pos + 1 ≤ _; omega
 refine ASpec.of Tryz.func53 rfl rfl fun C hC => ?_
 refine AC.seq (AC.region ?_);refine za ?_;refine AL.nil (th_n (AC.seq (AC.seq (AC.region ?_))));refine zm ?_;refine zc ?_;refine AL.nil (th_n ?_);refine AC.condD rfl (fun h0 => ?_) (fun h0 => ?_)
 ·refine AC.seq (AC.region ?_);refine za ?_;refine AL.nil (th_n (AC.ret (th_r (bq_r ?_))));have e : c.pick n = (0, c) := by unfold Cur.pick; rw [if_pos h0]
  exact retF rfl (by rw [e]; repeat (exact DLead.same)) (by rw [e]; repeat (first | exact True.intro | refine And.intro ?_ ?_ | exact DLead.same | exact rfl | refine ⟨_, _, rfl, rfl, ?_⟩ | refine ⟨_, rfl, ?_⟩ | refine ⟨_, _, rfl, ?_, ?_⟩)) rfl
 refine AC.skip (th_n (AC.seq (AC.region ?_)));refine AL.p (by exact mv3 rfl) rfl ?_;refine AL.q (by exact h_fun (cs := [0]) en_next rfl rfl (by repeat (first | exact rfl | refine ⟨_, _, rfl, ?_, ?_⟩ | refine ⟨_, rfl, ?_⟩)) (by repeat (first | exact True.intro | refine And.intro ?_ ?_ | exact DLead.same | exact rfl | refine ⟨_, _, rfl, rfl, ?_⟩ | refine ⟨_, rfl, ?_⟩ | refine ⟨_, _, rfl, ?_, ?_⟩)) (next_spec _ (by omega)) rfl rfl rfl rfl) rfl ?_;refine za ?_;refine AL.nil (th_n (AC.seq (AC.seq (AC.region ?_))));refine zm ?_;refine zc ?_;refine AL.nil (th_n ?_);refine AC.condD rfl (fun h1 => ?_) (fun h1 => ?_)
 ·refine AC.region ?_;refine zm ?_;refine zA ?_;refine AL.p (by exact mv3 rfl) rfl ?_;refine AL.q (by exact h_fun (cs := [0]) en_next rfl rfl (by repeat (first | exact rfl | refine ⟨_, _, rfl, ?_, ?_⟩ | refine ⟨_, rfl, ?_⟩)) (by repeat (first | exact True.intro | refine And.intro ?_ ?_ | exact DLead.same | exact rfl | refine ⟨_, _, rfl, rfl, ?_⟩ | refine ⟨_, rfl, ?_⟩ | refine ⟨_, _, rfl, ?_, ?_⟩)) (next_spec _ (by assumption)) rfl rfl rfl rfl) rfl ?_;refine zA ?_;refine za ?_;refine AL.nil (th_n (AC.seq (AC.region ?_)));refine zm ?_;refine zm ?_;refine AL.p (by exact g_rem rfl rfl (by omega) rfl) rfl ?_;refine za ?_;refine AL.nil (th_n (AC.ret (bq_r ?_)))
  (have e : c.pick n = ((c.next * 256 + c.after.next).tmod n, c.after.after) := (by unfold Cur.pick; rw [if_neg h0, if_pos h1]); exact retF rfl (by rw [e]; repeat (exact DLead.same)) (by rw [e]; repeat (first | exact True.intro | refine And.intro ?_ ?_ | exact DLead.same | exact rfl | refine ⟨_, _, rfl, rfl, ?_⟩ | refine ⟨_, rfl, ?_⟩ | refine ⟨_, _, rfl, ?_, ?_⟩)) rfl)
 refine AC.skip (th_n (AC.seq (AC.region ?_)));refine zm ?_;refine zm ?_;refine AL.p (by exact g_rem rfl rfl (by omega) rfl) rfl ?_;refine za ?_;refine AL.nil (th_n (AC.ret (bq_r ?_)))
 (have e : c.pick n = (c.next.tmod n, c.after) := (by unfold Cur.pick; rw [if_neg h0, if_neg h1]); exact retF rfl (by rw [e]; repeat (exact DLead.same)) (by rw [e]; repeat (first | exact True.intro | refine And.intro ?_ ?_ | exact DLead.same | exact rfl | refine ⟨_, _, rfl, rfl, ?_⟩ | refine ⟨_, rfl, ?_⟩ | refine ⟨_, _, rfl, ?_, ?_⟩)) rfl)
theorem en_pick : Enters Tryz.prog 53 := enters_of Tryz.func53 rfl rfl
theorem one_spec (c : Cur) (n : Int) (hn : n ≤ 65536) (hp : c.pos ≤ 100000000000000) : ASpec Tryz.prog 86 [.ptr 0 0, aI n] [(0, curC c)] (Fun1 (aT (decide ((c.pick n).1 = 0))) [(0, curC (c.pick n).2)]) := by
 refine ASpec.of Tryz.func86 rfl rfl fun C hC => ?_
 refine AC.seq (AC.region ?_);refine za ?_;refine AL.nil (th_n (AC.seq (AC.region ?_)));refine AL.p (by exact mv3 rfl) rfl ?_;refine zm ?_;refine AL.q (by exact h_fun (cs := [0]) en_pick rfl rfl (by repeat (first | exact rfl | exact DLead.same | refine ⟨_, _, rfl, ?_, ?_⟩ | refine ⟨_, rfl, ?_⟩)) (by repeat (first | exact True.intro | refine And.intro ?_ ?_ | exact DLead.same | exact rfl | refine ⟨_, _, rfl, rfl, ?_⟩ | refine ⟨_, rfl, ?_⟩ | refine ⟨_, _, rfl, ?_, ?_⟩)) (pick_spec _ _ (by assumption) (by assumption)) rfl rfl rfl rfl) rfl ?_;refine zc ?_;refine za ?_;refine AL.nil (th_n (AC.ret (bq_r ?_)));exact retF rfl (by repeat (exact DLead.same)) (by repeat (first | exact True.intro | refine And.intro ?_ ?_ | exact DLead.same | exact rfl | refine ⟨_, _, rfl, rfl, ?_⟩ | refine ⟨_, rfl, ?_⟩ | refine ⟨_, _, rfl, ?_, ?_⟩)) rfl
theorem en_one : Enters Tryz.prog 86 := enters_of Tryz.func86 rfl rfl
def putI (l : List Int) (x : Int) : List Int :=
 if l[l.findIdx (fun y => decide (x ≤ y))]? = some x then l else l.take (l.findIdx (fun y => decide (x ≤ y))) ++ [x] ++ l.drop (l.findIdx (fun y => decide (x ≤ y)))
def subN (n : Int) : Nat → Cur → List Int → List Int × Cur
 | 0, c, s => (s, c)
 | j + 1, c, s => subN n j (c.pick n).2 (putI s (c.pick n).1)
def Cur.subset (c : Cur) (n k : Int) : List Int × Cur := subN n (1 + (c.pick k).1).toNat (c.pick k).2 []
theorem of_spec (c : Cur) (els : List (List DV)) (st : ByteArray) (h0 : 0 < els.length) (hl : els.length ≤ 65536) (hp : c.pos ≤ 100000000000000) (hget : els[(c.pick els.length).1.toNat]? = some [dS st]) : ASpec Tryz.prog 87 [.ptr 0 0, .d (.view 9 1 els)] [(0, curC c)] (Fun1 (aS st) [(0, curC (c.pick els.length).2)]) := by
 have hi := c.pick_in els.length (by omega);have hI : (c.pick els.length).1 = (((c.pick els.length).1.toNat : Nat) : Int) := by omega
 refine ASpec.of Tryz.func87 rfl rfl fun C hC => ?_
 refine AC.seq (AC.region ?_);refine za ?_;refine AL.nil (th_n (AC.seq (AC.region ?_)));refine zm ?_;refine AL.p (by exact mv3 rfl) rfl ?_;refine zm ?_;refine AL.p (by exact g_len_view rfl rfl (by rfl)) rfl ?_;refine AL.q (by exact h_fun (cs := [0]) en_pick rfl rfl (by repeat (first | exact rfl | exact DLead.same | refine ⟨_, _, rfl, ?_, ?_⟩ | refine ⟨_, rfl, ?_⟩)) (by repeat (first | exact True.intro | refine And.intro ?_ ?_ | exact DLead.same | exact rfl | refine ⟨_, _, rfl, rfl, ?_⟩ | refine ⟨_, rfl, ?_⟩ | refine ⟨_, _, rfl, ?_, ?_⟩)) (pick_spec _ _ (by omega) (by assumption)) rfl rfl rfl rfl) rfl ?_;refine AL.p (by exact g_ia_view rfl rfl rfl rfl rfl (by assumption) (by assumption)) rfl ?_;refine zr ?_;refine za ?_;refine AL.nil (th_n (AC.ret (bq_r ?_)));exact retF rfl (by repeat (exact DLead.same)) (by repeat (first | exact True.intro | refine And.intro ?_ ?_ | exact DLead.same | exact rfl | refine ⟨_, _, rfl, rfl, ?_⟩ | refine ⟨_, rfl, ?_⟩ | refine ⟨_, _, rfl, ?_, ?_⟩)) rfl
theorem en_of : Enters Tryz.prog 87 := enters_of Tryz.func87 rfl rfl
theorem bstr_cut (s : List UInt8) {l h : Nat} (hl : l ≤ h) (hh : h ≤ s.length) : (bstr s).extract l h = bstr ((s.take h).drop l) := by
 have : ((bstr s).extract l h).data.toList = (s.take h).drop l := by
  simp [bstr, ByteArray.data_extract, List.extract_eq_drop_take, List.drop_take]
 rw [← bstr_of ((bstr s).extract l h), this]
section
variable {P : Program} [PT P] {C : Ctx} {s : ASt}
theorem own_view {m : Nat → Option (Option Nat × Nat)} {F F' : Nat → Prop} {w : World} {id n e sz : Nat} {els : List (List DV)} {v : Value} {p : Option Nat × Nat} (hv : ARep m F w (.own id n) v) (hp : m id = some p) (hC : CRep m F w p (.arr e sz els)) (hn : n ≤ els.length) (hF : ∀ q, F q → F' q) (hFb : ∀ b, p.1 = some b → F' b) : DRep F' w (.view e sz (els.take n)) v := by
 cases hv with
 | own hp' h0 =>
  rename_i cap b;rw [hp] at hp';simp only [Option.some.injEq] at hp';subst hp';cases hC with
  | nil h =>
   have : n = 0 := by simpa using hn
   subst this;exact .nil
  | arr hb hf hsz hl hm h0' hrow hel =>
   rename_i b arr fz;have hlen : (els.take n).length = n := by simp; omega
   have hsub : ∀ (i : Nat) cs, (els.take n)[i]? = some cs → els[i]? = some cs := by
    intro i cs hi;rw [List.getElem?_take] at hi
    split at hi
    ·exact hi
    cases hi
   have := DRep.view (F := F') (w := w) (e := e) (sz := sz) (els := els.take n) (off := 0) (cap := cap) (hFb b rfl) hb (by omega) hm (by omega) (fun i cs hi => hrow i cs (hsub i cs hi)) (fun i cs j d hi hj => by rw [Nat.zero_add]; exact (hel i cs j d (hsub i cs hi) hj).mono hF);rw [hlen] at this;exact this
end
open Go.ChangeShapes Go.WideShapes Go.ChangeAt Go.RowKit
theorem rowAt_le {p : Program} {fits : TypeId → Bool} {e : TypeId} {count off n : Nat} : ∀ {d : Nat}, rowAt p fits d e count off n = true → off ≤ count * p.cellsOf e
 | 0, h => by simp [rowAt] at h
 | d + 1, h => by
  unfold rowAt at h
  by_cases hs : p.cellsOf e = 0
  ·simp [hs] at h
  simp only [hs, if_false, Bool.or_eq_true, Bool.and_eq_true, beq_iff_eq, decide_eq_true_eq] at h;have hp : 0 < p.cellsOf e := by omega
  have hd := Nat.div_add_mod off (p.cellsOf e);rcases h with ⟨⟨h1, h2⟩, _⟩ | ⟨h1, _⟩
  ·have : p.cellsOf e * (off / p.cellsOf e) ≤ count * p.cellsOf e := by rw [Nat.mul_comm count]; exact Nat.mul_le_mul_left _ (by omega)
   omega
  have h3 : p.cellsOf e * (off / p.cellsOf e + 1) ≤ count * p.cellsOf e := by rw [Nat.mul_comm count]; exact Nat.mul_le_mul_left _ (by omega)
  have := Nat.mod_lt off hp;rw [Nat.mul_add, Nat.mul_one] at h3;omega
theorem lies_le {p : Program} {e u : TypeId} {cells off n d : Nat} (hu : ∀ m u', p.underlying u ≠ some (.array m u')) (h : liesAt p d e (cells / p.cellsOf e) off u n = true) : off ≤ cells := by
 cases d with
 | zero => simp [liesAt] at h
 | succ d =>
  unfold liesAt at h;rw [Bool.or_eq_true] at h;rcases h with h | h
  ·have := rowAt_le h;exact Nat.le_trans this (Nat.div_mul_le_self _ _)
  split at h
  ·rename_i m u' e2; exact absurd e2 (hu m u')
  cases h
theorem byte_of {n : Int} (h : (Lit.int .u8 n).wf = true) : n = (((UInt8.ofNat n.toNat).toNat : Nat) : Int) := by
 have := bounds_u8 h
 have e : (UInt8.ofNat n.toNat).toNat = n.toNat := by
  rw [UInt8.toNat_ofNat'];exact Nat.mod_eq_of_lt (by omega)
 rw [e]; omega
theorem okWide_has {P : Program} {w : World} {r : Reach} {base : Nat} {t e : TypeId} {a : Addr} {len cap : Nat} (ht : P.underlying t = some (.slice e)) (h : Value.okWide P w r base t (.slice (some a) len cap)) : w.has P r base a e cap := by
 simp only [Value.okWide, ht, Cell.okWide, Cell.ok] at h;exact h.2.2
theorem arg_bytes {H : Type} {enc : TypeId × Value → H} {P : Program} {W : World} {t e te base : Nat} {v : Value} {d : DataW H} {ps : List MemPlace} (ht : P.underlying t = some (.slice e)) (he : P.underlying e = some (.int .u8)) (hc : P.cellsOf e = 1)
  (hval : Value.okWide P W .any base t v) (h : DataW.Trod enc P W 0 (fun _ => true) true t v d ps) :
  ∃ xs : List UInt8, xs.length ≤ 9223372036854775807 ∧ DRep (fun k => k < W.heap.size) W (.view te 1 (xs.map fun b => [dB b])) v := by
 obtain ⟨a0, len, cap, rfl⟩ := okWide_slice ht hval;obtain ⟨fuel, hf⟩ := h;rcases open_ints ht he hc hf with ⟨hcs, hx⟩ | ⟨a, len', cap', zs, hcs, _, hl, hm, hz, hx, hcell, hwz⟩
 ·simp [Value.cells] at hcs;obtain ⟨rfl, rfl, rfl⟩ := hcs;exact ⟨[], Nat.zero_le _, .nil⟩
 simp [Value.cells] at hcs;obtain ⟨rfl, rfl, rfl⟩ := hcs;simp only [if_true] at hz;obtain ⟨_, hspot, row, cells, hsh, hlies⟩ := okWide_has ht hval;have hoff : a.off ≤ cells := lies_le (fun m u' hh => by rw [he] at hh; cases hh) hlies;unfold World.shape? at hsh
 split at hsh
 ·rename_i arr el fz hb;simp only [Option.some.injEq, Prod.mk.injEq] at hsh;obtain ⟨rfl, rfl⟩ := hsh;obtain ⟨b, off, spot⟩ := a;simp only at hspot hb hoff;subst hspot
  have hat : ∀ i, i < zs.length → arr[off + i]? = some (.int .u8 (zs.getD i 0)) := by
   intro i hi;have := hcell i hi;rw [add_plain] at this;unfold World.cell? at this;simpa [hb] using this
  have hsz : off + cap ≤ arr.size := by
   by_cases hc0 : cap = 0
   ·omega
   have := hat (cap - 1) (by omega);have := (Array.getElem?_eq_some_iff.1 this).1;omega
  refine ⟨(zs.take len).map fun n => UInt8.ofNat n.toNat, ?_, ?_⟩
  ·rw [List.length_map, List.length_take];have : cap ≤ 9223372036854775807 := hm;omega
  have hle : (((zs.take len).map fun n => UInt8.ofNat n.toNat).map fun b => [dB b]).length = len := by
   rw [List.length_map, List.length_map, List.length_take]; omega
  have hv := DRep.view (F := fun k => k < W.heap.size) (w := W) (e := te) (sz := 1) (els := ((zs.take len).map fun n => UInt8.ofNat n.toNat).map fun b => [dB b]) (b := b) (off := off) (cap := cap) (arr := arr) (lt_of_block hb) hb (by omega) hm (by omega) (fun i cs hi => ?_) (fun i cs j d hi hj => ?_)
  ·rw [hle] at hv; exact hv
  ·rw [List.getElem?_map] at hi;cases hh : ((zs.take len).map fun n => UInt8.ofNat n.toNat)[i]? with
   | none => rw [hh] at hi; cases hi
   | some b => rw [hh] at hi; cases hi; rfl
  rw [List.getElem?_map, List.getElem?_map] at hi;cases hh : (zs.take len)[i]? with
  | none => rw [hh] at hi; cases hi
  | some n =>
   rw [hh] at hi;cases hi;obtain ⟨hi1, hi2⟩ := List.getElem?_eq_some_iff.1 hh;rw [List.length_take] at hi1;rw [List.getElem_take] at hi2;have hw := hwz n (by rw [← hi2]; exact List.getElem_mem _);cases j with
   | succ j => simp at hj
   | zero =>
    simp only [List.getElem?_cons_zero, Option.some.injEq] at hj;subst hj;have hai := hat i (by omega);have hgd : zs.getD i 0 = n := by rw [List.getD_eq_getElem?_getD, List.getElem?_eq_getElem (by omega), hi2]; rfl
    rw [hgd] at hai
    have : arr.getD (off + i * 1 + 0) undef = .int .u8 n := by
     rw [Nat.mul_one, Nat.add_zero, Array.getD_eq_getD_getElem?, hai]; rfl
    rw [this];have hb8 := byte_of hw;generalize (UInt8.ofNat n.toNat) = b8 at hb8;subst hb8;refine .val ?_;show IntKind.u8.wrap _ = _;rw [wrap_ok];have := UInt8.toNat_lt b8;exact ⟨by show (0 : Int) ≤ _; omega, by show _ ≤ (255 : Int); omega⟩
 cases hsh
theorem ASpec.law {P : Program} {f : FuncId} {ars : List AV} {W : World} {vs : Array Value} (h : ASpec P f ars [] (Pure1 (aT true))) (hn : vs.size = ars.length) (ha : ∀ (i : Nat) x, ars[i]? = some x → ARep (fun _ => none) (fun k => k < W.heap.size) W x (vs.getD i undef)) :
  Calls P f vs W fun e W' => e = .returned (.bool true) ∧ Below W.heap.size W W' := by
 refine (h W (fun _ => none) (fun k => k < W.heap.size) vs (fun k hk => ⟨hk, fun id c p hc => by simp [getL] at hc⟩) hn ha (fun id c hc => by simp [getL] at hc) (fun id id' c c' p p' b hc => by simp [getL] at hc) (fun id _ => rfl)).mono ?_;rintro e W' ⟨v, r, chs', m', F', rfl, ⟨rfl, rfl⟩, _, _, _, ⟨h1, h2, h3, h4, h5⟩, hv, _⟩;refine ⟨?_, h1, h2, h3, h4, fun k hk => h5 k hk (fun id c p hc => by simp [getL] at hc)⟩;cases hv with
 | d hd => cases hd; rfl
section
variable {P : Program} [PT P] {C : Ctx} {Q : Exit → ASt → Prop} {s : ASt} {ops : Array Oper}
theorem AL.eqNil {x : Operand} {rest : List Oper} {dst : Option Nat} {ty xt yt : Nat} {pos : String} {af : Array Edge} {e sz e0 n bt : Nat} {zs : List ZK} {els : List (List DV)} (ht : PT.ty P xt = some ⟨.slice e0, n, bt, zs⟩) (hx : s.ev x = .d (.view e sz els)) (hd : dstOk dst s.n = true)
  (h : ∀ b, (b = true → els = []) → AL P C ops rest Q (s.put dst (aT b))) : AL P C ops (⟨dst, .binOp .eql xt x (.const (.slice none 0 0)) yt, ty, pos, af, none⟩ :: rest) Q s := by
 refine ⟨fun a w hR' => ?_⟩;obtain ⟨m, hR⟩ := hR';refine wpList_step fun K hK => ?_
 rw [if_pos (wanted_none rfl a)];obtain ⟨i, d, z, _, hdd, hk, _⟩ := PT.facts ht;have hu : P.underlying xt = some (.slice e0) := by rw [hdd]; cases d <;> simp [tkOf] at hk; rw [hk]
 have hv := hR.ev x;rw [hx] at hv
 have key : ∃ (ad : Option Addr) (l c : Nat), a.eval x = .slice ad l c ∧ (ad = none → els = []) := by
  generalize hz : a.eval x = vv at hv;cases hv with
  | d hd =>
   cases hd with
   | nil => exact ⟨_, _, _, rfl, fun _ => rfl⟩
   | empty => exact ⟨_, _, _, rfl, fun _ => rfl⟩
   | view => exact ⟨_, _, _, rfl, fun h => by cases h⟩
 obtain ⟨ad, l, c, he, hne⟩ := key
 have hrun : (execOp a.eval ⟨dst, .binOp .eql xt x (.const (.slice none 0 0)) yt, ty, pos, af, none⟩).run P w = .ok (.value (.bool ad.isNone)) w := by
  have h1 : a.eval (.const (.slice none 0 0)) = .slice none 0 0 := rfl;have h2 := Go.Lib.run_eql_slice_nil (P := P) w xt e0 ad l c 0 0 hu;simp only [execOp, he, h1, eqGuard];simp [h2]
 unfold Oper.wp;rw [hrun];refine hK _ _ ((h ad.isNone (fun hb => hne (by simpa using hb))).run _ _ ⟨m, ?_⟩);have := hR.setSlot (x := aT ad.isNone) (v := .bool ad.isNone) hd (.d (.val trivial));cases hdst : dst <;> (rw [hdst] at this; exact this)
end
section
variable {P : Program} [PT P] {s : ASt} {dst : Option Nat} {ty : Nat} {pos : String} {af : Array Edge} {gd : Option (Nat × Bool)} {x : Operand} {f t : Nat}
end
theorem ASpec.ofLib2 {P : Program} {g : FuncId} {x y : ByteArray} {b : Bool} (h : ∀ w, Calls P g #[.string x, .string y] w fun e w' => e = .returned (.bool b) ∧ w' = w) : ASpec P g [aS x, aS y] [] (Pure1 (aT b)) := by
 intro w m Fin vs hfin hn ha hch hinj hm;have h0 := ha 0 _ rfl;have h1 := ha 1 _ rfl
 have hv : vs = #[.string x, .string y] := by
  apply Array.ext
  ·rw [hn]; rfl
  intro i hi1 hi2
  match i with
  | 0 => have := h0.val_eq.1; rw [Array.getD_eq_getD_getElem?, Array.getElem?_eq_getElem hi1] at this; simpa using this
  | 1 => have := h1.val_eq.1; rw [Array.getD_eq_getD_getElem?, Array.getElem?_eq_getElem hi1] at this; simpa using this
  | i + 2 => simp at hi2; omega
 subst hv;refine (h w).mono ?_;rintro e w' ⟨rfl, rfl⟩;refine ⟨_, _, [], m, Fin, rfl, ⟨rfl, rfl⟩, fun _ _ _ h => h, fun id hid => hm id (by simp only [List.length_nil] at hid ⊢; omega), fun k => ?_, ⟨rfl, rfl, rfl, Nat.le_refl _, fun _ _ _ => rfl⟩, .d (.val trivial), fun id c hc => by simp [getL] at hc, fun id id' c c' p p' b hc => by simp [getL] at hc⟩;constructor
 ·intro hk;exact ⟨.inl hk, (hfin k hk).1, fun id c p hc => by simp [getL] at hc⟩
 rintro ⟨h | ⟨id, c, p, hc, _⟩ | h, hlt, _⟩
 ·exact h
 ·simp [getL] at hc
 omega
end Go.Proofs.YtiaieidhhlmfmaaGreat
namespace Go.Proofs
open Go.Shelf
def Tryz.lays144_ren : Go.Shelf.Ren := ⟨fun | 144 => 105 | 143 => 116 | 219 => 119 | 217 => 121 | 225 => 122 | 224 => 123 | 267 => 124 | 266 => 125 | 314 => 126 | n => n, fun | 9 => 9 | 4 => 4 | 3 => 3 | 5 => 5 | 46 => 67 | 146 => 105 | 51 => 89 | n => n, fun | 1 => 0 | n => n⟩
theorem Tryz.lays144 : Go.Proofs.Lays.n144 Tryz.prog Tryz.lays144_ren := {
 mixed := by kernel_rfl
 f143 := Tryz.func116.trans (congrArg some (by kernel_rfl))
 f144 := Tryz.func105.trans (congrArg some (by kernel_rfl))
 f217 := Tryz.func121.trans (congrArg some (by kernel_rfl))
 f219 := Tryz.func119.trans (congrArg some (by kernel_rfl))
 f224 := Tryz.func123.trans (congrArg some (by kernel_rfl))
 f225 := Tryz.func122.trans (congrArg some (by kernel_rfl))
 f266 := Tryz.func125.trans (congrArg some (by kernel_rfl))
 f267 := Tryz.func124.trans (congrArg some (by kernel_rfl))
 f314 := Tryz.func126.trans (congrArg some (by kernel_rfl))
 t3 := Tryz.underlying3
 a3 := Tryz.isAgg3
 z3 := Tryz.sizeOf3
 v3 := Tryz.zeroValue3
 t4 := Tryz.underlying4
 a4 := Tryz.isAgg4
 z4 := Tryz.sizeOf4
 v4 := Tryz.zeroValue4
 t5 := Tryz.underlying5
 a5 := Tryz.isAgg5
 z5 := Tryz.sizeOf5
 v5 := Tryz.zeroValue5
 t9 := Tryz.underlying9
 a9 := Tryz.isAgg9
 z9 := Tryz.sizeOf9
 v9 := Tryz.zeroValue9
 t46 := Tryz.underlying67
 a46 := Tryz.isAgg67
 z46 := Tryz.sizeOf67
 v46 := Tryz.zeroValue67
 t51 := Tryz.underlying89
 a51 := Tryz.isAgg89
 z51 := Tryz.sizeOf89
 v51 := Tryz.zeroValue89
 t146 := Tryz.underlying105
 a146 := Tryz.isAgg105
 z146 := Tryz.sizeOf105
 v146 := Tryz.zeroValue105
 g1 := by kernel_rfl }
open Go.RowKit Go.Lib in
theorem Tryz.strings_Contains_one (s : ByteArray) (c : UInt8) (w : World) :
  Calls Tryz.prog 105 #[.string s, .string ⟨#[c]⟩] w fun e w' => e = .returned (.bool (decide (0 ≤ Lib.indexByte s.data.toList c))) ∧ w' = w := Any.strings_Contains_one Tryz.lays144 s c w
def Tryz.lays190_ren : Go.Shelf.Ren := ⟨fun | 190 => 37 | 125 => 78 | 258 => 77 | 128 => 103 | 129 => 104 | 302 => 94 | 303 => 95 | 304 => 96 | 305 => 97 | 306 => 98 | 307 => 99 | 308 => 100 | 309 => 101 | 310 => 102 | 333 => 110 | 329 => 111 | 330 => 112 | 334 => 113 | 335 => 114 | 336 => 115 | 344 => 118 | n => n, fun | 31 => 24 | 9 => 9 | 3 => 3 | 46 => 67 | 0 => 0 | 51 => 89 | 53 => 51 | 4 => 4 | 183 => 83 | 182 => 82 | 131 => 35 | 5 => 5 | 218 => 93 | 222 => 97 | 228 => 101 | 229 => 102 | n => n, fun | n => n⟩
theorem Tryz.lays190 : Go.Proofs.Lays.n190 Tryz.prog Tryz.lays190_ren := {
 mixed := by kernel_rfl
 f125 := Tryz.func78.trans (congrArg some (by kernel_rfl))
 f128 := Tryz.func103.trans (congrArg some (by kernel_rfl))
 f129 := Tryz.func104.trans (congrArg some (by kernel_rfl))
 f190 := Tryz.func37.trans (congrArg some (by kernel_rfl))
 f258 := Tryz.func77.trans (congrArg some (by kernel_rfl))
 f302 := Tryz.func94.trans (congrArg some (by kernel_rfl))
 f303 := Tryz.func95.trans (congrArg some (by kernel_rfl))
 f304 := Tryz.func96.trans (congrArg some (by kernel_rfl))
 f305 := Tryz.func97.trans (congrArg some (by kernel_rfl))
 f306 := Tryz.func98.trans (congrArg some (by kernel_rfl))
 f307 := Tryz.func99.trans (congrArg some (by kernel_rfl))
 f308 := Tryz.func100.trans (congrArg some (by kernel_rfl))
 f309 := Tryz.func101.trans (congrArg some (by kernel_rfl))
 f310 := Tryz.func102.trans (congrArg some (by kernel_rfl))
 f329 := Tryz.func111.trans (congrArg some (by kernel_rfl))
 f330 := Tryz.func112.trans (congrArg some (by kernel_rfl))
 f333 := Tryz.func110.trans (congrArg some (by kernel_rfl))
 f334 := Tryz.func113.trans (congrArg some (by kernel_rfl))
 f335 := Tryz.func114.trans (congrArg some (by kernel_rfl))
 f336 := Tryz.func115.trans (congrArg some (by kernel_rfl))
 f344 := Tryz.func118.trans (congrArg some (by kernel_rfl))
 t0 := Tryz.underlying0
 a0 := Tryz.isAgg0
 z0 := Tryz.sizeOf0
 v0 := Tryz.zeroValue0
 t3 := Tryz.underlying3
 a3 := Tryz.isAgg3
 z3 := Tryz.sizeOf3
 v3 := Tryz.zeroValue3
 t4 := Tryz.underlying4
 a4 := Tryz.isAgg4
 z4 := Tryz.sizeOf4
 v4 := Tryz.zeroValue4
 t5 := Tryz.underlying5
 a5 := Tryz.isAgg5
 z5 := Tryz.sizeOf5
 v5 := Tryz.zeroValue5
 t9 := Tryz.underlying9
 a9 := Tryz.isAgg9
 z9 := Tryz.sizeOf9
 v9 := Tryz.zeroValue9
 t31 := Tryz.underlying24
 a31 := Tryz.isAgg24
 z31 := Tryz.sizeOf24
 v31 := Tryz.zeroValue24
 t46 := Tryz.underlying67
 a46 := Tryz.isAgg67
 z46 := Tryz.sizeOf67
 v46 := Tryz.zeroValue67
 t51 := Tryz.underlying89
 a51 := Tryz.isAgg89
 z51 := Tryz.sizeOf89
 v51 := Tryz.zeroValue89
 t53 := Tryz.underlying51
 a53 := Tryz.isAgg51
 z53 := Tryz.sizeOf51
 v53 := Tryz.zeroValue51
 t131 := Tryz.underlying35
 a131 := Tryz.isAgg35
 z131 := Tryz.sizeOf35
 v131 := Tryz.zeroValue35
 t182 := Tryz.underlying82
 a182 := Tryz.isAgg82
 z182 := Tryz.sizeOf82
 v182 := Tryz.zeroValue82
 t183 := Tryz.underlying83
 a183 := Tryz.isAgg83
 z183 := Tryz.sizeOf83
 v183 := Tryz.zeroValue83
 t218 := Tryz.underlying93
 a218 := Tryz.isAgg93
 z218 := Tryz.sizeOf93
 v218 := Tryz.zeroValue93
 t222 := Tryz.underlying97
 a222 := Tryz.isAgg97
 z222 := Tryz.sizeOf97
 v222 := Tryz.zeroValue97
 t228 := Tryz.underlying101
 a228 := Tryz.isAgg101
 z228 := Tryz.sizeOf101
 v228 := Tryz.zeroValue101
 t229 := Tryz.underlying102
 a229 := Tryz.isAgg102
 z229 := Tryz.sizeOf102
 v229 := Tryz.zeroValue102 }
open Go.Sort Go.RowKit in
theorem Tryz.slices_Sort_string (blk off cap : Nat) (ss : List (List UInt8)) (w : World) (hH : Holds encStr w blk off ss.toArray) (hblk : blk < w.heap.size) (hsz : ss.length < 4611686018427387904) :
  Calls Tryz.prog 37 #[.slice (some ⟨blk, off, none⟩) ss.length cap] w fun e w' =>
   e = .returned (.tuple #[]) ∧ ∃ n os, w' = grow (putRow encStr (Sort.ahead w n) blk off (ss.mergeSort fun x y => decide (x ≤ y)).toArray) os := Any.slices_Sort_string Tryz.lays190 blk off cap ss w hH hblk hsz
open Go.RowKit Go.Sort in
theorem Tryz.slices_Sort_string_none (p : Option Addr) (cap : Nat) (w : World) :
  Calls Tryz.prog 37 #[.slice p 0 cap] w fun e w' => e = .returned (.tuple #[]) ∧ w' = w := Any.slices_Sort_string_none Tryz.lays190 p cap w
end Go.Proofs
namespace Go.Proofs.YtiaieidhhlmfmaaGreat
open Go.RowKit
def lit3 (b : UInt8) : Bool := decide ((b.toNat : Int) = 48) || decide ((b.toNat : Int) = 49) || decide ((b.toNat : Int) = 45)
def cubeB (s : List UInt8) (n : Int) : Bool := s.all lit3 && (decide ((s.length : Int) = n) && (decide (1 ≤ n) && decide (n ≤ 8)))
theorem all_of {p : UInt8 → Bool} {m : List UInt8} (h : ∀ j (hj : j < m.length), p m[j] = true) : m.all p = true := List.all_eq_true.2 (fun x hx => by obtain ⟨j, hj, rfl⟩ := List.getElem_of_mem hx; exact h j hj)
theorem not_all {p : UInt8 → Bool} {m : List UInt8} {j : Nat} (hj : j < m.length) (h : p m[j] = false) : m.all p = false := List.all_eq_false.2 ⟨_, List.getElem_mem hj, by simp [h]⟩
set_option maxHeartbeats 1000000 in
theorem isCube_spec (m : List UInt8) (n : Int) (hm : m.length ≤ 2000000) : ASpec Tryz.prog 82 [aS (bstr m), aI n] [] (Pure1 (aT (cubeB m n))) := by
 have hsz := bstr_size m;refine ASpec.of Tryz.func82 rfl rfl fun C hC => ?_
 refine AC.seq (AC.region ?_);refine za ?_;refine AL.nil (th_n (AC.seq (AC.seq (AC.region ?_))));refine za ?_;refine AL.nil (th_n (AC.block ?_));refine AC.loop (ι := Nat) (fun k => ⟨36, 0, [(0, aS (bstr m)), (1, aI n), (5, aI k)], []⟩) (fun k => k ≤ m.length ∧ ∀ j (hj : j < m.length), j < k → lit3 m[j] = true) (fun k => m.length - k) (0) ?_ (⟨Nat.zero_le _, fun j _ hj => by omega⟩) ?_
 ·refine Weak.ren _ [] hC rfl ?_ ?_ rfl rfl rfl <;> repeat (first | exact True.intro | refine And.intro ?_ ?_ | exact DLead.same)
 intro k ⟨hk, hall⟩;refine AC.seq (AC.seq (AC.region ?_));refine zm ?_;refine zm ?_;refine AL.p (by exact g_len_str rfl rfl rfl) rfl ?_;refine zc ?_;refine AL.nil (th_n ?_);refine AC.condD rfl (fun h0 => ?_) (fun h0 => ?_)
 ·refine AC.skip (th_n (AC.seq (AC.block (AC.seq ?_))));have hk1 : k < m.length := by omega
  have hget := bstr_at hk1;have hlt := m[k].toNat_lt;refine AC.region ?_;refine zm ?_;refine zm ?_;refine AL.p (by exact g_index rfl rfl rfl (by rfl) (by assumption)) rfl ?_;refine zc ?_;refine zm ?_;refine AL.caseGN rfl rfl (fun h1 => ?_) (fun h1 => ?_)
  ·refine zy ?_;refine zm ?_;refine zy ?_;refine zm ?_;refine zy ?_;refine AL.p (by exact g_index rfl rfl rfl (by rfl) (by assumption)) rfl ?_;refine zy ?_;refine zc ?_;refine zQ ?_;refine zm ?_;refine AL.caseGN rfl rfl (fun h2 => ?_) (fun h2 => ?_)
   ·refine zy ?_;refine zm ?_;refine zy ?_;refine zm ?_;refine zy ?_;refine AL.p (by exact g_index rfl rfl rfl (by rfl) (by assumption)) rfl ?_;refine zy ?_;refine zc ?_;refine zQ ?_;refine AL.nil (th_n ?_);refine AC.condND rfl (fun h3 => ?_) (fun h3 => ?_)
    ·refine AC.seq (AC.region ?_);refine za ?_;refine AL.nil (th_n (AC.ret (ib_r (th_r (th_r (ib_r (th_r (bq_r ?_))))))));have hb : lit3 m[k] = false := by simp_all [lit3]
     exact ret1 rfl (by rw [cubeB, not_all hk1 hb]; rfl)
    refine AC.skip (ib_n (th_n (AC.region ?_)));refine zm ?_;refine zA ?_;refine za ?_;refine AL.nil (th_n ?_);have hb : lit3 m[k] = true := by simp_all [lit3]
    exact ⟨k + 1, ⟨by omega, fun j hj hj2 => by rcases Nat.lt_succ_iff_lt_or_eq.1 hj2 with h | rfl; exact hall j hj h; exact hb⟩, by omega, Weak.ren _ [] hC rfl (by repeat (first | exact True.intro | refine And.intro ?_ ?_ | exact DLead.same)) (by repeat (exact True.intro)) rfl rfl rfl⟩
   refine zn ?_;refine zn ?_;refine zn ?_;refine zn ?_;refine zP ?_;refine AL.nil (th_n ?_);refine AC.condF rfl ?_;refine AC.skip (ib_n (th_n (AC.region ?_)));refine zm ?_;refine zA ?_;refine za ?_;refine AL.nil (th_n ?_);have hb : lit3 m[k] = true := by simp_all [lit3]
   exact ⟨k + 1, ⟨by omega, fun j hj hj2 => by rcases Nat.lt_succ_iff_lt_or_eq.1 hj2 with h | rfl; exact hall j hj h; exact hb⟩, by omega, Weak.ren _ [] hC rfl (by repeat (first | exact True.intro | refine And.intro ?_ ?_ | exact DLead.same)) (by repeat (exact True.intro)) rfl rfl rfl⟩
  refine zn ?_;refine zn ?_;refine zn ?_;refine zn ?_;refine zP ?_;refine zm ?_;refine zn ?_;refine zn ?_;refine zn ?_;refine zn ?_;refine zP ?_;refine AL.nil (th_n ?_);refine AC.condF rfl ?_;refine AC.skip (ib_n (th_n (AC.region ?_)));refine zm ?_;refine zA ?_;refine za ?_;refine AL.nil (th_n ?_);have hb : lit3 m[k] = true := by simp_all [lit3]
  exact ⟨k + 1, ⟨by omega, fun j hj hj2 => by rcases Nat.lt_succ_iff_lt_or_eq.1 hj2 with h | rfl; exact hall j hj h; exact hb⟩, by omega, Weak.ren _ [] hC rfl (by repeat (first | exact True.intro | refine And.intro ?_ ?_ | exact DLead.same)) (by repeat (exact True.intro)) rfl rfl rfl⟩
 refine AC.exit (th_e (th_e (ib_y (th_n (AC.seq (AC.region ?_))))));refine zm ?_;refine AL.p (by exact g_len_str rfl rfl rfl) rfl ?_;refine zm ?_;refine zc ?_;refine zm ?_;refine AL.caseG rfl rfl (fun h1 => ?_) (fun h1 => ?_)
 ·refine zy ?_;refine zm ?_;refine zy ?_;refine AL.q (by exact h_pure en_within rfl rfl (by repeat (first | exact rfl | exact DLead.same | refine ⟨_, _, rfl, ?_, ?_⟩)) (within_spec _ _ _) rfl) rfl ?_;refine zQ ?_;refine za ?_;refine AL.nil (th_n (AC.ret (bq_r ?_)));have ha : m.all lit3 = true := all_of (fun j hj => hall j hj (by omega));exact ret1 rfl (by rw [cubeB, ha, ← hsz, h1]; simp; done)
 refine zn ?_;refine zn ?_;refine zP ?_;refine za ?_;refine AL.nil (th_n (AC.ret (bq_r ?_)));have ha : m.all lit3 = true := all_of (fun j hj => hall j hj (by omega));exact ret1 rfl (by rw [cubeB, ha, ← hsz, decide_eq_false h1]; rfl)
theorem en_isCube : Enters Tryz.prog 82 := enters_of Tryz.func82 rfl rfl
set_option maxHeartbeats 1000000 in
theorem l13Cube_spec (m : List UInt8) (hm : m.length ≤ 2000000) : ASpec Tryz.prog 55 [aS (bstr m)] [] (Pure1 (aT (cubeB m m.length))) := by
 have hsz := bstr_size m;refine ASpec.of Tryz.func55 rfl rfl fun C hC => ?_
 refine AC.seq (AC.region ?_);refine za ?_;refine AL.nil (th_n (AC.seq (AC.seq (AC.region ?_))));refine za ?_;refine AL.nil (th_n (AC.block ?_));refine AC.loop (ι := Nat) (fun k => ⟨29, 0, [(0, aS (bstr m)), (3, aI k)], []⟩) (fun k => k ≤ m.length ∧ ∀ j (hj : j < m.length), j < k → lit3 m[j] = true) (fun k => m.length - k) (0) ?_ (⟨Nat.zero_le _, fun j _ hj => by omega⟩) ?_
 ·refine Weak.ren _ [] hC rfl ?_ ?_ rfl rfl rfl <;> repeat (first | exact True.intro | refine And.intro ?_ ?_ | exact DLead.same)
 intro k ⟨hk, hall⟩;refine AC.seq (AC.seq (AC.region ?_));refine zm ?_;refine zm ?_;refine AL.p (by exact g_len_str rfl rfl rfl) rfl ?_;refine zc ?_;refine AL.nil (th_n ?_);refine AC.condD rfl (fun h0 => ?_) (fun h0 => ?_)
 ·refine AC.skip (th_n (AC.seq (AC.block (AC.seq ?_))));have hk1 : k < m.length := by omega
  have hget := bstr_at hk1;have hlt := m[k].toNat_lt;refine AC.region ?_;refine zm ?_;refine zm ?_;refine AL.p (by exact g_index rfl rfl rfl (by rfl) (by assumption)) rfl ?_;refine zc ?_;refine zm ?_;refine AL.caseGN rfl rfl (fun h1 => ?_) (fun h1 => ?_)
  ·refine zy ?_;refine zm ?_;refine zy ?_;refine zm ?_;refine zy ?_;refine AL.p (by exact g_index rfl rfl rfl (by rfl) (by assumption)) rfl ?_;refine zy ?_;refine zc ?_;refine zQ ?_;refine zm ?_;refine AL.caseGN rfl rfl (fun h2 => ?_) (fun h2 => ?_)
   ·refine zy ?_;refine zm ?_;refine zy ?_;refine zm ?_;refine zy ?_;refine AL.p (by exact g_index rfl rfl rfl (by rfl) (by assumption)) rfl ?_;refine zy ?_;refine zc ?_;refine zQ ?_;refine AL.nil (th_n ?_);refine AC.condND rfl (fun h3 => ?_) (fun h3 => ?_)
    ·refine AC.seq (AC.region ?_);refine za ?_;refine AL.nil (th_n (AC.ret (ib_r (th_r (th_r (ib_r (th_r (bq_r ?_))))))));have hb : lit3 m[k] = false := by simp_all [lit3]
     exact ret1 rfl (by rw [cubeB, not_all hk1 hb]; rfl)
    refine AC.skip (ib_n (th_n (AC.region ?_)));refine zm ?_;refine zA ?_;refine za ?_;refine AL.nil (th_n ?_);have hb : lit3 m[k] = true := by simp_all [lit3]
    exact ⟨k + 1, ⟨by omega, fun j hj hj2 => by rcases Nat.lt_succ_iff_lt_or_eq.1 hj2 with h | rfl; exact hall j hj h; exact hb⟩, by omega, Weak.ren _ [] hC rfl (by repeat (first | exact True.intro | refine And.intro ?_ ?_ | exact DLead.same)) (by repeat (exact True.intro)) rfl rfl rfl⟩
   refine zn ?_;refine zn ?_;refine zn ?_;refine zn ?_;refine zP ?_;refine AL.nil (th_n ?_);refine AC.condF rfl ?_;refine AC.skip (ib_n (th_n (AC.region ?_)));refine zm ?_;refine zA ?_;refine za ?_;refine AL.nil (th_n ?_);have hb : lit3 m[k] = true := by simp_all [lit3]
   exact ⟨k + 1, ⟨by omega, fun j hj hj2 => by rcases Nat.lt_succ_iff_lt_or_eq.1 hj2 with h | rfl; exact hall j hj h; exact hb⟩, by omega, Weak.ren _ [] hC rfl (by repeat (first | exact True.intro | refine And.intro ?_ ?_ | exact DLead.same)) (by repeat (exact True.intro)) rfl rfl rfl⟩
  refine zn ?_;refine zn ?_;refine zn ?_;refine zn ?_;refine zP ?_;refine zm ?_;refine zn ?_;refine zn ?_;refine zn ?_;refine zn ?_;refine zP ?_;refine AL.nil (th_n ?_);refine AC.condF rfl ?_;refine AC.skip (ib_n (th_n (AC.region ?_)));refine zm ?_;refine zA ?_;refine za ?_;refine AL.nil (th_n ?_);have hb : lit3 m[k] = true := by simp_all [lit3]
  exact ⟨k + 1, ⟨by omega, fun j hj hj2 => by rcases Nat.lt_succ_iff_lt_or_eq.1 hj2 with h | rfl; exact hall j hj h; exact hb⟩, by omega, Weak.ren _ [] hC rfl (by repeat (first | exact True.intro | refine And.intro ?_ ?_ | exact DLead.same)) (by repeat (exact True.intro)) rfl rfl rfl⟩
 refine AC.exit (th_e (th_e (ib_y (th_n (AC.seq (AC.region ?_))))));refine zm ?_;refine AL.p (by exact g_len_str rfl rfl rfl) rfl ?_;refine AL.q (by exact h_pure en_l1In rfl rfl (by repeat (first | exact rfl | exact DLead.same | refine ⟨_, _, rfl, ?_, ?_⟩)) (l1In_spec _ _ _) rfl) rfl ?_;refine za ?_;refine AL.nil (th_n (AC.ret (bq_r ?_)));have ha : m.all lit3 = true := all_of (fun j hj => hall j hj (by omega));exact ret1 rfl (by rw [cubeB, ha, ← hsz]; simp)
theorem en_l13Cube : Enters Tryz.prog 55 := enters_of Tryz.func55 rfl rfl
set_option maxHeartbeats 1000000 in
theorem l5Code_spec (m : List UInt8) (n : Int) (hm : m.length ≤ 2000000) : ASpec Tryz.prog 92 [aS (bstr m), aI n] [] (Pure1 (aT (bitsB m n))) := by
 have hsz := bstr_size m;refine ASpec.of Tryz.func92 rfl rfl fun C hC => ?_
 refine AC.seq (AC.region ?_);refine za ?_;refine AL.nil (th_n (AC.seq (AC.seq (AC.region ?_))));refine za ?_;refine AL.nil (th_n (AC.block ?_));refine AC.loop (ι := Nat) (fun k => ⟨26, 0, [(0, aS (bstr m)), (1, aI n), (5, aI k)], []⟩) (fun k => k ≤ m.length ∧ ∀ j (hj : j < m.length), j < k → bit m[j] = true) (fun k => m.length - k) (0) ?_ (⟨Nat.zero_le _, fun j _ hj => by omega⟩) ?_
 ·refine Weak.ren _ [] hC rfl ?_ ?_ rfl rfl rfl <;> repeat (first | exact True.intro | refine And.intro ?_ ?_ | exact DLead.same)
 intro k ⟨hk, hall⟩;refine AC.seq (AC.seq (AC.region ?_));refine zm ?_;refine zm ?_;refine AL.p (by exact g_len_str rfl rfl rfl) rfl ?_;refine zc ?_;refine AL.nil (th_n ?_);refine AC.condD rfl (fun h0 => ?_) (fun h0 => ?_)
 ·refine AC.skip (th_n (AC.seq (AC.block (AC.seq ?_))));have hk1 : k < m.length := by omega
  have hget := bstr_at hk1;have hlt := m[k].toNat_lt;refine AC.region ?_;refine zm ?_;refine zm ?_;refine AL.p (by exact g_index rfl rfl rfl (by rfl) (by assumption)) rfl ?_;refine zc ?_;refine zm ?_;refine AL.caseGN rfl rfl (fun h1 => ?_) (fun h1 => ?_)
  ·refine zy ?_;refine zm ?_;refine zy ?_;refine zm ?_;refine zy ?_;refine AL.p (by exact g_index rfl rfl rfl (by rfl) (by assumption)) rfl ?_;refine zy ?_;refine zc ?_;refine zQ ?_;refine AL.nil (th_n ?_);refine AC.condND rfl (fun h2 => ?_) (fun h2 => ?_)
   ·refine AC.seq (AC.region ?_);refine za ?_;refine AL.nil (th_n (AC.ret (ib_r (th_r (th_r (ib_r (th_r (bq_r ?_))))))));have hb : bit m[k] = false := by simp_all [bit]
    exact ret1 rfl (by rw [bitsB, not_bits hk1 hb]; rfl)
   refine AC.skip (ib_n (th_n (AC.region ?_)));refine zm ?_;refine zA ?_;refine za ?_;refine AL.nil (th_n ?_);have hb : bit m[k] = true := by simp_all [bit]
   exact ⟨k + 1, ⟨by omega, fun j hj hj2 => by rcases Nat.lt_succ_iff_lt_or_eq.1 hj2 with h | rfl; exact hall j hj h; exact hb⟩, by omega, Weak.ren _ [] hC rfl (by repeat (first | exact True.intro | refine And.intro ?_ ?_ | exact DLead.same)) (by repeat (exact True.intro)) rfl rfl rfl⟩
  refine zn ?_;refine zn ?_;refine zn ?_;refine zn ?_;refine zP ?_;refine AL.nil (th_n ?_);refine AC.condF rfl ?_;refine AC.skip (ib_n (th_n (AC.region ?_)));refine zm ?_;refine zA ?_;refine za ?_;refine AL.nil (th_n ?_);have hb : bit m[k] = true := by simp_all [bit]
  exact ⟨k + 1, ⟨by omega, fun j hj hj2 => by rcases Nat.lt_succ_iff_lt_or_eq.1 hj2 with h | rfl; exact hall j hj h; exact hb⟩, by omega, Weak.ren _ [] hC rfl (by repeat (first | exact True.intro | refine And.intro ?_ ?_ | exact DLead.same)) (by repeat (exact True.intro)) rfl rfl rfl⟩
 refine AC.exit (th_e (th_e (ib_y (th_n (AC.seq (AC.region ?_))))));refine zm ?_;refine AL.p (by exact g_len_str rfl rfl rfl) rfl ?_;refine zm ?_;refine zc ?_;refine za ?_;refine AL.nil (th_n (AC.ret (bq_r ?_)));exact ret1 rfl (by rw [bitsB, all_bits (fun j hj => hall j hj (by omega)), hsz]; rfl)
theorem en_l5Code : Enters Tryz.prog 92 := enters_of Tryz.func92 rfl rfl
theorem strContains_spec (m : List UInt8) (c : UInt8) : ASpec Tryz.prog 105 [aS (bstr m), aS ⟨#[c]⟩] [] (Pure1 (aT (m.contains c))) := by
 have h := ASpec.ofLib2 (P := Tryz.prog) (g := 105) (x := bstr m) (y := ⟨#[c]⟩) (b := decide (0 ≤ Lib.indexByte (bstr m).data.toList c)) (fun w => Tryz.strings_Contains_one (bstr m) c w);rw [bstr_data] at h
 rwa [Lib.contains_iff_indexByte]
theorem en_strContains : Enters Tryz.prog 105 := enters_of Tryz.func105 rfl rfl
def codeB (s : List UInt8) (n : Int) : Bool := cubeB s n && !s.contains 45
theorem isCode_spec (m : List UInt8) (n : Int) (hm : m.length ≤ 2000000) : ASpec Tryz.prog 79 [aS (bstr m), aI n] [] (Pure1 (aT (codeB m n))) := by
 have hK := strContains_spec m 45;refine ASpec.of Tryz.func79 rfl rfl fun C hC => ?_
 refine AC.seq (AC.region ?_);refine za ?_;refine AL.nil (th_n (AC.seq (AC.region ?_)));refine zm ?_;refine zm ?_;refine AL.q (by exact h_pure en_isCube rfl rfl (by repeat (first | exact rfl | exact DLead.same | refine ⟨_, _, rfl, ?_, ?_⟩)) (isCube_spec _ _ (by assumption)) rfl) rfl ?_;refine zm ?_;refine AL.caseGB rfl rfl (fun h0 => ?_) (fun h0 => ?_)
 ·refine zy ?_;refine zm ?_;refine zy ?_;refine kV en_strContains hK ?_;refine zy ?_;refine kC ?_;refine zQ ?_;refine za ?_;refine AL.nil (th_n (AC.ret (bq_r ?_)));exact ret1 rfl (by unfold codeB; rw [h0]; rfl)
 refine zn ?_;refine zn ?_;refine zn ?_;refine zP ?_;refine za ?_;refine AL.nil (th_n (AC.ret (bq_r ?_)));exact ret1 rfl (by unfold codeB; rw [h0]; rfl)
theorem en_isCode : Enters Tryz.prog 79 := enters_of Tryz.func79 rfl rfl
def at1 (m : List UInt8) (i : Nat) : Int := ((m.getD i 0).toNat : Int)
def okAt (a b : List UInt8) (i : Nat) : Bool := decide (at1 a i = 45) || decide (at1 a i = at1 b i)
def hasC (a b : List UInt8) : Bool := allN a.length (okAt a b)
set_option maxHeartbeats 1000000 in
theorem contains_spec (a b : List UInt8) (ha : a.length ≤ 2000000) (hl : b.length = a.length) : ASpec Tryz.prog 36 [aS (bstr a), aS (bstr b)] [] (Pure1 (aT (hasC a b))) := by
 have hsz := bstr_size a;refine ASpec.of Tryz.func36 rfl rfl fun C hC => ?_
 refine AC.seq (AC.region ?_);refine za ?_;refine AL.nil (th_n (AC.seq (AC.seq (AC.region ?_))));refine zm ?_;refine AL.p (by exact g_len_str (k := a.length) rfl rfl hsz) rfl ?_;refine zm ?_;refine AL.nil (th_n (AC.block ?_));refine AC.loop (ι := Nat) (fun k => ⟨25, 0, [(0, aS (bstr a)), (1, aS (bstr b)), (7, aI a.length), (8, aI k)], []⟩) (fun k => k ≤ a.length ∧ ∀ j, j < k → okAt a b j = true) (fun k => a.length - k) (0) ?_ (⟨Nat.zero_le _, fun j hj => by omega⟩) ?_
 ·refine Weak.ren _ [] hC rfl ?_ ?_ rfl rfl rfl <;> repeat (first | exact True.intro | refine And.intro ?_ ?_ | exact DLead.same)
 intro k ⟨hk, hall⟩;refine AC.seq (AC.region ?_);refine zc ?_;refine AL.nil (th_n (AC.seq ?_));refine AC.condD rfl (fun h0 => ?_) (fun h0 => ?_)
 ·refine AC.skip (th_n (AC.seq (AC.block (AC.seq ?_))));have hk1 : k < a.length := by omega
  have hga : (bstr a).data.toList[k]? = some (a.getD k 0) := bstr_getD hk1;have hgb : (bstr b).data.toList[k]? = some (b.getD k 0) := bstr_getD (by omega);refine AC.region ?_;refine zm ?_;refine za ?_;refine AL.nil (th_n (AC.seq ?_));refine AC.drawn' mixed_ok [[], [], [0,1], [0,1,2], [0,1,2,3], [0,1,2,3,4], [0,1,2,3,4], [0,1,2,3,4,5,6], [0,1,2,3,4], [0,1,2,3,4], [0,1,2,3,4,8,9], [0,1,2,3,4,5,6,7,8,9,10], [0,1,2,3,4,5,6,7,8,9,10,11]] (by decide) ?_;refine zd 0 [] 13 (by exact mv1 rfl) ?_;refine zd 1 [] 13 (by exact mv1 rfl) ?_;refine zd 2 [0,1] 13 (by exact g_index rfl rfl rfl (by rfl) (by assumption)) ?_;refine zd 3 [0,1,2] 13 (by exact g_cmp rfl rfl rfl) ?_;refine zd 4 [0,1,2,3] 13 (by exact mv1 rfl) ?_;refine DF.caseB 4 rfl (fun h1 => ?_) (fun h1 => ?_)
  ·refine ze 5 [0,1,2,3,4] 13 (by exact mv1 rfl) ?_;refine ze 6 [0,1,2,3,4] 13 (by exact mv1 rfl) ?_;refine ze 7 [0,1,2,3,4,5,6] 13 (by exact g_index rfl rfl rfl (by rfl) (by assumption)) ?_;refine ze 8 [0,1,2,3,4] 13 (by exact mv1 rfl) ?_;refine ze 9 [0,1,2,3,4] 13 (by exact mv1 rfl) ?_;refine ze 10 [0,1,2,3,4,8,9] 13 (by exact g_index rfl rfl rfl (by rfl) (by assumption)) ?_;refine ze 11 (List.range 11) 13 (by exact g_cmp rfl rfl rfl) ?_;refine zd 12 (List.range 12) 13 (by exact g_pickT (r := .d _) rfl rfl) ?_;refine zj 13 ?_;refine th_n ?_;refine AC.condND rfl (fun h2 => ?_) (fun h2 => ?_)
   ·refine AC.seq (AC.region ?_);refine za ?_;refine AL.nil (th_n (AC.ret (ib_r (th_r (th_r (ib_r (th_r (bq_r ?_))))))));have hb : okAt a b k = false := by simp_all [okAt, at1]
    exact ret1 rfl (by rw [hasC, allN_false hk1 hb])
   refine AC.skip (ib_n (th_n (AC.region ?_)));refine zA ?_;refine zm ?_;refine AL.nil (th_n ?_);have hb : okAt a b k = true := by simp_all [okAt, at1]
   exact ⟨k + 1, ⟨by omega, fun j hj => by rcases Nat.lt_succ_iff_lt_or_eq.1 hj with h | rfl; exact hall j h; exact hb⟩, by omega, Weak.ren _ [] hC rfl (by repeat (first | exact True.intro | refine And.intro ?_ ?_ | exact DLead.same)) (by repeat (exact True.intro)) rfl rfl rfl⟩
  refine zg 5 [0,1,2,3,4] 13 ?_;refine zg 6 [0,1,2,3,4] 13 ?_;refine zg 7 [0,1,2,3,4,5,6] 13 ?_;refine zg 8 [0,1,2,3,4] 13 ?_;refine zg 9 [0,1,2,3,4] 13 ?_;refine zg 10 [0,1,2,3,4,8,9] 13 ?_;refine zg 11 (List.range 11) 13 ?_;refine zd 12 (List.range 12) 13 (by exact g_pickF (r := .d _) rfl rfl) ?_;refine zj 13 ?_;refine th_n ?_;refine AC.condF rfl ?_;refine AC.skip (ib_n (th_n (AC.region ?_)));refine zA ?_;refine zm ?_;refine AL.nil (th_n ?_);have hb : okAt a b k = true := by simp_all [okAt, at1]
  exact ⟨k + 1, ⟨by omega, fun j hj => by rcases Nat.lt_succ_iff_lt_or_eq.1 hj with h | rfl; exact hall j h; exact hb⟩, by omega, Weak.ren _ [] hC rfl (by repeat (first | exact True.intro | refine And.intro ?_ ?_ | exact DLead.same)) (by repeat (exact True.intro)) rfl rfl rfl⟩
 refine AC.exit (th_e (th_e (ib_y (th_n (AC.seq (AC.region ?_))))));refine za ?_;refine AL.nil (th_n (AC.ret (bq_r ?_)));exact ret1 rfl (by rw [hasC, allN_true (fun j hj => hall j (by omega))])
theorem en_contains : Enters Tryz.prog 36 := enters_of Tryz.func36 rfl rfl
set_option maxHeartbeats 1000000 in
theorem l13Has_spec (a b : List UInt8) (ha : a.length ≤ 2000000) (hl : b.length = a.length) : ASpec Tryz.prog 40 [aS (bstr a), aS (bstr b)] [] (Pure1 (aT (hasC a b))) := by
 have hsz := bstr_size a;refine ASpec.of Tryz.func40 rfl rfl fun C hC => ?_
 refine AC.seq (AC.region ?_);refine za ?_;refine AL.nil (th_n (AC.seq (AC.seq (AC.region ?_))));refine za ?_;refine AL.nil (th_n (AC.block ?_));refine AC.loop (ι := Nat) (fun k => ⟨25, 0, [(0, aS (bstr a)), (1, aS (bstr b)), (5, aI k)], []⟩) (fun k => k ≤ a.length ∧ ∀ j, j < k → okAt a b j = true) (fun k => a.length - k) (0) ?_ (⟨Nat.zero_le _, fun j hj => by omega⟩) ?_
 ·refine Weak.ren _ [] hC rfl ?_ ?_ rfl rfl rfl <;> repeat (first | exact True.intro | refine And.intro ?_ ?_ | exact DLead.same)
 intro k ⟨hk, hall⟩;refine AC.seq (AC.seq (AC.region ?_));refine zm ?_;refine zm ?_;refine AL.p (by exact g_len_str (k := a.length) rfl rfl hsz) rfl ?_;refine zc ?_;refine AL.nil (th_n ?_);refine AC.condD rfl (fun h0 => ?_) (fun h0 => ?_)
 ·refine AC.skip (th_n (AC.seq (AC.block (AC.seq ?_))));have hk1 : k < a.length := by omega
  have hga : (bstr a).data.toList[k]? = some (a.getD k 0) := bstr_getD hk1;have hgb : (bstr b).data.toList[k]? = some (b.getD k 0) := bstr_getD (by omega);refine AC.drawn' mixed_ok [[], [], [0,1], [0,1,2], [0,1,2,3], [0,1,2,3,4], [0,1,2,3,4], [0,1,2,3,4,5,6], [0,1,2,3,4], [0,1,2,3,4], [0,1,2,3,4,8,9], [0,1,2,3,4,5,6,7,8,9,10], [0,1,2,3,4,5,6,7,8,9,10,11]] (by decide) ?_;refine zd 0 [] 13 (by exact mv1 rfl) ?_;refine zd 1 [] 13 (by exact mv1 rfl) ?_;refine zd 2 [0,1] 13 (by exact g_index rfl rfl rfl (by rfl) (by assumption)) ?_;refine zd 3 [0,1,2] 13 (by exact g_cmp rfl rfl rfl) ?_;refine zd 4 [0,1,2,3] 13 (by exact mv1 rfl) ?_;refine DF.caseB 4 rfl (fun h1 => ?_) (fun h1 => ?_)
  ·refine ze 5 [0,1,2,3,4] 13 (by exact mv1 rfl) ?_;refine ze 6 [0,1,2,3,4] 13 (by exact mv1 rfl) ?_;refine ze 7 [0,1,2,3,4,5,6] 13 (by exact g_index rfl rfl rfl (by rfl) (by assumption)) ?_;refine ze 8 [0,1,2,3,4] 13 (by exact mv1 rfl) ?_;refine ze 9 [0,1,2,3,4] 13 (by exact mv1 rfl) ?_;refine ze 10 [0,1,2,3,4,8,9] 13 (by exact g_index rfl rfl rfl (by rfl) (by assumption)) ?_;refine ze 11 (List.range 11) 13 (by exact g_cmp rfl rfl rfl) ?_;refine zd 12 (List.range 12) 13 (by exact g_pickT (r := .d _) rfl rfl) ?_;refine zj 13 ?_;refine th_n ?_;refine AC.condND rfl (fun h2 => ?_) (fun h2 => ?_)
   ·refine AC.seq (AC.region ?_);refine za ?_;refine AL.nil (th_n (AC.ret (ib_r (th_r (th_r (ib_r (th_r (bq_r ?_))))))));have hb : okAt a b k = false := by simp_all [okAt, at1]
    exact ret1 rfl (by rw [hasC, allN_false hk1 hb])
   refine AC.skip (ib_n (th_n (AC.region ?_)));refine zm ?_;refine zA ?_;refine za ?_;refine AL.nil (th_n ?_);have hb : okAt a b k = true := by simp_all [okAt, at1]
   exact ⟨k + 1, ⟨by omega, fun j hj => by rcases Nat.lt_succ_iff_lt_or_eq.1 hj with h | rfl; exact hall j h; exact hb⟩, by omega, Weak.ren _ [] hC rfl (by repeat (first | exact True.intro | refine And.intro ?_ ?_ | exact DLead.same)) (by repeat (exact True.intro)) rfl rfl rfl⟩
  refine zg 5 [0,1,2,3,4] 13 ?_;refine zg 6 [0,1,2,3,4] 13 ?_;refine zg 7 [0,1,2,3,4,5,6] 13 ?_;refine zg 8 [0,1,2,3,4] 13 ?_;refine zg 9 [0,1,2,3,4] 13 ?_;refine zg 10 [0,1,2,3,4,8,9] 13 ?_;refine zg 11 (List.range 11) 13 ?_;refine zd 12 (List.range 12) 13 (by exact g_pickF (r := .d _) rfl rfl) ?_;refine zj 13 ?_;refine th_n ?_;refine AC.condF rfl ?_;refine AC.skip (ib_n (th_n (AC.region ?_)));refine zm ?_;refine zA ?_;refine za ?_;refine AL.nil (th_n ?_);have hb : okAt a b k = true := by simp_all [okAt, at1]
  exact ⟨k + 1, ⟨by omega, fun j hj => by rcases Nat.lt_succ_iff_lt_or_eq.1 hj with h | rfl; exact hall j h; exact hb⟩, by omega, Weak.ren _ [] hC rfl (by repeat (first | exact True.intro | refine And.intro ?_ ?_ | exact DLead.same)) (by repeat (exact True.intro)) rfl rfl rfl⟩
 refine AC.exit (th_e (th_e (ib_y (th_n (AC.seq (AC.region ?_))))));refine za ?_;refine AL.nil (th_n (AC.ret (bq_r ?_)));exact ret1 rfl (by rw [hasC, allN_true (fun j hj => hall j (by omega))])
theorem en_l13Has : Enters Tryz.prog 40 := enters_of Tryz.func40 rfl rfl
abbrev strsL (l : List (List UInt8)) : List (List DV) := l.map (fun s => [dS (bstr s)])
abbrev vSs (l : List (List UInt8)) : DV := .view 9 1 (strsL l)
theorem strs_at {l : List (List UInt8)} {k : Nat} (h : k < l.length) : (strsL l)[k]? = some [dS (bstr l[k])] := by
 rw [List.getElem?_map, List.getElem?_eq_getElem h]; rfl
def fst0 (l : List (List UInt8)) : List UInt8 := l.getD 0 []
theorem fst0_at {l : List (List UInt8)} (h : 0 < l.length) : (strsL l)[0]? = some [dS (bstr (fst0 l))] := by
 rw [strs_at h];unfold fst0;rw [List.getD_eq_getElem?_getD, List.getElem?_eq_getElem h]; rfl
theorem fst0_mem {l : List (List UInt8)} (h : 0 < l.length) : fst0 l ∈ l := by
 unfold fst0;rw [List.getD_eq_getElem?_getD, List.getElem?_eq_getElem h]; exact List.getElem_mem h
set_option maxHeartbeats 1000000 in
theorem ifStr_spec (l : List (List UInt8)) (hl : l.length ≤ 1000000) (g : FuncId) (ds : List DV) (hen : Enters Tryz.prog g) (p : List UInt8 → Bool) (hp : ∀ t, t ∈ l → ASpec Tryz.prog g (aS (bstr t) :: ds.map .d) [] (Pure1 (aT (p t)))) : ASpec Tryz.prog 76 [.d (vSs l), .clo g (ds.map .d)] [] (Pure1 (aI (findI p l))) := by
 refine ASpec.of Tryz.func76 rfl rfl fun C hC => ?_
 refine AC.seq (AC.region ?_);refine za ?_;refine AL.nil (th_n (AC.seq (AC.seq (AC.region ?_))));refine zm ?_;refine kH ?_;refine zm ?_;refine AL.nil (th_n (AC.block ?_));refine AC.loop (ι := Nat) (fun k => ⟨19, 0, [(0, .d (vSs l)), (1, .clo g (ds.map .d)), (6, .d (vSs l)), (7, aI l.length), (8, aI k)], []⟩) (fun k => k ≤ l.length ∧ ∀ j (hj : j < l.length), j < k → p l[j] = false) (fun k => l.length - k) (0) ?_ (⟨Nat.zero_le _, fun j _ hj => by omega⟩) ?_
 ·refine Weak.ren _ [] hC rfl ⟨.same, ⟨_, rfl, leadsL_data _ ds⟩, ?_⟩ trivial rfl rfl rfl; repeat (first | exact True.intro | refine And.intro ?_ ?_ | exact DLead.same)
 intro k ⟨hk, hall⟩;refine AC.seq (AC.region ?_);refine zc ?_;refine AL.nil (th_n (AC.seq ?_));refine AC.condD rfl (fun h0 => ?_) (fun h0 => ?_)
 ·refine AC.skip (th_n (AC.seq (AC.block (AC.seq ?_))));have hk1 : k < l.length := by omega
  have hget := strs_at hk1;refine AC.region ?_;refine zm ?_;refine za ?_;refine AL.nil (th_n (AC.seq (AC.region ?_)));refine AL.p (by exact mv6 rfl) rfl ?_;refine zm ?_;refine zm ?_;refine AL.p (by exact g_ia_view rfl rfl rfl rfl rfl (by rfl) (by assumption)) rfl ?_;refine zr ?_;refine AL.q (by exact h_pure hen rfl rfl (by exact ⟨_, _, rfl, .same, leadsL_data _ ds⟩) (hp l[k] (List.getElem_mem hk1)) rfl) rfl ?_;refine AL.nil (th_n ?_);refine AC.condB rfl (fun h1 => ?_) (fun h1 => ?_)
  ·refine AC.seq (AC.region ?_);refine zm ?_;refine za ?_;refine AL.nil (th_n (AC.ret (ib_r (th_r (th_r (ib_r (th_r (bq_r ?_))))))));exact ret1 rfl (by rw [findI_at hk1 h1 (fun j hj => hall j (by omega) hj)])
  refine AC.skip (ib_n (th_n (AC.region ?_)));refine zA ?_;refine zm ?_;refine AL.nil (th_n ?_);exact ⟨k + 1, ⟨by omega, fun j hj hj2 => by rcases Nat.lt_succ_iff_lt_or_eq.1 hj2 with h | rfl; exact hall j hj h; exact h1⟩, by omega, Weak.ren _ [] hC rfl ⟨.same, ⟨_, rfl, leadsL_data _ ds⟩, by repeat (first | exact True.intro | refine And.intro ?_ ?_ | exact DLead.same)⟩ trivial rfl rfl rfl⟩
 refine AC.exit (th_e (th_e (ib_y (th_n (AC.seq (AC.region ?_))))));refine za ?_;refine AL.nil (th_n (AC.ret (bq_r ?_)));exact ret1 rfl (by rw [findI_none (fun j hj => hall j hj (by omega))])
theorem en_ifStr : Enters Tryz.prog 76 := enters_of Tryz.func76 rfl rfl
set_option maxHeartbeats 1000000 in
theorem cfStr_spec (l : List (List UInt8)) (hl : l.length ≤ 1000000) (g : FuncId) (ds : List DV) (hen : Enters Tryz.prog g) (p : List UInt8 → Bool) (hp : ∀ t, t ∈ l → ASpec Tryz.prog g (aS (bstr t) :: ds.map .d) [] (Pure1 (aT (p t)))) : ASpec Tryz.prog 44 [.d (vSs l), .clo g (ds.map .d)] [] (Pure1 (aT (l.any p))) := by
 refine ASpec.of Tryz.func44 rfl rfl fun C hC => ?_
 refine AC.seq (AC.region ?_);refine za ?_;refine AL.nil (th_n (AC.seq (AC.region ?_)));refine zm ?_;refine AL.p (by exact mv6 rfl) rfl ?_;refine AL.q (by exact h_pure en_ifStr rfl rfl (by exact ⟨_, _, rfl, .same, _, _, rfl, ⟨_, rfl, leadsL_data _ ds⟩, rfl⟩) (ifStr_spec l hl g ds hen p hp) rfl) rfl ?_;refine zc ?_;refine za ?_;refine AL.nil (th_n (AC.ret (bq_r ?_)));exact ret1 rfl (by rw [findI_any])
theorem en_cfStr : Enters Tryz.prog 44 := enters_of Tryz.func44 rfl rfl
theorem ext_getD {a b : List UInt8} (hl : a.length = b.length) (h : ∀ j, j < a.length → a.getD j 0 = b.getD j 0) : a = b := List.ext_getElem hl fun j ha hb => by
 have := h j ha;rw [List.getD_eq_getElem?_getD, List.getD_eq_getElem?_getD, List.getElem?_eq_getElem ha, List.getElem?_eq_getElem hb] at this;exact this
inductive BL1 (ids : List Nat) (s : ASt) : DV → AV → Prop
 | d {x : DV} : BL1 ids s x (.d x)
 | nil {e sz : Nat} : BL1 ids s (.view e sz []) (.d (.val (.slice none 0 0)))
 | own {id n e sz : Nat} {els els' : List (List DV)} : ids.contains id = true → s.chunk id = some (.arr e sz els) → n ≤ els.length → els.take n = els' → BL1 ids s (.view e sz els') (.own id n)
 | pred {id : Nat} {x : DV} {v : Value} {S : Nat → Prop} {K : World → Prop} : ids.contains id = true → s.chunk id = some (.pred S K) → (∀ w, K w → DRep S w x v) → BL1 ids s x (.d (.val v))
inductive BLs (ids : List Nat) (s : ASt) : List DV → List AV → Prop
 | nil : BLs ids s [] []
 | cons {d : DV} {c : AV} {ds : List DV} {cs : List AV} : BL1 ids s d c → BLs ids s ds cs → BLs ids s (d :: ds) (c :: cs)
inductive BP (ids : List Nat) (s : ASt) : DV → AV → Prop
 | of {x : DV} {y : AV} : BL1 ids s x y → BP ids s x y
 | ptr {id t : Nat} {cs : List AV} {ds : List DV} : ids.contains id = true → s.chunk id = some (.cells t cs) → BLs ids s ds cs → BP ids s (.ref ds) (.ptr id 0)
inductive BPs (ids : List Nat) (s : ASt) : List DV → List AV → Prop
 | nil : BPs ids s [] []
 | cons {d : DV} {c : AV} {ds : List DV} {cs : List AV} : BP ids s d c → BPs ids s ds cs → BPs ids s (d :: ds) (c :: cs)
theorem BPs.get {ids : List Nat} {s : ASt} {ds : List DV} {cs : List AV} (h : BPs ids s ds cs) : ds.length = cs.length ∧ ∀ (i : Nat) c, cs[i]? = some c → ∃ d, ds[i]? = some d ∧ BP ids s d c := by
 induction h with
 | nil => exact ⟨rfl, fun i c h => by simp at h⟩
 | cons h _ ih =>
  refine ⟨by simp [ih.1], fun i c hc => ?_⟩;cases i with
  | zero => simp at hc; subst hc; exact ⟨_, rfl, h⟩
  | succ i => simpa using ih.2 i c (by simpa using hc)
inductive BL (ids : List Nat) (s : ASt) : AV → AV → Prop
 | cloB {f : FuncId} {ds : List DV} {cs : List AV} : BPs ids s ds cs → BL ids s (.clo f (ds.map .d)) (.clo f cs)
 | of {x : DV} {y : AV} : BL1 ids s x y → BL ids s (.d x) y
 | clo {f : FuncId} {ds : List DV} : BL ids s (.clo f (ds.map .d)) (.clo f (ds.map .d))
 | agg {ds : List DV} : BL ids s (.agg (ds.map .d)) (.agg (ds.map .d))
 | ptr {id t : Nat} {cs : List AV} {ds : List DV} : ids.contains id = true → s.chunk id = some (.cells t cs) → BLs ids s ds cs → BL ids s (.d (.ref ds)) (.ptr id 0)
 | aggs {cs : List AV} {ds : List DV} : BLs ids s ds cs → BL ids s (.agg (ds.map .d)) (.agg cs)
inductive BAs (ids : List Nat) (s : ASt) : List AV → List AV → Prop
 | nil : BAs ids s [] []
 | cons {x y : AV} {xs ys : List AV} : BL ids s x y → BAs ids s xs ys → BAs ids s (x :: xs) (y :: ys)
theorem BLs.get {ids : List Nat} {s : ASt} {ds : List DV} {cs : List AV} (h : BLs ids s ds cs) : ds.length = cs.length ∧ ∀ (i : Nat) d, ds[i]? = some d → ∃ c, cs[i]? = some c ∧ BL1 ids s d c := by
 induction h with
 | nil => exact ⟨rfl, fun i d h => by simp at h⟩
 | cons h _ ih =>
  refine ⟨by simp [ih.1], fun i d hd => ?_⟩;cases i with
  | zero => simp at hd; subst hd; exact ⟨_, rfl, h⟩
  | succ i => simpa using ih.2 i d (by simpa using hd)
theorem BAs.get {ids : List Nat} {s : ASt} {xs ys : List AV} (h : BAs ids s xs ys) : xs.length = ys.length ∧ ∀ (i : Nat) x, xs[i]? = some x → ∃ y, ys[i]? = some y ∧ BL ids s x y := by
 induction h with
 | nil => exact ⟨rfl, fun i d h => by simp at h⟩
 | cons h _ ih =>
  refine ⟨by simp [ih.1], fun i d hd => ?_⟩;cases i with
  | zero => simp at hd; subst hd; exact ⟨_, rfl, h⟩
  | succ i => simpa using ih.2 i d (by simpa using hd)
mutual
def AV.flat : AV → Bool
 | .d (.val _) => true
 | .tup cs => AV.flatL cs
 | .agg cs => AV.flatL cs
 | _ => false
def AV.flatL : List AV → Bool
 | [] => true
 | c :: cs => c.flat && AV.flatL cs
end
theorem AV.flatL_get : ∀ {cs : List AV}, AV.flatL cs = true → ∀ (i : Nat) c, cs[i]? = some c → c.flat = true
 | [], _, i, c, h => by simp at h
 | c :: cs, hf, i, c', h => by
  simp only [AV.flatL, Bool.and_eq_true] at hf;cases i with
  | zero => simp at h; subst h; exact hf.1
  | succ i => exact AV.flatL_get hf.2 i c' (by simpa using h)
theorem ARep.flat {m m' : Nat → Option (Option Nat × Nat)} {F F' : Nat → Prop} {w w' : World} {x : AV} {v : Value} (h : ARep m F w x v) : x.flat = true → ARep m' F' w' x v := by
 induction h with
 | d h => intro hf; rename_i x v; cases x with
  | val u => exact .d (h.flat trivial)
  | _ => simp [AV.flat] at hf
 | agg h1 _ h3 ih => intro hf; exact .agg h1 (fun i c hc => ih i c hc (AV.flatL_get (by simpa [AV.flat] using hf) i c hc)) h3
 | tup h1 _ ih => intro hf; exact .tup h1 (fun i c hc => ih i c hc (AV.flatL_get (by simpa [AV.flat] using hf) i c hc))
 | _ => intro hf; simp [AV.flat] at hf
section
variable {P : Program} [PT P]
variable {s : ASt} {dst : Option Nat} {ty : Nat} {pos : String} {af : Array Edge} {gd : Option (Nat × Bool)} {f : Nat}
theorem BL1.rep {C : Ctx} {U : Nat → Prop} {ids : List Nat} {s' : ASt} {a : Act} {w : World} {m : Nat → Option (Option Nat × Nat)} (hR : RelM C U s' a w m) (hch : ∀ id, id ∈ ids → s'.chunk id = s.chunk id) {F : Nat → Prop} (hF : ∀ k, k < w.heap.size → F k) {x : DV} {y : AV} {v : Value} (h : BL1 ids s x y) (hy : ARep m (Fz C m s' w) w y v) : DRep F w x v := by
 have hFz : ∀ q, Fz C m s' w q → F q := fun q hq => hF q hq.2.1
 cases h with
 | d => cases hy with | d h => exact h.mono hFz
 | nil => cases hy with | d h => cases h; exact .nil
 | @own id n e sz els els' hid hc hn he =>
  subst he;have hc' : s'.chunk id = some (.arr e sz els) := by rw [hch id (by simpa using hid)]; exact hc
  obtain ⟨p, hp, hr, _⟩ := hR.ch id _ hc';exact own_view hy hp hr hn hFz (fun b hb => hF b (hr.lt (.inl hb)))
 | @pred id _ u S K hid hc hK =>
  have hc' : s'.chunk id = some (.pred S K) := by rw [hch id (by simpa using hid)]; exact hc
  obtain ⟨p, hp, hr, _⟩ := hR.ch id _ hc';have hv : v = u := by cases hy with | d h => cases h; rfl
  subst hv;cases hr with
  | pred h1 h2 h3 => exact (hK w h1).mono fun k hk => hF k (h3 k hk)
theorem BP.rep {C : Ctx} {U : Nat → Prop} {ids : List Nat} {s' : ASt} {a : Act} {w : World} {m : Nat → Option (Option Nat × Nat)} (hR : RelM C U s' a w m) (hch : ∀ id, id ∈ ids → s'.chunk id = s.chunk id) {F : Nat → Prop} (hF : ∀ k, k < w.heap.size → F k) {x : DV} {y : AV} {v : Value} (h : BP ids s x y) (hy : ARep m (Fz C m s' w) w y v) : DRep F w x v := by
 have hFz : ∀ q, Fz C m s' w q → F q := fun q hq => hF q hq.2.1
 cases h with
 | of h => exact h.rep hR hch hF hy
 | ptr hid hc hcs =>
  rename_i id t cs ds;have hc' : s'.chunk id = some (.cells t cs) := by rw [hch id (by simpa using hid)]; exact hc
  cases hy with
  | ptr hp =>
   obtain ⟨hl, hg⟩ := hcs.get;cases hR.chunkAt hc' hp with
   | cells hb hs hv h1 =>
    refine .ref (hF _ (lt_of_block hb)) hb (by omega) (fun j d hd => ?_);obtain ⟨c, hc, hdc⟩ := hg j d hd;rw [Nat.zero_add];exact hdc.rep hR hch hF (hv j c hc)
theorem BL.rep {C : Ctx} {U : Nat → Prop} {ids : List Nat} {s' : ASt} {a : Act} {w : World} {m m0 : Nat → Option (Option Nat × Nat)} (hR : RelM C U s' a w m) (hch : ∀ id, id ∈ ids → s'.chunk id = s.chunk id) {F : Nat → Prop} (hF : ∀ k, k < w.heap.size → F k) {x y : AV} {v : Value} (h : BL ids s x y) (hy : ARep m (Fz C m s' w) w y v) : ARep m0 F w x v := by
 have hFz : ∀ q, Fz C m s' w q → F q := fun q hq => hF q hq.2.1
 have hds : ∀ (ds : List DV) (i : Nat) c v, (ds.map AV.d)[i]? = some c → ARep m (Fz C m s' w) w c v → ARep m0 F w c v := by
  intro ds i c v hc hv;rw [List.getElem?_map, Option.map_eq_some_iff] at hc;obtain ⟨d, _, rfl⟩ := hc;cases hv with | d h => exact .d (h.mono hFz)
 cases h with
 | cloB hcs =>
  obtain ⟨hl, hg⟩ := hcs.get;cases hy with
  | clo h1 h2 =>
   refine .clo (by rw [h1, List.length_map, hl]) (fun i c hc => ?_);rw [List.getElem?_map, Option.map_eq_some_iff] at hc;obtain ⟨d, hd, rfl⟩ := hc;have hi : i < _ := (List.getElem?_eq_some_iff.1 hd).1;obtain ⟨d', hd', hb⟩ := hg i _ (List.getElem?_eq_getElem (by omega));rw [hd] at hd';cases hd';exact .d (hb.rep hR hch hF (h2 i _ (List.getElem?_eq_getElem (by omega))))
 | of h => exact .d (h.rep hR hch hF hy)
 | clo => cases hy with | clo h1 h2 => exact .clo h1 (fun i c hc => hds _ i c _ hc (h2 i c hc))
 | agg => cases hy with | agg h1 h2 h3 => exact .agg h1 (fun i c hc => hds _ i c _ hc (h2 i c hc)) h3
 | aggs hcs =>
  obtain ⟨hl, hg⟩ := hcs.get;cases hy with
  | agg h1 h2 h3 =>
   refine .agg (by rw [h1, List.length_map, hl]) (fun i c hc => ?_) h3;rw [List.getElem?_map, Option.map_eq_some_iff] at hc;obtain ⟨d, hd, rfl⟩ := hc;obtain ⟨c', hc', hdc⟩ := hg i d hd;exact .d (hdc.rep hR hch hF (h2 i c' hc'))
 | ptr hid hc hcs =>
  rename_i id t cs ds;have hc' : s'.chunk id = some (.cells t cs) := by rw [hch id (by simpa using hid)]; exact hc
  cases hy with
  | ptr hp =>
   obtain ⟨hl, hg⟩ := hcs.get;cases hR.chunkAt hc' hp with
   | cells hb hs hv h1 =>
    refine .d (.ref (hF _ (lt_of_block hb)) hb (by omega) (fun j d hd => ?_));obtain ⟨c, hc, hdc⟩ := hg j d hd;rw [Nat.zero_add];exact hdc.rep hR hch hF (hv j c hc)
theorem h_borrow (ids : List Nat) {g : FuncId} {caps ys ars : List AV} {fx : Operand} {xs : Array Operand} {ats : Array TypeId} {r : AV} (hen : Enters P g) (hf : s.ev fx = .clo g caps) (hys : xs.toList.map s.ev ++ caps = ys)
  (hspec : ASpec P g ars [] (Pure1 r)) (hlead : BAs ids s ars ys) (hr : r.flat = true) :
  NOp P ids s ⟨dst, .call { callee := .value fx, args := xs, argTypes := ats }, ty, pos, af, gd⟩ f ⟨r, []⟩ := by
 refine ⟨fun s' ha C U U' a w m hR hU hU' hd K Q hK => ?_⟩;have hfx := hR.ev fx;rw [ha.2.1 fx (by simp [Op.operands, Call.operands]), hf] at hfx;generalize hfv : a.eval fx = fv at hfx;cases hfx with
 | clo hc1 hc2 =>
  rename_i cv
  have hrun : (execOp a.eval ⟨dst, .call { callee := .value fx, args := xs, argTypes := ats }, ty, pos, af, gd⟩).run P w = .ok (.enter g (xs.map a.eval ++ cv)) w := by
   simp [execOp, resolve, hfv, Deferred.ofValue, invoke, hen (xs.map a.eval ++ cv) w]
  obtain ⟨hl1, hl2⟩ := hlead.get
  have harg : ∀ (i : Nat) y, ys[i]? = some y → ARep m (Fz C m s' w) w y ((xs.map a.eval ++ cv).getD i undef) := by
   intro i y hy;rw [← hys] at hy
   by_cases hi : i < xs.size
   ·rw [List.getElem?_append_left (by simpa using hi), List.getElem?_map, Option.map_eq_some_iff] at hy;obtain ⟨x, hx, rfl⟩ := hy;have hx' : xs[i]? = some x := by simpa using hx
    have := hR.ev x;rw [ha.2.1 x (by simp only [Op.operands, Call.operands, Array.mem_append]; exact .inr (Array.mem_of_getElem? hx'))] at this
    have e : (xs.map a.eval ++ cv).getD i undef = a.eval x := by
     have hxi : xs[i] = x := (Array.getElem?_eq_some_iff.1 hx').2;simp [Array.getD_eq_getD_getElem?, Array.getElem?_append, hi, hxi]
    rw [e]; exact this
   rw [List.getElem?_append_right (by simpa using Nat.le_of_not_lt hi)] at hy;have := hc2 _ y hy
   have e : (xs.map a.eval ++ cv).getD i undef = cv.getD (i - xs.size) undef := by
    simp [Array.getD_eq_getD_getElem?, Array.getElem?_append, hi]
   rw [e]; simpa using this
  have hcall := hspec w (fun _ => none) (fun k => k < w.heap.size) (xs.map a.eval ++ cv) (fun k hk => ⟨hk, fun id c p hc => by simp [getL] at hc⟩) ?_ ?_ (fun id c hc => by simp [getL] at hc) (fun id id' c c' p p' b hc => by simp [getL] at hc) (fun id _ => rfl)
  ·unfold Oper.wp;rw [hrun];simp only [Oper.upon];refine Calls.mono hcall ?_;rintro e w' ⟨v, r', chs', m1, F1, rfl, ⟨rfl, rfl⟩, -, -, -, ⟨f1, f2, f3, f4, f5⟩, hv, -, -⟩;have hold : ∀ k, k < w.heap.size → w'.heap[k]? = w.heap[k]? := fun k hk => f5 k hk (fun id c p hc => by simp [getL] at hc)
   refine hK _ _ m (hR.step hd (MLe.refl m) (fun j hj => hR.un j (hU' j hj).1) ?_ f4 (fun k hk => ⟨fun id c p hc => by simp [getL] at hc, hold k hk.2.1⟩) (fun id c p b h0 h1 h2 h3 => ?_) (fun F' hF hF2 => ⟨hv.flat hr, fun id c hc => by simp [getL] at hc⟩) (fun id id' c c' p p' b hc => by simp [getL] at hc))
   ·refine ⟨f1.trans hR.fr.os, f2.trans hR.fr.tape, f3.trans hR.fr.output, Nat.le_trans hR.fr.size f4, fun k hk hn => ?_⟩;rw [hold k (Nat.lt_of_lt_of_le hk hR.fr.size)];exact hR.fr.block k hk hn
   refine hold b ?_;obtain ⟨q, hq, hr', _⟩ := hR.ch id c h1;rw [h2] at hq;obtain rfl : p = q := by simpa using hq
   exact hr'.lt h3
  ·have : ys.length = xs.size + caps.length := by rw [← hys]; simp
   simp only [Array.size_append, Array.size_map];omega
  intro i x hx;obtain ⟨y, hy, hxy⟩ := hl2 i x hx;exact hxy.rep hR ha.2.2 (fun k hk => hk) (harg i y hy)
theorem Weak.freezeRef {C : Ctx} (i : Nat) {id t : Nat} {ds : List DV} (hs : s.get i = .ptr id 0) (hc : s.chunk id = some (.cells t (ds.map .d))) : Weak C s { s with sl := (i, .d (.ref ds)) :: s.sl, ch := (id, none) :: s.ch } := by
 refine ⟨?_⟩;rintro a w ⟨m, hR⟩
 have hch : ∀ j c, (getL j ((id, none) :: s.ch)).getD none = some c → j ≠ id ∧ s.chunk j = some c := by
  intro j c h;rw [getL_cons] at h
  split at h
  ·simp at h
  rename_i e; exact ⟨e, h⟩
 have hF : ∀ q, Fz C m s w q → Fz C m { s with sl := (i, .d (.ref ds)) :: s.sl, ch := (id, none) :: s.ch } w q := fun q hq => ⟨hq.1, hq.2.1, fun j c p h1 h2 => hq.2.2 j c p (hch j c h1).2 h2⟩
 refine ⟨m, hR.fr, hR.fin, hR.sz, fun j => ?_, fun j c h1 => ?_, fun j j' c c' p p' h1 h2 hp hp' b hb hb' => hR.inj j j' c c' p p' (hch j c h1).2 (hch j' c' h2).2 hp hp' b hb hb', hR.un, hR.defers, hR.m0, hR.m0k⟩
 ·show ARep _ _ _ ((getL j ((i, .d (.ref ds)) :: s.sl)).getD .dead) _;rw [getL_cons]
  by_cases hj : j = i
  ·subst hj;rw [if_pos rfl];have hv := hR.sl j;rw [hs] at hv;generalize a.tmps.getD j undef = v at hv;simp only [Option.getD_some];cases hv with
   | ptr hp =>
    rename_i b cap;have hC := hR.chunkAt hc hp;cases hC with
    | cells hb hsz hv h1 =>
     obtain ⟨q, hq, hr, hloc⟩ := hR.ch id _ hc;rw [hp] at hq;obtain rfl : (some b, cap) = q := by simpa using hq
     have hFb : Fz C m { s with sl := (j, .d (.ref ds)) :: s.sl, ch := (id, none) :: s.ch } w b := by
      refine ⟨.inr (hloc b (.inl rfl)), lt_of_block hb, fun j' c p h1 h2 h3 => ?_⟩;obtain ⟨hne, h4⟩ := hch j' c h1;exact hne (hR.inj j' id c _ p _ h4 hc h2 hp b h3 (.inl rfl))
     refine .d (.ref hFb hb (by simp at hsz; omega) (fun k d hd => ?_));have := hv k (.d d) (by simp [hd]);rw [Nat.zero_add];cases this with | d h => exact h.mono hF
  rw [if_neg hj];exact (hR.sl j).turn (MLe.refl m) (fun k hk _ => ⟨hF k hk, rfl⟩)
 obtain ⟨_, h2⟩ := hch j c h1;obtain ⟨p, hp, hr, hl⟩ := hR.ch j c h2;exact ⟨p, hp, hr.turn (MLe.refl m) (fun k hk _ => ⟨hF k hk, rfl⟩) (fun _ _ => rfl), hl⟩
theorem RelM.freeze {C : Ctx} {U : Nat → Prop} {a : Act} {w : World} {m : Nat → Option (Option Nat × Nat)} (hR : RelM C U s a w m) {i id n e sz : Nat} {els els' : List (List DV)} (hs : s.get i = .own id n) (hc : s.chunk id = some (.arr e sz els)) (hn : n ≤ els.length) (he : els.take n = els') : RelM C U { s with sl := (i, .d (.view e sz els')) :: s.sl, ch := (id, none) :: s.ch } a w m := by
 subst he
 have hch : ∀ j c, (getL j ((id, none) :: s.ch)).getD none = some c → j ≠ id ∧ s.chunk j = some c := by
  intro j c h;rw [getL_cons] at h
  split at h
  ·simp at h
  rename_i e; exact ⟨e, h⟩
 have hF : ∀ q, Fz C m s w q → Fz C m { s with sl := (i, .d (.view e sz (els.take n))) :: s.sl, ch := (id, none) :: s.ch } w q := fun q hq => ⟨hq.1, hq.2.1, fun j c p h1 h2 => hq.2.2 j c p (hch j c h1).2 h2⟩
 refine ⟨hR.fr, hR.fin, hR.sz, fun j => ?_, fun j c h1 => ?_, fun j j' c c' p p' h1 h2 hp hp' b hb hb' => hR.inj j j' c c' p p' (hch j c h1).2 (hch j' c' h2).2 hp hp' b hb hb', hR.un, hR.defers, hR.m0, hR.m0k⟩
 ·show ARep _ _ _ ((getL j ((i, .d (.view e sz (els.take n))) :: s.sl)).getD .dead) _;rw [getL_cons]
  by_cases hj : j = i
  ·subst hj;rw [if_pos rfl];have hv := hR.sl j;rw [hs] at hv;generalize a.tmps.getD j undef = v at hv;simp only [Option.getD_some];cases hv with
   | own hp h0 =>
    rename_i cap b;have hC := hR.chunkAt hc hp;cases hC with
    | nil h =>
     have : n = 0 := by simpa using hn
     subst this;exact .d .nil
    | arr hb hf hsz hl hm h0' hrow hel =>
     rename_i b arr fz;have hlen : (els.take n).length = n := by simp; omega
     have hsub : ∀ (i : Nat) cs, (els.take n)[i]? = some cs → els[i]? = some cs := by
      intro i cs hi;rw [List.getElem?_take] at hi
      split at hi
      ·exact hi
      cases hi
     obtain ⟨q, hq, hr, hloc⟩ := hR.ch id _ hc;rw [hp] at hq;obtain rfl : (some b, cap) = q := by simpa using hq
     have hFb : Fz C m { s with sl := (j, .d (.view e sz (els.take n))) :: s.sl, ch := (id, none) :: s.ch } w b := by
      refine ⟨.inr (hloc b (.inl rfl)), lt_of_block hb, fun j' c p h1 h2 h3 => ?_⟩;obtain ⟨hne, h4⟩ := hch j' c h1;exact hne (hR.inj j' id c _ p _ h4 hc h2 hp b h3 (.inl rfl))
     have := DRep.view (F := Fz C m { s with sl := (j, .d (.view e sz (els.take n))) :: s.sl, ch := (id, none) :: s.ch } w) (e := e) (sz := sz) (els := els.take n) (off := 0) (cap := cap) hFb hb (by omega) hm (by omega) (fun i cs hi => hrow i cs (hsub i cs hi)) (fun i cs j d hi hj => by rw [Nat.zero_add]; exact (hel i cs j d (hsub i cs hi) hj).mono hF);rw [hlen] at this;exact .d this
  rw [if_neg hj];exact (hR.sl j).turn (MLe.refl m) (fun k hk _ => ⟨hF k hk, rfl⟩)
 obtain ⟨_, h2⟩ := hch j c h1;obtain ⟨p, hp, hr, hl⟩ := hR.ch j c h2;exact ⟨p, hp, hr.turn (MLe.refl m) (fun k hk _ => ⟨hF k hk, rfl⟩) (fun _ _ => rfl), hl⟩
end
structure Lab where
 sig : Int
 up : Bool
 deriving DecidableEq
structure Bur where
 from_ : Int
 inn : List Lab
 out : List Lab
 to_ : Int
 deriving DecidableEq
def bitLb (up : Bool) : UInt8 := bif up then 49 else 48
def turnL (code : List UInt8) : List Lab → Option (List UInt8)
 | [] => some code
 | x :: l => if code.getD x.sig.toNat 0 = bitLb (!x.up) then turnL (code.set x.sig.toNat (bitLb x.up)) l else none
def cAtL (cs : List (List UInt8)) (i : Int) : List UInt8 := cs.getD i.toNat []
def stepB (cs : List (List UInt8)) (b : Bur) : Option (List (List UInt8)) :=
 if cAtL cs b.from_ = [] then some cs else
  match turnL (cAtL cs b.from_) (b.inn ++ b.out) with
  | none => none
  | some nx => if cAtL cs b.to_ ≠ [] ∧ cAtL cs b.to_ ≠ nx then none else some (cs.set b.to_.toNat nx)
def BitC (n : Nat) (c : List UInt8) : Prop := c.length = n ∧ ∀ b, b ∈ c → b = 48 ∨ b = 49
theorem BitC.set {n : Nat} {c : List UInt8} (h : BitC n c) (i : Nat) (up : Bool) : BitC n (c.set i (bitLb up)) := by
 refine ⟨by rw [List.length_set]; exact h.1, fun b hb => ?_⟩;rcases List.mem_or_eq_of_mem_set hb with h1 | rfl
 ·exact h.2 b h1
 cases up <;> simp [bitLb]
theorem turnL_bit {n : Nat} : ∀ {l : List Lab} {c c' : List UInt8}, BitC n c → turnL c l = some c' → BitC n c'
 | [], c, c', h, e => by simp only [turnL, Option.some.injEq] at e; subst e; exact h
 | x :: l, c, c', h, e => by
  simp only [turnL] at e
  split at e
  ·exact turnL_bit (h.set _ _) e
  cases e
structure CodesOk (n : Nat) (k : Nat) (cs : List (List UInt8)) : Prop where
 l : cs.length = k
 c : ∀ c, c ∈ cs → c = [] ∨ BitC n c
theorem CodesOk.at {n k : Nat} {cs : List (List UInt8)} (h : CodesOk n k cs) (i : Int) : cAtL cs i = [] ∨ BitC n (cAtL cs i) := by
 unfold cAtL;rw [List.getD_eq_getElem?_getD];cases e : cs[i.toNat]? with
 | none => exact .inl rfl
 | some c => exact h.c c (List.mem_of_getElem? e)
theorem CodesOk.set {n k : Nat} {cs : List (List UInt8)} (h : CodesOk n k cs) (i : Nat) {c : List UInt8} (hc : BitC n c) : CodesOk n k (cs.set i c) := by
 refine ⟨by rw [List.length_set]; exact h.l, fun x hx => ?_⟩;rcases List.mem_or_eq_of_mem_set hx with h1 | rfl
 ·exact h.c x h1
 exact .inr hc
theorem CodesOk.step {n k : Nat} {cs cs' : List (List UInt8)} {b : Bur} (h : CodesOk n k cs) (e : stepB cs b = some cs') : CodesOk n k cs' := by
 unfold stepB at e
 split at e
 ·simp only [Option.some.injEq] at e; subst e; exact h
 rename_i hne
 split at e
 ·cases e
 rename_i nx hnx
 split at e
 ·cases e
 simp only [Option.some.injEq] at e;subst e;have hb := (h.at b.from_).resolve_left hne;exact h.set _ (turnL_bit hb hnx)
theorem DRep.val_is {F : Nat → Prop} {w : World} {u v : Value} (h : DRep F w (.val u) v) : v = u ∧ okV u := by
 cases h with
 | val h => exact ⟨rfl, h⟩
section
variable {P : Program} [PT P]
variable {s : ASt} {dst : Option Nat} {ty : Nat} {pos : String} {af : Array Edge} {gd : Option (Nat × Bool)} {x y : Operand} {t : Nat}
theorem g_saddB {a b : List UInt8} {xt yt : Nat} (hx : s.ev x = aS (bstr a)) (hy : s.ev y = aS (bstr b)) (hl : a.length + b.length ≤ 4611686018427387904) : GOp P [] s ⟨dst, .binOp .add xt x y yt, ty, pos, af, gd⟩ (aS (bstr (a ++ b))) := by
 rw [← bstr_append];exact g_sadd hx hy (by rw [bstr_size, bstr_size]; omega)
end
open Go.ChangeShapes Go.WideShapes Go.ChangeAt Go.RowKit
section
variable {H : Type} {enc : TypeId × Value → H} {P : Program}
structure RT (enc : TypeId × Value → H) (P : Program) (t : TypeId) (k : Nat) {α : Type} (f : α → List DV) (ok : α → Prop) : Prop where
 rd : ∀ (W : World) (fuel : Nat) (cs : List Value) (x : DataW H × List MemPlace), DataW.trod enc P W 0 (fun _ => true) true fuel t cs = some x →
  cs.length = k ∧ ∃ a, ok a ∧ (f a).length = k ∧ ∀ j d, (f a)[j]? = some d → DRep (fun k => k < W.heap.size) W d (cs.getD j undef)
theorem get1 {x d : DV} {j : Nat} (h : [x][j]? = some d) : j = 0 ∧ d = x := by
 cases j with
 | zero => simp at h; exact ⟨rfl, h.symm⟩
 | succ j => simp at h
def okI (n : Int) : Prop := -9223372036854775808 ≤ n ∧ n ≤ 9223372036854775807
theorem RT.int {t : TypeId} (ht : P.underlying t = some (.int .i64)) : RT enc P t 1 (fun n : Int => [dI n]) okI := by
 refine ⟨fun W fuel cs x h => ?_⟩;obtain ⟨n, rfl, rfl, hwf⟩ := DataW.trod_int ht h;have hb := bounds_i64 hwf;refine ⟨rfl, n, hb, rfl, fun j d hj => ?_⟩;obtain ⟨rfl, rfl⟩ := get1 hj;refine .val ?_;show IntKind.i64.wrap n = n;exact wrap_i64 hb
theorem RT.bool {t : TypeId} (ht : P.underlying t = some .bool) : RT enc P t 1 (fun b : Bool => [dT b]) (fun _ => True) := by
 refine ⟨fun W fuel cs x h => ?_⟩;obtain ⟨b, rfl, rfl⟩ := DataW.trod_bool ht h;exact ⟨rfl, b, trivial, rfl, fun j d hj => by obtain ⟨rfl, rfl⟩ := get1 hj; exact .val trivial⟩
theorem RT.str {t : TypeId} (ht : P.underlying t = some .string) : RT enc P t 1 (fun s : List UInt8 => [dS (bstr s)]) (fun s => s.length ≤ 9223372036854775807) := by
 refine ⟨fun W fuel cs x h => ?_⟩;obtain ⟨s, rfl, rfl, hm⟩ := DataW.trod_string ht h;have hsz : s.data.toList.length = s.size := by simp
 have he : bstr s.data.toList = s := by
  apply ByteArray.ext
  simp [bstr]
 refine ⟨rfl, s.data.toList, by rw [hsz]; exact hm, rfl, fun j d hj => ?_⟩;simp only [he] at hj;obtain ⟨rfl, rfl⟩ := get1 hj;exact .val hm
theorem list_of {α : Type} {n : Nat} {Q : Nat → α → Prop} (h : ∀ i, i < n → ∃ a, Q i a) : ∃ l : List α, l.length = n ∧ ∀ i a, l[i]? = some a → Q i a := by
 induction n with
 | zero => exact ⟨[], rfl, fun i a h => by simp at h⟩
 | succ n ih =>
  obtain ⟨l, hl, hq⟩ := ih fun i hi => h i (by omega)
  obtain ⟨a, ha⟩ := h n (by omega);refine ⟨l ++ [a], by simp [hl], fun i b hb => ?_⟩
  by_cases hi : i < l.length
  ·rw [List.getElem?_append_left hi] at hb; exact hq i b hb
  rw [List.getElem?_append_right (by omega)] at hb
  have h0 : i - l.length = 0 := by
   by_cases e : i - l.length = 0
   ·exact e
   rw [List.getElem?_eq_none (by simp; omega)] at hb; cases hb
  rw [h0] at hb;simp at hb; subst hb;have : i = n := by omega
  subst this; exact ha
theorem RT.slice {t e : TypeId} {k : Nat} {α : Type} {f : α → List DV} {ok : α → Prop} (te : Nat) (ht : P.underlying t = some (.slice e)) (hc : P.cellsOf e = k) (hk : 0 < k) (hr : RT enc P e k f ok) :
  RT enc P t 1 (fun l : List α => [.view te k (l.map f)]) (fun l => l.length ≤ 9223372036854775807 ∧ ∀ a, a ∈ l → ok a) := by
 refine ⟨fun W fuel cs x h => ?_⟩;rcases DataW.trod_slice ht h with ⟨rfl, _⟩ | ⟨a, len, cap, elems, rest, n, _, rfl, _, _, hl, hm, hlen, hel, hsp, _⟩
 ·exact ⟨rfl, [], ⟨Nat.zero_le _, fun a ha => absurd ha List.not_mem_nil⟩, rfl, fun j d hj => by obtain ⟨rfl, rfl⟩ := get1 hj; exact .nil⟩
 refine ⟨rfl, ?_⟩;rw [hc] at hel hsp;obtain ⟨hrl, hrs⟩ := hsp rfl
 -- every element up to the capacity is there
 have hcell : ∀ i, i < cap → ∃ cs', W.cells? 0 (a.add (i * k)) k = some cs' ∧ ∃ y, DataW.trod enc P W 0 (fun _ => true) true n e cs' = some y := by
  intro i hi
  by_cases hil : i < len
  ·have h1 := hel i hil;rw [List.getElem?_eq_getElem (by omega)] at h1;obtain ⟨cs', h2, h3⟩ := Option.bind_eq_some_iff.1 h1;exact ⟨cs', h2, _, h3⟩
  have h1 := hrs (i - len) (by omega);rw [show len + (i - len) = i by omega, List.getElem?_eq_getElem (by omega)] at h1;obtain ⟨cs', h2, h3⟩ := Option.bind_eq_some_iff.1 h1;exact ⟨cs', h2, _, h3⟩
 by_cases hc0 : cap = 0
 ·subst hc0;have : len = 0 := by omega
  subst this;exact ⟨[], ⟨Nat.zero_le _, fun a ha => absurd ha List.not_mem_nil⟩, rfl, fun j d hj => by obtain ⟨rfl, rfl⟩ := get1 hj; exact .empty⟩
 obtain ⟨b, off, sp⟩ := a
 have hrow : ∀ i, i < cap → ∀ j, j < k → ∃ v, W.cell? (((⟨b, off, sp⟩ : Addr).add (i * k)).add j) = some v := by
  intro i hi j hj;obtain ⟨cs', h1, _⟩ := hcell i hi;obtain ⟨_, h2, h3⟩ := World.cells?_some h1;rw [h3 j hj, List.getElem?_eq_getElem (by omega)];exact ⟨_, rfl⟩
 have h00 := hrow 0 (by omega) 0 hk
 have hsp0 : sp = none := by
  obtain ⟨v, hv⟩ := h00;cases sp with
  | none => rfl
  | some q =>
   unfold World.cell? Addr.add at hv
   split at hv
   ·split at hv <;> simp_all
   cases hv
 subst hsp0;have hadd : ∀ i j, ((⟨b, off, none⟩ : Addr).add (i * k)).add j = ⟨b, off + i * k + j, none⟩ := fun i j => by rw [Addr.add_mid, Addr.add_mid]
 simp only [hadd] at hrow
 obtain ⟨arr, e2, fz, hb⟩ : ∃ arr e2 fz, W.heap[b]? = some (.cells arr e2 fz) := by
  obtain ⟨v, hv⟩ := hrow 0 (by omega) 0 hk;unfold World.cell? at hv
  split at hv
  ·rename_i c e2 fz hb; exact ⟨c, e2, fz, hb⟩
  cases hv
 have hget : ∀ q, W.cell? ⟨b, q, none⟩ = arr[q]? := by intro q; simp [World.cell?, hb]
 have hsz : off + cap * k ≤ arr.size := by
  obtain ⟨v, hv⟩ := hrow (cap - 1) (by omega) (k - 1) (by omega);rw [hget] at hv;have := (Array.getElem?_eq_some_iff.1 hv).1;obtain ⟨c, rfl⟩ : ∃ c, cap = c + 1 := ⟨cap - 1, by omega⟩;rw [Nat.add_sub_cancel] at this;rw [Nat.succ_mul]; omega
 have hall : ∀ i, i < len → ∃ a, ok a ∧ (f a).length = k ∧ ∀ j d, (f a)[j]? = some d → DRep (fun k => k < W.heap.size) W d (arr.getD (off + i * k + j) undef) := by
  intro i hi;obtain ⟨cs', h1, y, h2⟩ := hcell i (by omega);obtain ⟨h3, a, h4, h5, h6⟩ := hr.rd W n cs' y h2;obtain ⟨_, h7, h8⟩ := World.cells?_some h1;refine ⟨a, h4, h5, fun j d hj => ?_⟩;have hj1 := (List.getElem?_eq_some_iff.1 hj).1;have h9 := h8 j (by omega);rw [hadd, hget] at h9
  have : arr.getD (off + i * k + j) undef = cs'.getD j undef := by
   rw [Array.getD_eq_getD_getElem?, h9, List.getD_eq_getElem?_getD]
  rw [this];exact h6 j d hj
 obtain ⟨l, hll, hq⟩ := list_of hall
 have hin : ∀ a, a ∈ l → ok a ∧ (f a).length = k := by
  intro a ha;obtain ⟨i, hi⟩ := List.getElem?_of_mem ha;exact ⟨(hq i a hi).1, (hq i a hi).2.1⟩
 refine ⟨l, ⟨by have : cap ≤ 9223372036854775807 := hm; omega, fun a ha => (hin a ha).1⟩, rfl, fun j d hj => ?_⟩;obtain ⟨rfl, rfl⟩ := get1 hj;have hle : (l.map f).length = len := by rw [List.length_map, hll]
 have hv := DRep.view (F := fun k => k < W.heap.size) (w := W) (e := te) (sz := k) (els := l.map f) (b := b) (off := off) (cap := cap) (arr := arr) (lt_of_block hb) hb (by omega) hm hsz (fun i cs hi => ?_) (fun i cs j d hi hj => ?_)
 ·rw [hle] at hv; exact hv
 ·rw [List.getElem?_map, Option.map_eq_some_iff] at hi;obtain ⟨a, ha, rfl⟩ := hi;exact (hin a (List.mem_of_getElem? ha)).2
 rw [List.getElem?_map, Option.map_eq_some_iff] at hi;obtain ⟨a, ha, rfl⟩ := hi;exact (hq i a ha).2.2 j d hj
theorem RT.imp {t : TypeId} {k : Nat} {α β : Type} {f : α → List DV} {ok : α → Prop} {f' : β → List DV} {ok' : β → Prop} (h : RT enc P t k f ok) (g : α → β) (hf : ∀ a, ok a → f' (g a) = f a) (ho : ∀ a, ok a → ok' (g a)) : RT enc P t k f' ok' :=
 ⟨fun W fuel cs x hx => by
  obtain ⟨h1, a, h2, h3, h4⟩ := h.rd W fuel cs x hx
  exact ⟨h1, g a, ho a h2, by rw [hf a h2]; exact h3, by rw [hf a h2]; exact h4⟩⟩
end
inductive AReps (m : Nat → Option (Option Nat × Nat)) (F : Nat → Prop) (W : World) : List AV → List Value → Prop
 | nil : AReps m F W [] []
 | cons {x : AV} {v : Value} {xs : List AV} {vs : List Value} : ARep m F W x v → AReps m F W xs vs → AReps m F W (x :: xs) (v :: vs)
theorem AReps.at {m : Nat → Option (Option Nat × Nat)} {F : Nat → Prop} {W : World} {xs : List AV} {vs : List Value} (h : AReps m F W xs vs) : ∀ (i : Nat) a, xs[i]? = some a → ARep m F W a (vs.toArray.getD i undef) := by
 have key : ∀ (i : Nat) a, xs[i]? = some a → ARep m F W a (vs.getD i undef) := by
  induction h with
  | nil => intro i a h; simp at h
  | cons h _ ih =>
   intro i a hi;cases i with
   | zero => simp at hi; subst hi; exact h
   | succ i => simp at hi; exact ih i a hi
 intro i a hi;have := key i a hi;have e : vs.toArray.getD i undef = vs.getD i undef := by simp [List.getD_eq_getElem?_getD, Array.getD_eq_getD_getElem?]
 rwa [e]
end Go.Proofs.YtiaieidhhlmfmaaGreat
