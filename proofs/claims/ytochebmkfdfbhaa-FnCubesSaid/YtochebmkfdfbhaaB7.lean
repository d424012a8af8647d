/- A statement whose operations may come in more than one order. No program is named here. -/
import Derived.Test.YtochebmkfdfbhaaB6
import Derived.Orders
set_option linter.all false
namespace Go.Proofs.Ytochebmkfdfbhaa
open Go.RowKit

abbrev ORec := Upd × List Nat
def memL (k : Nat) : List Nat → Bool
  | [] => false
  | j :: l => bif Nat.beq k j then true else memL k l
theorem memL_iff {k : Nat} {l : List Nat} : memL k l = true ↔ k ∈ l := by
  induction l with
  | nil => simp [memL]
  | cons j l ih =>
    simp only [memL, List.mem_cons]
    by_cases h : k = j
    · subst h; simp
    · have : Nat.beq k j = false := by cases hb : Nat.beq k j with
        | true => exact absurd (by simpa using hb) h
        | false => rfl
      simp [this, ih, h]
theorem memL_not {k : Nat} {l : List Nat} : memL k l = false ↔ k ∉ l := by
  rw [← memL_iff]; simp
/-- The slots behind those operations that L names. -/
def goS (L : Nat → Bool) : Nat → List Oper → List ORec → List (Nat × AV) → List (Nat × AV)
  | k, o :: os, r :: rs, acc => goS L (k + 1) os rs (match L k, o.dst with | true, some d => (d, r.1.r) :: acc | _, _ => acc)
  | _, _, _, acc => acc
def goC (L : Nat → Bool) : Nat → List Oper → List ORec → List (Nat × Option Chunk) → List (Nat × Option Chunk)
  | k, o :: os, r :: rs, acc => goC L (k + 1) os rs (match L k with | true => r.1.ch ++ acc | _ => acc)
  | _, _, _, acc => acc
def mkS (s : ASt) (L : Nat → Bool) (ops : List Oper) (recs : List ORec) : ASt := ⟨s.n, s.nx + 8 * ops.length, goS L 0 ops recs s.sl, goC L 0 ops recs s.ch⟩

theorem goS_same {t : Nat} {L L' : Nat → Bool} : ∀ (os : List Oper) (rs : List ORec) (k : Nat) (a a' : List (Nat × AV)), (∀ i o, os[i]? = some o → o.dst = some t → L (k + i) = L' (k + i)) → getL t a = getL t a' → getL t (goS L k os rs a) = getL t (goS L' k os rs a')
  | [], rs, k, a, a', h, ha => by simpa [goS] using ha
  | o :: os, [], k, a, a', h, ha => by simpa [goS] using ha
  | o :: os, r :: rs, k, a, a', h, ha => by
    simp only [goS]
    refine goS_same os rs (k + 1) _ _ (fun i o' hi hd => by have := h (i + 1) o' (by simpa using hi) hd; rw [show k + 1 + i = k + (i + 1) by omega]; exact this) ?_
    cases hd : o.dst with
    | none => cases L k <;> cases L' k <;> simpa using ha
    | some d =>
      by_cases hdt : d = t
      · subst hdt
        have := h 0 o rfl hd
        rw [Nat.add_zero] at this
        rw [this]
        cases L' k <;> simp [getL_cons, ha]
      · have key : ∀ (b : Bool) (x : List (Nat × AV)), getL t (match b, some d with | true, some d => (d, r.1.r) :: x | _, _ => x) = getL t x := by
          intro b x; cases b <;> simp [getL_cons, Ne.symm hdt]
        rw [key, key]; exact ha
theorem goC_same {t : Nat} {L L' : Nat → Bool} : ∀ (os : List Oper) (rs : List ORec) (k : Nat) (a a' : List (Nat × Option Chunk)), (∀ i r, rs[i]? = some r → getL t r.1.ch ≠ none → L (k + i) = L' (k + i)) → getL t a = getL t a' → getL t (goC L k os rs a) = getL t (goC L' k os rs a')
  | [], rs, k, a, a', h, ha => by simpa [goC] using ha
  | o :: os, [], k, a, a', h, ha => by simpa [goC] using ha
  | o :: os, r :: rs, k, a, a', h, ha => by
    simp only [goC]
    refine goC_same os rs (k + 1) _ _ (fun i o' hi hd => by have := h (i + 1) o' (by simpa using hi) hd; rw [show k + 1 + i = k + (i + 1) by omega]; exact this) ?_
    by_cases hr : getL t r.1.ch = none
    · have key : ∀ (b : Bool) (x : List (Nat × Option Chunk)), getL t (match b with | true => r.1.ch ++ x | _ => x) = getL t x := by
        intro b x; cases b <;> simp [getL_append, hr]
      rw [key, key]; exact ha
    · have := h 0 r rfl hr
      rw [Nat.add_zero] at this
      rw [this]
      cases L' k <;> simp [getL_append, ha]
/-- One operation more, which no later one of L overwrites. -/
theorem goS_more {t i : Nat} {L : Nat → Bool} {r0 : ORec} : ∀ (os : List Oper) (rs : List ORec) (k : Nat) (a : List (Nat × AV)) (o0 : Oper), k ≤ i → os[i - k]? = some o0 → rs[i - k]? = some r0 → (∀ j o, os[j]? = some o → i < k + j → L (k + j) = true → o.dst = some t → o0.dst ≠ some t) →
    getL t (goS (fun j => L j || j == i) k os rs a) = if o0.dst = some t then some r0.1.r else getL t (goS L k os rs a)
  | [], rs, k, a, o0, hk, h1, h2, h3 => by simp at h1
  | o :: os, [], k, a, o0, hk, h1, h2, h3 => by simp at h2
  | o :: os, r :: rs, k, a, o0, hk, h1, h2, h3 => by
    simp only [goS]
    by_cases hki : k = i
    · subst hki
      rw [Nat.sub_self] at h1 h2
      simp only [List.getElem?_cons_zero, Option.some.injEq] at h1 h2
      subst h1; subst h2
      -- behind i, L and L+i agree
      have hsame : ∀ (x : List (Nat × AV)), getL t (goS (fun j => L j || j == k) (k + 1) os rs x) = getL t (goS L (k + 1) os rs x) := fun x => goS_same os rs (k + 1) x x (fun i o' _ _ => by simp; intro h; omega) rfl
      rw [hsame]
      by_cases hd : o.dst = some t
      · rw [if_pos hd, hd]
        simp only [BEq.rfl, Bool.or_true]
        have hno : getL t (goS L (k + 1) os rs ((t, r.1.r) :: a)) = getL t (goS (fun _ => false) (k + 1) os rs ((t, r.1.r) :: a)) := goS_same os rs (k + 1) _ _ (fun j o' hj hd' => by
          cases hL : L (k + 1 + j) with
          | false => rfl
          | true => exact absurd hd (h3 (j + 1) o' (by simpa using hj) (by omega) (by rw [show k + (j + 1) = k + 1 + j by omega]; exact hL) hd')) rfl
        have hf : ∀ (os : List Oper) (rs : List ORec) (k : Nat) (a : List (Nat × AV)), goS (fun _ => false) k os rs a = a := by
          intro os
          induction os with
          | nil => intro rs k a; simp [goS]
          | cons o os ih => intro rs k a; cases rs <;> simp [goS, ih]
        rw [hno, hf]; simp [getL_cons]
      · rw [if_neg hd]
        refine goS_same os rs (k + 1) _ _ (fun _ _ _ _ => rfl) ?_
        cases hdd : o.dst with
        | none => cases L k <;> simp
        | some d =>
          have hdt : d ≠ t := fun e => hd (by rw [hdd, e])
          cases L k <;> simp [getL_cons, Ne.symm hdt]
    · have hki' : (k == i) = false := by simpa using hki
      simp only [hki', Bool.or_false]
      have e : i - k = (i - (k + 1)) + 1 := by omega
      rw [e] at h1 h2
      exact goS_more os rs (k + 1) _ o0 (by omega) (by simpa using h1) (by simpa using h2) (fun j o' hj h4 h5 h6 => h3 (j + 1) o' (by simpa using hj) (by omega) (by rw [show k + (j + 1) = k + 1 + j by omega]; exact h5) h6)
theorem goC_more {t i : Nat} {L : Nat → Bool} {r0 : ORec} : ∀ (os : List Oper) (rs : List ORec) (k : Nat) (a : List (Nat × Option Chunk)), os.length = rs.length → k ≤ i → rs[i - k]? = some r0 → (∀ j r, rs[j]? = some r → i < k + j → L (k + j) = true → getL t r.1.ch ≠ none → getL t r0.1.ch = none) →
    getL t (goC (fun j => L j || j == i) k os rs a) = (getL t r0.1.ch).or (getL t (goC L k os rs a))
  | [], rs, k, a, hl, hk, h2, h3 => by cases rs <;> simp at hl h2
  | o :: os, [], k, a, hl, hk, h2, h3 => by simp at h2
  | o :: os, r :: rs, k, a, hl, hk, h2, h3 => by
    simp only [goC]
    by_cases hki : k = i
    · subst hki
      rw [Nat.sub_self] at h2
      simp only [List.getElem?_cons_zero, Option.some.injEq] at h2
      subst h2
      have hsame : ∀ (x : List (Nat × Option Chunk)), getL t (goC (fun j => L j || j == k) (k + 1) os rs x) = getL t (goC L (k + 1) os rs x) := fun x => goC_same os rs (k + 1) x x (fun i o' _ _ => by simp; intro h; omega) rfl
      rw [hsame]
      simp only [BEq.rfl, Bool.or_true]
      cases hd : getL t r.1.ch with
      | none =>
        simp only [Option.none_or]
        refine goC_same os rs (k + 1) _ _ (fun _ _ _ _ => rfl) ?_
        cases L k <;> simp [getL_append, hd]
      | some c =>
        have hno : getL t (goC L (k + 1) os rs (r.1.ch ++ a)) = getL t (goC (fun _ => false) (k + 1) os rs (r.1.ch ++ a)) := goC_same os rs (k + 1) _ _ (fun j o' hj hd' => by
          cases hL : L (k + 1 + j) with
          | false => rfl
          | true =>
            have := h3 (j + 1) o' (by simpa using hj) (by omega) (by rw [show k + (j + 1) = k + 1 + j by omega]; exact hL) hd'
            rw [hd] at this; cases this) rfl
        have hf : ∀ (os : List Oper) (rs : List ORec) (k : Nat) (a : List (Nat × Option Chunk)), goC (fun _ => false) k os rs a = a := by
          intro os
          induction os with
          | nil => intro rs k a; simp [goC]
          | cons o os ih => intro rs k a; cases rs <;> simp [goC, ih]
        rw [hno, hf]; simp [getL_append, hd]
    · have hki' : (k == i) = false := by simpa using hki
      simp only [hki', Bool.or_false]
      have e : i - k = (i - (k + 1)) + 1 := by omega
      rw [e] at h2
      exact goC_more os rs (k + 1) _ (by simpa using hl) (by omega) (by simpa using h2) (fun j o' hj h4 h5 h6 => h3 (j + 1) o' (by simpa using hj) (by omega) (by rw [show k + (j + 1) = k + 1 + j by omega]; exact h5) h6)

def looksT (ops : List Oper) (o : Oper) : List Nat := (o.op.operands.toList.filterMap fun | .tmp t => some t | _ => none) ++ (match o.guard with | some (g, _) => ((ops[g]?).bind (·.dst)).toList | none => [])
def keysU (u : Upd) : List Nat := u.ch.map (·.1)
def deps (o : Oper) : List Nat := (o.after.toList.filter (Region.binds .any)).map (·.on)
def ancAt (anc : List (List Nat)) (i : Nat) : List Nat := (anc[i]?).getD []
/-- The table of what comes before what: each entry is a direct edge, or one behind a direct edge; edges lead back. -/
def ancOk (ops : List Oper) (anc : List (List Nat)) : Bool :=
  (List.range ops.length).all fun i => match ops[i]? with
    | some o => (deps o).all (fun d => Nat.blt d i) && (ancAt anc i).all fun j => Nat.blt j i && ((deps o).contains j || (deps o).any fun k => (ancAt anc k).contains j)
    | none => false
def disj (a b : List Nat) : Bool := a.all fun x => !b.contains x
def indepOk (ops : List Oper) (anc : List (List Nat)) (recs : List ORec) : Bool :=
  (List.range ops.length).all fun i => (List.range ops.length).all fun j => i == j || (ancAt anc i).contains j || (ancAt anc j).contains i ||
    match ops[i]?, ops[j]?, recs[i]?, recs[j]? with
    | some oi, some oj, some ri, some rj => disj oj.dst.toList (looksT ops oi) && disj oj.dst.toList oi.dst.toList && disj (keysU rj.1) ri.2 && disj (keysU rj.1) (keysU ri.1)
    | _, _, _, _ => false

structure AgrT (ops : List Oper) (ids : List Nat) (o : Oper) (s s' : ASt) : Prop where
  n : s'.n = s.n
  get : ∀ t, t ∈ looksT ops o → s'.get t = s.get t
  ch : ∀ id, id ∈ ids → s'.chunk id = s.chunk id
theorem AgrT.agr {ops : List Oper} {ids : List Nat} {o : Oper} {s s' : ASt} (h : AgrT ops ids o s s') : Agr ids o s s' := by
  refine ⟨h.n, fun x hx => ?_, h.ch⟩
  cases x with
  | tmp t => exact h.get t (List.mem_append_left _ (List.mem_filterMap.2 ⟨.tmp t, by simpa using hx, rfl⟩))
  | _ => rfl

inductive StepOk (P : Program) (ops : List Oper) (D : ASt) (o : Oper) (ids : List Nat) (f : Nat) (u : Upd) : Prop
  | free : o.guard = none → NOp P ids D o f u → StepOk P ops D o ids f u
  | yes {j t : Nat} {w : Bool} : o.guard = some (j, w) → ((ops[j]?).bind (·.dst)) = some t → Nat.blt t D.n = true → D.get t = aT w → NOp P ids D o f u → StepOk P ops D o ids f u
  | no {j t : Nat} {w b : Bool} : o.guard = some (j, w) → ((ops[j]?).bind (·.dst)) = some t → Nat.blt t D.n = true → D.get t = aT b → b = !w → u = ⟨.und, []⟩ → StepOk P ops D o ids f u
  | noU {j t : Nat} {w : Bool} : o.guard = some (j, w) → ((ops[j]?).bind (·.dst)) = some t → D.get t = .und → u = ⟨.und, []⟩ → StepOk P ops D o ids f u

/-- The operations one by one, each among those that surely came before it. -/
inductive Dr (P : Program) (ops : List Oper) (anc : List (List Nat)) (s : ASt) (Q : Exit → ASt → Prop) : List ORec → Prop
  | done {recs : List ORec} : Nat.beq recs.length ops.length = true → indepOk ops anc recs = true → Q .normal (mkS s (fun _ => true) ops recs) → Dr P ops anc s Q recs
  | op {recs : List ORec} {o : Oper} {ids : List Nat} {u : Upd} : ops[recs.length]? = some o → StepOk P ops (mkS s (fun k => memL k (ancAt anc recs.length)) ops recs) o ids (s.nx + 8 * recs.length) u → dstOk o.dst s.n = true → Dr P ops anc s Q (recs ++ [(u, ids)]) → Dr P ops anc s Q recs

/-- The pairs that no edge orders, listed; what is asked of them, in parts. -/
def memP (i j : Nat) : List (Nat × Nat) → Bool
  | [] => false
  | (a, b) :: l => bif Nat.beq i a && Nat.beq j b then true else memP i j l
def coverOk (n : Nat) (anc : List (List Nat)) (pairs : List (Nat × Nat)) : Bool := (List.range n).all fun i => (List.range n).all fun j => Nat.beq i j || memL j (ancAt anc i) || memL i (ancAt anc j) || memP i j pairs
def slotOk (ops : List Oper) : List (Nat × Nat) → Bool
  | [] => true
  | (i, j) :: l => (match ops[i]?, ops[j]? with
    | some oi, some oj => disj oj.dst.toList (looksT ops oi) && disj oj.dst.toList oi.dst.toList
    | _, _ => false) && slotOk ops l
def disj2 : List Nat → List Nat → List Nat → Bool
  | [], _, _ => true
  | x :: l, a, b => !memL x a && !memL x b && disj2 l a b
def idsOk (recs : List ORec) : List (Nat × Nat) → Bool
  | [] => true
  | (i, j) :: l => (match recs[i]?, recs[j]? with
    | some ri, some rj => disj2 (keysU rj.1) ri.2 (keysU ri.1)
    | _, _ => false) && idsOk recs l
theorem disj2_ok : ∀ {l a b : List Nat}, disj2 l a b = true → disj l a = true ∧ disj l b = true
  | [], a, b, _ => ⟨rfl, rfl⟩
  | x :: l, a, b, h => by
    simp only [disj2, Bool.and_eq_true, Bool.not_eq_true'] at h
    obtain ⟨h1, h2⟩ := disj2_ok h.2
    have e1 := memL_not.1 h.1.1
    have e2 := memL_not.1 h.1.2
    constructor
    · simp only [disj, List.all_cons, Bool.and_eq_true] at h1 ⊢; exact ⟨by simpa using e1, h1⟩
    · simp only [disj, List.all_cons, Bool.and_eq_true] at h2 ⊢; exact ⟨by simpa using e2, h2⟩
theorem memP_iff {i j : Nat} : ∀ {l : List (Nat × Nat)}, memP i j l = true → (i, j) ∈ l
  | (a, b) :: l, h => by
    simp only [memP] at h
    cases hb : (Nat.beq i a && Nat.beq j b) with
    | true => simp only [Bool.and_eq_true] at hb; have h1 : i = a := by simpa using hb.1
              have h2 : j = b := by simpa using hb.2
              subst h1; subst h2; simp
    | false => rw [hb] at h; exact List.mem_cons_of_mem _ (memP_iff h)
theorem slotOk_mem {ops : List Oper} : ∀ {l : List (Nat × Nat)} {i j : Nat}, slotOk ops l = true → (i, j) ∈ l → ∃ oi oj, ops[i]? = some oi ∧ ops[j]? = some oj ∧ disj oj.dst.toList (looksT ops oi) = true ∧ disj oj.dst.toList oi.dst.toList = true
  | (a, b) :: l, i, j, h, hm => by
    simp only [slotOk, Bool.and_eq_true] at h
    rcases List.mem_cons.1 hm with e | e
    · simp only [Prod.mk.injEq] at e
      obtain ⟨rfl, rfl⟩ := e
      cases ha : ops[i]? with
      | none => rw [ha] at h; simp at h
      | some oi =>
        cases hb : ops[j]? with
        | none => rw [ha, hb] at h; simp at h
        | some oj => rw [ha, hb] at h; simp only [Bool.and_eq_true] at h; exact ⟨oi, oj, rfl, rfl, h.1.1, h.1.2⟩
    · exact slotOk_mem h.2 e
theorem idsOk_mem {recs : List ORec} : ∀ {l : List (Nat × Nat)} {i j : Nat}, idsOk recs l = true → (i, j) ∈ l → ∃ ri rj, recs[i]? = some ri ∧ recs[j]? = some rj ∧ disj (keysU rj.1) ri.2 = true ∧ disj (keysU rj.1) (keysU ri.1) = true
  | (a, b) :: l, i, j, h, hm => by
    simp only [idsOk, Bool.and_eq_true] at h
    rcases List.mem_cons.1 hm with e | e
    · simp only [Prod.mk.injEq] at e
      obtain ⟨rfl, rfl⟩ := e
      cases ha : recs[i]? with
      | none => rw [ha] at h; simp at h
      | some ri =>
        cases hb : recs[j]? with
        | none => rw [ha, hb] at h; simp at h
        | some rj => rw [ha, hb] at h; have := disj2_ok h.1; exact ⟨ri, rj, rfl, rfl, this.1, this.2⟩
    · exact idsOk_mem h.2 e
theorem indep_parts {ops : List Oper} {anc : List (List Nat)} {recs : List ORec} {pairs : List (Nat × Nat)} (h1 : coverOk ops.length anc pairs = true) (h2 : slotOk ops pairs = true) (h3 : idsOk recs pairs = true) : indepOk ops anc recs = true := by
  simp only [indepOk, coverOk, List.all_eq_true, List.mem_range] at h1 ⊢
  intro i hi j hj
  have := h1 i hi j hj
  simp only [Bool.or_eq_true] at this ⊢
  rcases this with ((h | h) | h) | h
  · exact .inl (.inl (.inl (by simpa using h)))
  · exact .inl (.inl (.inr (by simpa using memL_iff.1 h)))
  · exact .inl (.inr (by simpa using memL_iff.1 h))
  · obtain ⟨oi, oj, a1, a2, a3, a4⟩ := slotOk_mem h2 (memP_iff h)
    obtain ⟨ri, rj, b1, b2, b3, b4⟩ := idsOk_mem h3 (memP_iff h)
    right
    rw [a1, a2, b1, b2]
    simp [a3, a4, b3, b4]
def goD : List (Option Nat) → List ORec → List (Nat × AV) → List (Nat × AV)
  | some d :: ds, r :: rs, acc => goD ds rs ((d, r.1.r) :: acc)
  | none :: ds, _ :: rs, acc => goD ds rs acc
  | _, _, acc => acc
def goE : List (Option Nat) → List ORec → List (Nat × Option Chunk) → List (Nat × Option Chunk)
  | _ :: ds, r :: rs, acc => goE ds rs (r.1.ch ++ acc)
  | _, _, acc => acc
def mkD (s : ASt) (ds : List (Option Nat)) (recs : List ORec) : ASt := ⟨s.n, s.nx + 8 * ds.length, goD ds recs s.sl, goE ds recs s.ch⟩
theorem goS_D : ∀ (os : List Oper) (rs : List ORec) (k : Nat) (a : List (Nat × AV)), goS (fun _ => true) k os rs a = goD (os.map (·.dst)) rs a
  | [], rs, k, a => by simp [goS, goD]
  | o :: os, [], k, a => by cases hd : o.dst <;> simp [goS, goD, hd]
  | o :: os, r :: rs, k, a => by cases hd : o.dst <;> simp [goS, goD, hd, goS_D os rs]
theorem goC_D : ∀ (os : List Oper) (rs : List ORec) (k : Nat) (a : List (Nat × Option Chunk)), goC (fun _ => true) k os rs a = goE (os.map (·.dst)) rs a
  | [], rs, k, a => by simp [goC, goE]
  | o :: os, [], k, a => by simp [goC, goE]
  | o :: os, r :: rs, k, a => by simp [goC, goE, goC_D os rs]
theorem Dr.fin {P : Program} {ops : List Oper} {anc : List (List Nat)} {s : ASt} {Q : Exit → ASt → Prop} {recs : List ORec} (ds : List (Option Nat)) (pairs : List (Nat × Nat)) (hd : ops.map (·.dst) = ds) (hl : Nat.beq recs.length ops.length = true) (h1 : coverOk ops.length anc pairs = true) (h2 : slotOk ops pairs = true) (h3 : idsOk recs pairs = true) (h : Q .normal (mkD s ds recs)) : Dr P ops anc s Q recs := by
  subst hd
  refine .done hl (indep_parts h1 h2 h3) ?_
  have : mkS s (fun _ => true) ops recs = mkD s (ops.map (·.dst)) recs := by simp [mkS, mkD, goS_D, goC_D]
  rw [this]; exact h
theorem Dr.eq {P : Program} {ops : List Oper} {anc : List (List Nat)} {s : ASt} {Q : Exit → ASt → Prop} {recs : List ORec} {j : Nat} {r : ORec} (h : recs[j]? = some r) (k : Dr P ops anc s Q (recs.set j r)) : Dr P ops anc s Q recs := by
  have : recs.set j r = recs := by
    apply List.ext_getElem?
    intro i
    by_cases hi : i = j
    · subst hi
      rw [List.getElem?_set_self (List.getElem?_eq_some_iff.1 h).1, h]
    · rw [List.getElem?_set_ne (Ne.symm hi)]
  rwa [this] at k
theorem Dr.caseD {P : Program} {ops : List Oper} {anc : List (List Nat)} {s : ASt} {Q : Exit → ASt → Prop} {recs : List ORec} (j : Nat) {p : Prop} [Decidable p] {ch : List (Nat × Option Chunk)} {ids : List Nat} (h : recs[j]? = some (⟨aT (decide p), ch⟩, ids)) (hT : p → Dr P ops anc s Q (recs.set j (⟨aT true, ch⟩, ids))) (hF : ¬ p → Dr P ops anc s Q (recs.set j (⟨aT false, ch⟩, ids))) : Dr P ops anc s Q recs := by
  by_cases hp : p
  · exact Dr.eq (r := (⟨aT true, ch⟩, ids)) (by rw [h]; simp [hp]) (hT hp)
  · exact Dr.eq (r := (⟨aT false, ch⟩, ids)) (by rw [h]; simp [hp]) (hF hp)
theorem Dr.caseB {P : Program} {ops : List Oper} {anc : List (List Nat)} {s : ASt} {Q : Exit → ASt → Prop} {recs : List ORec} (j : Nat) {b : Bool} {ch : List (Nat × Option Chunk)} {ids : List Nat} (h : recs[j]? = some (⟨aT b, ch⟩, ids)) (hT : b = true → Dr P ops anc s Q (recs.set j (⟨aT true, ch⟩, ids))) (hF : b = false → Dr P ops anc s Q (recs.set j (⟨aT false, ch⟩, ids))) : Dr P ops anc s Q recs :=
  Dr.caseD j (p := b = true) (by rw [h]; simp) hT (fun h => hF (by simpa using h))

theorem Dr.all {P : Program} {ops : List Oper} {anc : List (List Nat)} {s : ASt} {Q : Exit → ASt → Prop} {recs : List ORec} (h : Dr P ops anc s Q recs) : ∃ full, recs <+: full ∧ full.length = ops.length ∧ indepOk ops anc full = true ∧ Q .normal (mkS s (fun _ => true) ops full) ∧
    ∀ i o r, recs.length ≤ i → ops[i]? = some o → full[i]? = some r → dstOk o.dst s.n = true ∧ StepOk P ops (mkS s (fun k => memL k (ancAt anc i)) ops (full.take i)) o r.2 (s.nx + 8 * i) r.1 := by
  induction h with
  | @done recs h1 h2 h3 =>
    have hl : recs.length = ops.length := by simpa using h1
    exact ⟨recs, List.prefix_rfl, hl, h2, h3, fun i o r hi ho => by have := (List.getElem?_eq_some_iff.1 ho).1; omega⟩
  | @op recs o ids u h1 h2 h3 _ ih =>
    obtain ⟨full, g1, g2, g3, g4, g5⟩ := ih
    have hpre : recs <+: full := (List.prefix_append _ _).trans g1
    refine ⟨full, hpre, g2, g3, g4, fun i o' r hi ho hr => ?_⟩
    by_cases hi2 : recs.length + 1 ≤ i
    · exact g5 i o' r (by simpa using hi2) ho hr
    · have : i = recs.length := by omega
      subst this
      rw [h1] at ho
      obtain rfl : o = o' := by simpa using ho
      have hr2 : full[recs.length]? = some (u, ids) := by
        obtain ⟨tl, rfl⟩ := g1
        simp
      rw [hr2] at hr
      obtain rfl : (u, ids) = r := by simpa using hr
      refine ⟨h3, ?_⟩
      have : full.take recs.length = recs := by
        obtain ⟨tl, rfl⟩ := hpre
        simp
      rw [this]; exact h2
end Go.Proofs.Ytochebmkfdfbhaa
