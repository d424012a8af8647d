/- The same, with tables that are quick to look into. No program is named here. -/
import Derived.Test.YtochebmkfdfbhaaB8
set_option linter.all false
namespace Go.Proofs.Ytochebmkfdfbhaa
open Go.RowKit

/-- An operation's number, its slot, what it brings, the names it asked for; the last operation first. -/
abbrev FRec := Nat × Option Nat × Upd × List Nat
def fS (row : List Nat) : List FRec → List (Nat × AV) → List (Nat × AV)
  | [], acc => acc
  | (i, some d, u, _) :: l, acc => bif memL i row then (d, u.r) :: fS row l acc else fS row l acc
  | (_, none, _, _) :: l, acc => fS row l acc
def fC (row : List Nat) : List FRec → List (Nat × Option Chunk) → List (Nat × Option Chunk)
  | [], acc => acc
  | (_, _, ⟨_, []⟩, _) :: l, acc => fC row l acc
  | (i, _, ⟨_, c :: cs⟩, _) :: l, acc => bif memL i row then c :: (cs ++ fC row l acc) else fC row l acc
def mkF (s : ASt) (n : Nat) (row : List Nat) (l : List FRec) : ASt := ⟨s.n, s.nx + 8 * n, fS row l s.sl, fC row l s.ch⟩
/-- .. behind all of them. -/
def allS : List FRec → List (Nat × AV) → List (Nat × AV)
  | [], acc => acc
  | (_, some d, u, _) :: l, acc => (d, u.r) :: allS l acc
  | (_, none, _, _) :: l, acc => allS l acc
def allC : List FRec → List (Nat × Option Chunk) → List (Nat × Option Chunk)
  | [], acc => acc
  | (_, _, ⟨_, []⟩, _) :: l, acc => allC l acc
  | (_, _, ⟨_, c :: cs⟩, _) :: l, acc => c :: (cs ++ allC l acc)
def mkAll (s : ASt) (n : Nat) (l : List FRec) : ASt := ⟨s.n, s.nx + 8 * n, allS l s.sl, allC l s.ch⟩
def fwd (l : List FRec) : List ORec := (l.map fun f => (f.2.2.1, f.2.2.2)).reverse
/-- The table fits the operations. -/
def FOk (ops : List Oper) : List FRec → Prop
  | [] => True
  | (i, d, _, _) :: l => i = l.length ∧ (∃ o, ops[i]? = some o ∧ o.dst = d) ∧ FOk ops l

theorem fwd_cons (f : FRec) (l : List FRec) : fwd (f :: l) = fwd l ++ [(f.2.2.1, f.2.2.2)] := by simp [fwd]
theorem fwd_len (l : List FRec) : (fwd l).length = l.length := by simp [fwd]
theorem goS_snoc (L : Nat → Bool) (r : ORec) (o : Oper) : ∀ (os : List Oper) (rs : List ORec) (k : Nat) (acc : List (Nat × AV)), os[rs.length]? = some o → goS L k os (rs ++ [r]) acc = match L (k + rs.length), o.dst with | true, some d => (d, r.1.r) :: goS L k os rs acc | _, _ => goS L k os rs acc
  | [], rs, k, acc, h => by simp at h
  | o' :: os, [], k, acc, h => by
    simp only [List.length_nil, List.getElem?_cons_zero, Option.some.injEq] at h
    subst h
    cases hL : L k <;> cases hd : o'.dst <;> cases os <;> simp [goS, hL, hd]
  | o' :: os, r' :: rs, k, acc, h => by
    simp only [List.length_cons, List.getElem?_cons_succ] at h
    simp only [List.cons_append, goS, List.length_cons]
    rw [goS_snoc L r o os rs (k + 1) _ h]
    rw [show k + 1 + rs.length = k + (rs.length + 1) by omega]
theorem goC_snoc (L : Nat → Bool) (r : ORec) (o : Oper) : ∀ (os : List Oper) (rs : List ORec) (k : Nat) (acc : List (Nat × Option Chunk)), os[rs.length]? = some o → goC L k os (rs ++ [r]) acc = match L (k + rs.length) with | true => r.1.ch ++ goC L k os rs acc | _ => goC L k os rs acc
  | [], rs, k, acc, h => by simp at h
  | o' :: os, [], k, acc, h => by
    cases hL : L k <;> cases os <;> simp [goC, hL]
  | o' :: os, r' :: rs, k, acc, h => by
    simp only [List.length_cons, List.getElem?_cons_succ] at h
    simp only [List.cons_append, goC, List.length_cons]
    rw [goC_snoc L r o os rs (k + 1) _ h]
    rw [show k + 1 + rs.length = k + (rs.length + 1) by omega]
theorem goS_F (row : List Nat) {ops : List Oper} : ∀ {l : List FRec}, FOk ops l → ∀ acc, goS (fun k => memL k row) 0 ops (fwd l) acc = fS row l acc
  | [], _, acc => by cases ops <;> simp [fwd, goS, fS]
  | (i, d, u, ids) :: l, h, acc => by
    obtain ⟨rfl, ⟨o, ho, rfl⟩, h3⟩ := h
    rw [fwd_cons, goS_snoc _ _ o _ _ _ _ (by rw [fwd_len]; exact ho), fwd_len, Nat.zero_add, goS_F row h3]
    cases hm : memL l.length row <;> cases hd : o.dst <;> simp [fS, hm]
theorem goC_F (row : List Nat) {ops : List Oper} : ∀ {l : List FRec}, FOk ops l → ∀ acc, goC (fun k => memL k row) 0 ops (fwd l) acc = fC row l acc
  | [], _, acc => by cases ops <;> simp [fwd, goC, fC]
  | (i, d, u, ids) :: l, h, acc => by
    obtain ⟨rfl, ⟨o, ho, rfl⟩, h3⟩ := h
    rw [fwd_cons, goC_snoc _ _ o _ _ _ _ (by rw [fwd_len]; exact ho), fwd_len, Nat.zero_add, goC_F row h3]
    obtain ⟨r, ch⟩ := u
    cases hm : memL l.length row <;> cases ch <;> simp [fC, hm]
theorem goS_A {ops : List Oper} : ∀ {l : List FRec}, FOk ops l → ∀ acc, goS (fun _ => true) 0 ops (fwd l) acc = allS l acc
  | [], _, acc => by cases ops <;> simp [fwd, goS, allS]
  | (i, d, u, ids) :: l, h, acc => by
    obtain ⟨rfl, ⟨o, ho, rfl⟩, h3⟩ := h
    rw [fwd_cons, goS_snoc _ _ o _ _ _ _ (by rw [fwd_len]; exact ho), goS_A h3]
    cases hd : o.dst <;> simp [allS]
theorem goC_A {ops : List Oper} : ∀ {l : List FRec}, FOk ops l → ∀ acc, goC (fun _ => true) 0 ops (fwd l) acc = allC l acc
  | [], _, acc => by cases ops <;> simp [fwd, goC, allC]
  | (i, d, u, ids) :: l, h, acc => by
    obtain ⟨rfl, ⟨o, ho, rfl⟩, h3⟩ := h
    rw [fwd_cons, goC_snoc _ _ o _ _ _ _ (by rw [fwd_len]; exact ho), goC_A h3]
    obtain ⟨r, ch⟩ := u
    cases ch <;> simp [allC]

/-- What the operations turn and what they ask for, the last first; where nothing is turned nothing is asked. -/
def idsF : List FRec → List (Nat × Nat) → Bool
  | l, [] => true
  | l, (i, j) :: ps => (match atF j l with
    | some ([], _) => true
    | some (ks, _) => (match atF i l with
      | some (ks', ids') => disj2 ks ids' ks'
      | none => false)
    | none => false) && idsF l ps
where atF (i : Nat) : List FRec → Option (List Nat × List Nat)
  | [] => none
  | (k, _, u, ids) :: l => bif Nat.beq k i then some (keysU u, ids) else atF i l
theorem atF_of {ops : List Oper} {i : Nat} : ∀ {l : List FRec}, FOk ops l → ∀ {x}, idsF.atF i l = some x → ∃ r, (fwd l)[i]? = some r ∧ (keysU r.1, r.2) = x
  | [], _, x, h => by simp [idsF.atF] at h
  | (k, d, u, ids) :: l, hf, x, h => by
    obtain ⟨rfl, _, h3⟩ := hf
    simp only [idsF.atF] at h
    rw [fwd_cons]
    cases hb : Nat.beq l.length i with
    | true =>
      rw [hb] at h
      simp only [cond_true, Option.some.injEq] at h
      have : l.length = i := by simpa using hb
      subst this
      exact ⟨(u, ids), by rw [List.getElem?_append_right (by rw [fwd_len]; exact Nat.le_refl _), fwd_len]; simp, h⟩
    | false =>
      rw [hb] at h
      obtain ⟨r, h1, h2⟩ := atF_of h3 h
      exact ⟨r, by rw [List.getElem?_append_left (List.getElem?_eq_some_iff.1 h1).1]; exact h1, h2⟩
theorem idsF_ok {ops : List Oper} {l : List FRec} (hf : FOk ops l) (hlen : l.length = ops.length) : ∀ {ps : List (Nat × Nat)}, slotOk ops ps = true → idsF l ps = true → idsOk (fwd l) ps = true
  | [], _, _ => rfl
  | (i, j) :: ps, hs, h => by
    obtain ⟨oi, oj, h1, h2, _⟩ := slotOk_mem hs (List.mem_cons_self ..)
    have hi := (List.getElem?_eq_some_iff.1 h1).1
    have hj := (List.getElem?_eq_some_iff.1 h2).1
    have hs' : slotOk ops ps = true := by simp only [slotOk, Bool.and_eq_true] at hs; exact hs.2
    simp only [idsF, Bool.and_eq_true] at h
    simp only [idsOk, Bool.and_eq_true]
    refine ⟨?_, idsF_ok hf hlen hs' h.2⟩
    obtain ⟨ri, hri⟩ : ∃ ri, (fwd l)[i]? = some ri := ⟨_, List.getElem?_eq_getElem (by rw [fwd_len]; omega)⟩
    cases ha : idsF.atF j l with
    | none => rw [ha] at h; simp at h
    | some x =>
      obtain ⟨rj, g1, g2⟩ := atF_of hf ha
      rw [hri, g1]
      obtain ⟨ks, ids⟩ := x
      simp only [Prod.mk.injEq] at g2
      cases ks with
      | nil => simp only [g2.1, disj2]
      | cons k ks =>
        rw [ha] at h
        cases hb : idsF.atF i l with
        | none => rw [hb] at h; simp at h
        | some y =>
          obtain ⟨ri', q1, q2⟩ := atF_of hf hb
          rw [hri] at q1
          obtain rfl : ri = ri' := by simpa using q1
          obtain ⟨ks', ids'⟩ := y
          simp only [Prod.mk.injEq] at q2
          rw [hb] at h
          simp only
          rw [g2.1, q2.1, q2.2]
          exact h.1

/-- The operations one by one. -/
structure DF (P : Program) (ops : List Oper) (anc : List (List Nat)) (s : ASt) (Q : Exit → ASt → Prop) (rest : List Oper) (l : List FRec) : Prop where
  dr : FOk ops l → ops.drop l.length = rest → Dr P ops anc s Q (fwd l)
section
variable {P : Program} {ops : List Oper} {anc : List (List Nat)} {s : ASt} {Q : Exit → ASt → Prop} {l : List FRec}
theorem DF.fin {ps : List (Nat × Nat)} (n : Nat) (hn : Nat.beq ops.length n = true) (h1 : coverOk n anc ps = true) (h2 : slotOk ops ps = true) (h3 : idsF l ps = true) (h : Q .normal (mkAll s n l)) : DF P ops anc s Q [] l := by
  refine ⟨fun hf hr => ?_⟩
  have hn : ops.length = n := by simpa using hn
  subst hn
  have hle : ops.length ≤ l.length := by simpa using hr
  have hle2 : l.length ≤ ops.length := by
    cases l with
    | nil => exact Nat.zero_le _
    | cons f l =>
      obtain ⟨i, d, u, ids⟩ := f
      obtain ⟨rfl, ⟨o, ho, _⟩, _⟩ := hf
      exact (List.getElem?_eq_some_iff.1 ho).1
  have hlen : l.length = ops.length := by omega
  refine Dr.done (by rw [fwd_len, hlen]; simp) (indep_parts h1 h2 (idsF_ok hf hlen h2 h3)) ?_
  have : mkS s (fun _ => true) ops (fwd l) = mkAll s ops.length l := by simp [mkS, mkAll, goS_A hf, goC_A hf]
  rw [this]; exact h
theorem DF.op {rest : List Oper} {o : Oper} (i : Nat) (row : List Nat) {ids : List Nat} {u : Upd} (n : Nat) (hi : Nat.beq l.length i = true) (hn : Nat.beq ops.length n = true) (hrow : ancAt anc i = row) (hst : StepOk P ops (mkF s n row l) o ids (s.nx + 8 * i) u) (hd : dstOk o.dst s.n = true) (h : DF P ops anc s Q rest ((i, o.dst, u, ids) :: l)) : DF P ops anc s Q (o :: rest) l := by
  refine ⟨fun hf hr => ?_⟩
  have hi : l.length = i := by simpa using hi
  have hn : ops.length = n := by simpa using hn
  subst hi; subst hn
  have ho : ops[l.length]? = some o := by
    have := congrArg (fun x => x[0]?) hr
    simpa using this
  have hr' : ops.drop (l.length + 1) = rest := by
    have := congrArg List.tail hr
    simpa using this
  have h1 := h.dr ⟨rfl, ⟨o, ho, rfl⟩, hf⟩ hr'
  rw [fwd_cons] at h1
  refine Dr.op (by rw [fwd_len]; exact ho) ?_ hd h1
  rw [fwd_len]
  have : mkS s (fun k => memL k (ancAt anc l.length)) ops (fwd l) = mkF s ops.length row l := by rw [hrow]; simp [mkS, mkF, goS_F row hf, goC_F row hf]
  rw [this]; exact hst
def setF (j : Nat) (r : AV) : List FRec → List FRec
  | [] => []
  | (i, d, u, ids) :: l => bif Nat.beq i j then (i, d, ⟨r, u.ch⟩, ids) :: l else (i, d, u, ids) :: setF j r l
def getF (j : Nat) : List FRec → Option AV
  | [] => none
  | (i, _, u, _) :: l => bif Nat.beq i j then some u.r else getF j l
theorem setF_same {j : Nat} {r : AV} : ∀ {l : List FRec}, getF j l = some r → setF j r l = l
  | [], h => rfl
  | (i, d, u, ids) :: l, h => by
    simp only [getF] at h
    simp only [setF]
    cases hb : Nat.beq i j with
    | true => rw [hb] at h; simp only [cond_true, Option.some.injEq] at h; subst h; rfl
    | false => rw [hb] at h; simp only [cond_false] at h ⊢; rw [setF_same h]
theorem DF.caseD {rest : List Oper} (j : Nat) {p : Prop} [Decidable p] (h : getF j l = some (aT (decide p))) (hT : p → DF P ops anc s Q rest (setF j (aT true) l)) (hF : ¬ p → DF P ops anc s Q rest (setF j (aT false) l)) : DF P ops anc s Q rest l := by
  by_cases hp : p
  · have := hT hp; rwa [setF_same (by rw [h]; simp [hp])] at this
  · have := hF hp; rwa [setF_same (by rw [h]; simp [hp])] at this
theorem DF.caseB {rest : List Oper} (j : Nat) {b : Bool} (h : getF j l = some (aT b)) (hT : b = true → DF P ops anc s Q rest (setF j (aT true) l)) (hF : b = false → DF P ops anc s Q rest (setF j (aT false) l)) : DF P ops anc s Q rest l := by
  cases b
  · have := hF rfl; rwa [setF_same h] at this
  · have := hT rfl; rwa [setF_same h] at this
theorem AC.drawn' {C : Ctx} {id : Nat} (hm : P.follows .mixedOrders = true) (anc : List (List Nat)) (hanc : ancOk ops anc = true) (h : DF P ops anc s Q ops []) : ACode P C (.region id ops.toArray true) Q s := AC.drawn hm anc hanc (h.dr trivial rfl)
end
end Go.Proofs.Ytochebmkfdfbhaa
