/- Contracts of the functions of the program and of the reference, each proved by a walk through its code. -/
import Derived.Test.YtkfpoagjlaldgaaGPskPr4
set_option linter.all false
set_option maxRecDepth 20000
namespace Go.Proofs.Ytkfpoagjlaldgaa
open Go.RowKit

/-- The tree of a process, if it is one. -/
def procOf (s : ByteArray) : Option (List Tr) :=
  if s.size ≤ 200 ∧ nx s 0 = 42 ∧ nx s 1 = 91 then
    match parseRow (nx s) 1000 2 with
    | none => none
    | some (ts, j) => if nx s j = 93 ∧ j + 1 = s.size then some ts else none
  else none

/-- A byte that no process bears. -/
def dead (c : UInt8) : Bool := !chName c && c != 40 && c != 41 && c != 59 && c != 124 && c != 43 && c != 45 && c != 33 && c != 63
theorem dead_parts {c : UInt8} (h : dead c = true) : chName c = false ∧ c ≠ 40 ∧ c ≠ 41 ∧ c ≠ 59 ∧ c ≠ 124 ∧ c ≠ 43 ∧ c ≠ 45 ∧ c ≠ 33 ∧ c ≠ 63 := by
  simpa [dead, and_assoc] using h

structure Sh (c1 c2 : Nat → UInt8) (d n : Nat) : Prop where
  same : ∀ k, k < n → c1 k = c2 (k + d)
  end1 : dead (c1 n) = true
  end2 : dead (c2 (n + d)) = true

theorem Sh.test {c1 c2 : Nat → UInt8} {d n : Nat} (h : Sh c1 c2 d n) {i : Nat} (hi : i ≤ n) {x : UInt8} (hx : dead x = false) : (c1 i = x ↔ c2 (i + d) = x) ∧ (c1 i = x → i < n) := by
  by_cases he : i = n
  · subst he
    refine ⟨⟨fun h1 => ?_, fun h2 => ?_⟩, fun h1 => ?_⟩
    · have := h.end1; rw [h1, hx] at this; cases this
    · have := h.end2; rw [h2, hx] at this; cases this
    · have := h.end1; rw [h1, hx] at this; cases this
  · have := h.same i (by omega)
    exact ⟨by rw [this], fun _ => by omega⟩
theorem Sh.name {c1 c2 : Nat → UInt8} {d n : Nat} (h : Sh c1 c2 d n) {i : Nat} (hi : i ≤ n) : chName (c1 i) = chName (c2 (i + d)) ∧ (chName (c1 i) = true → i < n) := by
  by_cases he : i = n
  · subst he
    have h1 := (dead_parts h.end1).1
    have h2 := (dead_parts h.end2).1
    exact ⟨by rw [h1, h2], fun hh => by rw [h1] at hh; cases hh⟩
  · have := h.same i (by omega)
    exact ⟨by rw [this], fun _ => by omega⟩
theorem Sh.scan {c1 c2 : Nat → UInt8} {d n : Nat} (h : Sh c1 c2 d n) : ∀ {m i : Nat}, i ≤ n → scanN c2 m (i + d) = scanN c1 m i + d ∧ scanN c1 m i ≤ n ∧ i ≤ scanN c1 m i := by
  intro m
  induction m with
  | zero => intro i hi; simp [scanN, hi]
  | succ m ih =>
    intro i hi
    obtain ⟨h1, h2⟩ := h.name hi
    simp only [scanN, ← h1]
    by_cases hc : chName (c1 i) = true
    · simp only [hc, if_pos]
      have := ih (i := i + 1) (h2 hc)
      rw [show i + 1 + d = i + d + 1 by omega] at this
      exact ⟨this.1, this.2.1, by omega⟩
    · simp [hc, hi]
theorem Sh.cut {c1 c2 : Nat → UInt8} {d n : Nat} (h : Sh c1 c2 d n) {i j : Nat} (hj : j ≤ n) : cut c2 (i + d) (j + d) = cut c1 i j := by
  unfold Go.Proofs.Ytkfpoagjlaldgaa.cut
  congr 2
  rw [show j + d - (i + d) = j - i by omega]
  apply List.ext_getElem (by simp)
  intro k h1 h2
  simp only [List.length_map, List.length_range'] at h1
  simp only [List.getElem_map, List.getElem_range', Nat.one_mul]
  rw [h.same (i + k) (by omega)]
  congr 1; omega
theorem Sh.leaf {c1 c2 : Nat → UInt8} {d n : Nat} (h : Sh c1 c2 d n) {j : Nat} (hj : j ≤ n) (nm : ByteArray) : leafOk nm (c2 (j + d)) = leafOk nm (c1 j) ∧ (leafOk nm (c1 j) = true → j < n ∧ c2 (j + d) = c1 j) := by
  by_cases he : j = n
  · subst he
    obtain ⟨_, _, _, _, _, a1, a2, a3, a4⟩ := dead_parts h.end1
    obtain ⟨_, _, _, _, _, b1, b2, b3, b4⟩ := dead_parts h.end2
    have e1 : leafOk nm (c1 j) = false := by simp [leafOk, a1, a2, a3, a4]
    have e2 : leafOk nm (c2 (j + d)) = false := by simp [leafOk, b1, b2, b3, b4]
    exact ⟨by rw [e1, e2], fun hh => by rw [e1] at hh; cases hh⟩
  · have := h.same j (by omega)
    exact ⟨by rw [this], fun _ => ⟨by omega, this.symm⟩⟩

def shO {α : Type} (d n : Nat) (o1 o2 : Option (α × Nat)) : Prop := match o1 with
  | none => o2 = none
  | some (t, j) => o2 = some (t, j + d) ∧ j ≤ n

theorem Sh.parse {c1 c2 : Nat → UInt8} {d n : Nat} (h : Sh c1 c2 d n) : ∀ f i, i ≤ n →
    shO d n (parsePart c1 f i) (parsePart c2 f (i + d)) ∧ shO d n (parseRow c1 f i) (parseRow c2 f (i + d)) ∧ shO d n (parseTail c1 f i) (parseTail c2 f (i + d)) ∧ shO d n (parseMore c1 f i) (parseMore c2 f (i + d)) := by
  intro f
  induction f with
  | zero => intro i hi; simp [parsePart, parseRow, parseTail, parseMore, shO]
  | succ f ih =>
    intro i hi
    refine ⟨?_, ?_, ?_, ?_⟩
    · simp only [parsePart]
      obtain ⟨h1, h2⟩ := h.test hi (x := 40) (by decide)
      by_cases hx : c1 i = 40
      · have hlt := h2 hx
        have hx2 := h1.1 hx
        simp only [hx, hx2, if_pos]
        have hr := (ih (i + 1) (by omega)).2.1
        rw [show i + 1 + d = i + d + 1 by omega] at hr
        cases hp : parseRow c1 f (i + 1) with
        | none => rw [hp] at hr; simp only [shO] at hr; simp [hr, shO]
        | some y =>
          obtain ⟨r, j⟩ := y
          rw [hp] at hr
          obtain ⟨hr1, hr2⟩ := hr
          have hm := (ih j hr2).2.2.2
          simp only [hr1]
          cases hq : parseMore c1 f j with
          | none => rw [hq] at hm; simp only [shO] at hm; simp [hm, shO]
          | some z =>
            obtain ⟨rs, k⟩ := z
            rw [hq] at hm
            obtain ⟨hm1, hm2⟩ := hm
            simp only [hm1]
            by_cases he : rs.isEmpty = true
            · simp [he, shO]
            · simp only [he]
              obtain ⟨g1, g2⟩ := h.test hm2 (x := 41) (by decide)
              by_cases hc : c1 k = 41
              · have := g2 hc
                simp only [hc, g1.1 hc, if_pos, shO]
                exact ⟨by simp; omega, by omega⟩
              · have hc2 : ¬ c2 (k + d) = 41 := fun hh => hc (g1.2 hh)
                simp [hc, hc2, shO]
      · have hx2 : ¬ c2 (i + d) = 40 := fun hh => hx (h1.2 hh)
        simp only [hx, hx2, if_neg, not_false_eq_true]
        obtain ⟨s1, s2, s3⟩ := h.scan (m := 1001) hi
        rw [s1, h.cut s2]
        obtain ⟨l1, l2⟩ := h.leaf s2 (Go.Proofs.Ytkfpoagjlaldgaa.cut c1 i (scanN c1 1001 i))
        rw [l1]
        by_cases hl : leafOk (Go.Proofs.Ytkfpoagjlaldgaa.cut c1 i (scanN c1 1001 i)) (c1 (scanN c1 1001 i)) = true
        · obtain ⟨e1, e2⟩ := l2 hl
          simp only [hl, if_pos, shO, e2]
          exact ⟨by simp; omega, by omega⟩
        · simp [hl, shO]
    · simp only [parseRow]
      have hr := (ih i hi).1
      cases hp : parsePart c1 f i with
      | none => rw [hp] at hr; simp only [shO] at hr; simp [hr, shO]
      | some y =>
        obtain ⟨r, j⟩ := y
        rw [hp] at hr
        obtain ⟨hr1, hr2⟩ := hr
        have hm := (ih j hr2).2.2.1
        simp only [hr1]
        cases hq : parseTail c1 f j with
        | none => rw [hq] at hm; simp only [shO] at hm; simp [hm, shO]
        | some z =>
          obtain ⟨rs, k⟩ := z
          rw [hq] at hm
          obtain ⟨hm1, hm2⟩ := hm
          simp [hm1, shO, hm2]
    · simp only [parseTail]
      obtain ⟨h1, h2⟩ := h.test hi (x := 59) (by decide)
      by_cases hx : c1 i = 59
      · have hlt := h2 hx
        simp only [hx, h1.1 hx, if_pos]
        have hr := (ih (i + 1) (by omega)).1
        rw [show i + 1 + d = i + d + 1 by omega] at hr
        cases hp : parsePart c1 f (i + 1) with
        | none => rw [hp] at hr; simp only [shO] at hr; simp [hr, shO]
        | some y =>
          obtain ⟨r, j⟩ := y
          rw [hp] at hr
          obtain ⟨hr1, hr2⟩ := hr
          have hm := (ih j hr2).2.2.1
          simp only [hr1]
          cases hq : parseTail c1 f j with
          | none => rw [hq] at hm; simp only [shO] at hm; simp [hm, shO]
          | some z =>
            obtain ⟨rs, k⟩ := z
            rw [hq] at hm
            obtain ⟨hm1, hm2⟩ := hm
            simp [hm1, shO, hm2]
      · have hx2 : ¬ c2 (i + d) = 59 := fun hh => hx (h1.2 hh)
        simp [hx, hx2, shO, hi]
    · simp only [parseMore]
      obtain ⟨h1, h2⟩ := h.test hi (x := 124) (by decide)
      by_cases hx : c1 i = 124
      · have hlt := h2 hx
        simp only [hx, h1.1 hx, if_pos]
        have hr := (ih (i + 1) (by omega)).2.1
        rw [show i + 1 + d = i + d + 1 by omega] at hr
        cases hp : parseRow c1 f (i + 1) with
        | none => rw [hp] at hr; simp only [shO] at hr; simp [hr, shO]
        | some y =>
          obtain ⟨r, j⟩ := y
          rw [hp] at hr
          obtain ⟨hr1, hr2⟩ := hr
          have hm := (ih j hr2).2.2.2
          simp only [hr1]
          cases hq : parseMore c1 f j with
          | none => rw [hq] at hm; simp only [shO] at hm; simp [hm, shO]
          | some z =>
            obtain ⟨rs, k⟩ := z
            rw [hq] at hm
            obtain ⟨hm1, hm2⟩ := hm
            simp [hm1, shO, hm2]
      · have hx2 : ¬ c2 (i + d) = 124 := fun hh => hx (h1.2 hh)
        simp [hx, hx2, shO, hi]
end Go.Proofs.Ytkfpoagjlaldgaa

