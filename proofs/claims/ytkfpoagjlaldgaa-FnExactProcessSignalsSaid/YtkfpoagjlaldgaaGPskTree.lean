/- Contracts of the functions of the program and of the reference, each proved by a walk through its code. -/
import Derived.Test.YtkfpoagjlaldgaaGPskLay
set_option linter.all false
set_option maxRecDepth 20000
namespace Go.Proofs.Ytkfpoagjlaldgaa
open Go.RowKit

mutual
def expandT : Tr → List Tr
  | .edge n m => if m == 33 || m == 63 then [.edge (n ++ bs [114]) 43, .edge (n ++ bs [97]) 43, .edge (n ++ bs [114]) 45, .edge (n ++ bs [97]) 45] else [.edge n m]
  | .par rows => [.par (expandRows rows)]
def expandRow : List Tr → List Tr
  | [] => []
  | t :: ts => expandT t ++ expandRow ts
def expandRows : List (List Tr) → List (List Tr)
  | [] => []
  | r :: rs => expandRow r :: expandRows rs
end
mutual
def partsT : Tr → List (ByteArray × UInt8)
  | .edge n m => [(n, m)]
  | .par rows => partsRows rows
def partsRow : List Tr → List (ByteArray × UInt8)
  | [] => []
  | t :: ts => partsT t ++ partsRow ts
def partsRows : List (List Tr) → List (ByteArray × UInt8)
  | [] => []
  | r :: rs => partsRow r ++ partsRows rs
end
-- In order: leaves with names and marks, brackets with rows, rows with parts.
mutual
def okT : Tr → Prop
  | .edge n m => leafOk n m = true
  | .par rows => rows ≠ [] ∧ okRows rows
def okRow : List Tr → Prop
  | [] => True
  | t :: ts => okT t ∧ okRow ts
def okRows : List (List Tr) → Prop
  | [] => True
  | r :: rs => (r ≠ [] ∧ okRow r) ∧ okRows rs
end
-- How many leaves.
mutual
def cntT : Tr → Nat
  | .edge _ _ => 1
  | .par rows => cntRows rows
def cntRow : List Tr → Nat
  | [] => 0
  | t :: ts => cntT t + cntRow ts
def cntRows : List (List Tr) → Nat
  | [] => 0
  | r :: rs => cntRow r + cntRows rs + 1
end

theorem parse_ok (c : Nat → UInt8) : ∀ f i,
    (∀ t j, parsePart c f i = some (t, j) → okT t ∧ i < j ∧ cntT t ≤ j - i) ∧ (∀ t j, parseRow c f i = some (t, j) → t ≠ [] ∧ okRow t ∧ i < j ∧ cntRow t ≤ j - i) ∧
    (∀ t j, parseTail c f i = some (t, j) → okRow t ∧ i ≤ j ∧ cntRow t ≤ j - i) ∧ (∀ t j, parseMore c f i = some (t, j) → okRows t ∧ i ≤ j ∧ cntRows t ≤ j - i) := by
  intro f
  induction f with
  | zero => intro i; simp [parsePart, parseRow, parseTail, parseMore]
  | succ f ih =>
    intro i
    refine ⟨fun t j h => ?_, fun t j h => ?_, fun t j h => ?_, fun t j h => ?_⟩
    · simp only [parsePart] at h
      split at h
      · cases hp : parseRow c f (i + 1) with
        | none => rw [hp] at h; cases h
        | some y =>
          obtain ⟨r, k⟩ := y
          rw [hp] at h
          simp only at h
          cases hq : parseMore c f k with
          | none => rw [hq] at h; cases h
          | some z =>
            obtain ⟨rs, k2⟩ := z
            rw [hq] at h
            simp only at h
            obtain ⟨a1, a2, a3, a4⟩ := (ih (i + 1)).2.1 _ _ hp
            obtain ⟨b1, b2, b3⟩ := (ih k).2.2.2 _ _ hq
            split at h
            · cases h
            · split at h
              · cases h
                exact ⟨⟨by simp, ⟨a1, a2⟩, b1⟩, by omega, by simp only [cntT, cntRows]; omega⟩
              · cases h
      · have hsc : i ≤ scanN c 1001 i := by
          have : ∀ n i, i ≤ scanN c n i := by
            intro n
            induction n with
            | zero => intro i; simp [scanN]
            | succ n ih =>
              intro i
              simp only [scanN]
              split
              · have := ih (i + 1); omega
              · omega
          exact this _ _
        split at h
        · rename_i hl
          cases h
          exact ⟨hl, by omega, by simp only [cntT]; omega⟩
        · cases h
    · simp only [parseRow] at h
      cases hp : parsePart c f i with
      | none => rw [hp] at h; cases h
      | some y =>
        obtain ⟨r, k⟩ := y
        rw [hp] at h
        simp only at h
        cases hq : parseTail c f k with
        | none => rw [hq] at h; cases h
        | some z =>
          obtain ⟨rs, k2⟩ := z
          rw [hq] at h
          cases h
          obtain ⟨a1, a2, a3⟩ := (ih i).1 _ _ hp
          obtain ⟨b1, b2, b3⟩ := (ih k).2.2.1 _ _ hq
          exact ⟨by simp, ⟨a1, b1⟩, by omega, by simp only [cntRow]; omega⟩
    · simp only [parseTail] at h
      split at h
      · cases hp : parsePart c f (i + 1) with
        | none => rw [hp] at h; cases h
        | some y =>
          obtain ⟨r, k⟩ := y
          rw [hp] at h
          simp only at h
          cases hq : parseTail c f k with
          | none => rw [hq] at h; cases h
          | some z =>
            obtain ⟨rs, k2⟩ := z
            rw [hq] at h
            cases h
            obtain ⟨a1, a2, a3⟩ := (ih (i + 1)).1 _ _ hp
            obtain ⟨b1, b2, b3⟩ := (ih k).2.2.1 _ _ hq
            exact ⟨⟨a1, b1⟩, by omega, by simp only [cntRow]; omega⟩
      · cases h; exact ⟨trivial, Nat.le_refl _, by simp [cntRow]⟩
    · simp only [parseMore] at h
      split at h
      · cases hp : parseRow c f (i + 1) with
        | none => rw [hp] at h; cases h
        | some y =>
          obtain ⟨r, k⟩ := y
          rw [hp] at h
          simp only at h
          cases hq : parseMore c f k with
          | none => rw [hq] at h; cases h
          | some z =>
            obtain ⟨rs, k2⟩ := z
            rw [hq] at h
            cases h
            obtain ⟨a1, a2, a3, a4⟩ := (ih (i + 1)).2.1 _ _ hp
            obtain ⟨b1, b2, b3⟩ := (ih k).2.2.2 _ _ hq
            exact ⟨⟨⟨a1, a2⟩, b1⟩, by omega, by simp only [cntRows]; omega⟩
      · cases h; exact ⟨trivial, Nat.le_refl _, by simp [cntRows]⟩

/-- The words of the leaves. -/
def word (p : ByteArray × UInt8) : ByteArray := p.1 ++ bs [p.2]
def leafWords (ns : List Nd) : List ByteArray := (ns.filter (fun x => x.kids.isEmpty)).map (·.word)
theorem leafWords_append (a b : List Nd) : leafWords (a ++ b) = leafWords a ++ leafWords b := by simp [leafWords]
theorem partsRow_append (a b : List Tr) : partsRow (a ++ b) = partsRow a ++ partsRow b := by
  induction a with
  | nil => simp [partsRow]
  | cons x a ih => simp [partsRow, ih]
theorem layParts_kids (r : List Tr) : ∀ base, (layParts base r).2.length = r.length := by
  induction r with
  | nil => intro base; simp [layParts]
  | cons a r ih => intro base; simp [layParts, ih]
theorem layRows_kids (rs : List (List Tr)) : ∀ base, (layRows base rs).2.length = rs.length := by
  induction rs with
  | nil => intro base; simp [layRows]
  | cons a rs ih => intro base; simp [layRows_cons, ih]
theorem bs_append (a b : List UInt8) : bs a ++ bs b = bs (a ++ b) := by
  simp [bs, ByteArray.mk_append_mk]

theorem leafWords_kids {a : ByteArray} {r : Bool} {k : List Int} (h : k ≠ []) : leafWords [⟨a, r, k⟩] = [] := by
  cases k with
  | nil => exact absurd rfl h
  | cons x k => rfl
theorem leafOk_marks {n : ByteArray} {m : UInt8} (h : leafOk n m = true) : (m == 43 || m == 45) = true ∧ (m == 33 || m == 63) = false ∨ (m == 43 || m == 45) = false ∧ (m == 33 || m == 63) = true := by
  simp only [leafOk, Bool.and_eq_true, Bool.or_eq_true, beq_iff_eq] at h
  rcases h.2 with (rfl | rfl) | ⟨rfl | rfl, _⟩ <;> decide

mutual
theorem lay_words (t : Tr) (h : okT t) (base : Nat) : leafWords (lay base t) = (partsRow (expandT t)).map word := by
  cases t with
  | edge n m =>
    rcases leafOk_marks h with ⟨h1, h2⟩ | ⟨h1, h2⟩
    · simp [lay, layEdge, h1, expandT, h2, partsRow, partsT, word, leafWords]
    · simp [lay, layEdge, h1, expandT, h2, partsRow, partsT, word, leafWords, ByteArray.append_assoc, bs_append]
  | par rows =>
    have := layRows_words rows h.2 base
    simp only [lay, leafWords_append, expandT, partsRow, partsT, List.append_nil]
    rw [this, leafWords_kids (by
      intro hk
      have := layRows_kids rows base
      rw [hk] at this
      exact h.1 (List.eq_nil_of_length_eq_zero this.symm)), List.append_nil]
theorem layParts_words (r : List Tr) (h : okRow r) (base : Nat) : leafWords (layParts base r).1 = (partsRow (expandRow r)).map word := by
  cases r with
  | nil => simp [layParts, expandRow, partsRow, leafWords]
  | cons t ts =>
    have h1 := lay_words t h.1 base
    have h2 := layParts_words ts h.2 (base + (lay base t).length)
    simp only [layParts, leafWords_append, expandRow, partsRow_append, List.map_append, h1, h2]
theorem layRows_words (rs : List (List Tr)) (h : okRows rs) (base : Nat) : leafWords (layRows base rs).1 = (partsRows (expandRows rs)).map word := by
  cases rs with
  | nil => simp [layRows, expandRows, partsRows, leafWords]
  | cons r rs =>
    have h1 := layParts_words r h.1.2 base
    have h2 := layRows_words rs h.2 (base + (layRow base r).length)
    have h3 : leafWords (layRow base r) = (partsRow (expandRow r)).map word := by
      unfold layRow
      rw [leafWords_append, h1, leafWords_kids (by
        intro hk
        have := layParts_kids r base
        rw [hk] at this
        exact h.1.1 (List.eq_nil_of_length_eq_zero this.symm)), List.append_nil]
    rw [layRows_cons]
    simp only [leafWords_append, h3, h2, expandRows, partsRows, List.map_append]
end
theorem layRow_words {r : List Tr} (hr : r ≠ []) (h : okRow r) (base : Nat) : leafWords (layRow base r) = (partsRow (expandRow r)).map word := by
  unfold layRow
  rw [leafWords_append, layParts_words r h base, leafWords_kids (by
    intro hk
    have := layParts_kids r base
    rw [hk] at this
    exact hr (List.eq_nil_of_length_eq_zero this.symm)), List.append_nil]
end Go.Proofs.Ytkfpoagjlaldgaa

