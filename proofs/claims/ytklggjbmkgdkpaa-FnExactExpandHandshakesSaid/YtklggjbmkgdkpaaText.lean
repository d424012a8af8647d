/- Texts of trees and of the reference's nodes, in plain Lean. -/
import Derived.Test.YtklggjbmkgdkpaaWords
set_option linter.unusedVariables false
namespace Go.Proofs.Ytklggjbmkgdkpaa
open Go.RowKit

def jt (c : UInt8) : List ByteArray → ByteArray
  | [] => bs []
  | y :: l => bs [c] ++ y ++ jt c l
/-- Texts joined by a sign. -/
def jn (c : UInt8) : List ByteArray → ByteArray
  | [] => bs []
  | x :: l => x ++ jt c l
theorem bs_nil_append (a : ByteArray) : bs [] ++ a = a := by show ByteArray.empty ++ a = a; simp
theorem append_bs_nil (a : ByteArray) : a ++ bs [] = a := by show a ++ ByteArray.empty = a; simp
theorem jt_append (c : UInt8) (a b : List ByteArray) : jt c (a ++ b) = jt c a ++ jt c b := by
  induction a with
  | nil => simp [jt, bs_nil_append]
  | cons x a ih => simp [jt, ih, ByteArray.append_assoc]
theorem jt_jn {c : UInt8} {l : List ByteArray} (h : l ≠ []) : jt c l = bs [c] ++ jn c l := by
  cases l with
  | nil => exact absurd rfl h
  | cons x l => simp [jt, jn, ByteArray.append_assoc]
theorem jn_append {c : UInt8} {a : List ByteArray} (b : List ByteArray) (h : a ≠ []) : jn c (a ++ b) = jn c a ++ jt c b := by
  cases a with
  | nil => exact absurd rfl h
  | cons x a => simp [jn, jt_append, ByteArray.append_assoc]
theorem jn_snoc {c : UInt8} {a : List ByteArray} (x : ByteArray) (h : a ≠ []) : jn c (a ++ [x]) = jn c a ++ bs [c] ++ x := by
  rw [jn_append _ h]; simp [jt, append_bs_nil, ByteArray.append_assoc]
theorem jt_flat (c : UInt8) (ls : List (List ByteArray)) (h : ∀ l, l ∈ ls → l ≠ []) : jt c (ls.map (jn c)) = jt c ls.flatten := by
  induction ls with
  | nil => rfl
  | cons l ls ih =>
    simp only [List.map_cons, jt, List.flatten_cons, jt_append]
    rw [ih (fun l hl => h l (by simp [hl])), jt_jn (h l (by simp))]
theorem jn_flat (c : UInt8) (ls : List (List ByteArray)) (h : ∀ l, l ∈ ls → l ≠ []) : jn c (ls.map (jn c)) = jn c ls.flatten := by
  cases ls with
  | nil => rfl
  | cons l ls =>
    show jn c l ++ jt c (ls.map (jn c)) = jn c (l ++ ls.flatten)
    rw [jn_append _ (h l (by simp)), jt_flat c ls (fun l hl => h l (by simp [hl]))]
theorem jt_size (c : UInt8) (l : List ByteArray) : l.length ≤ (jt c l).size := by
  induction l with
  | nil => simp
  | cons x l ih => simp only [jt, ByteArray.size_append, show (bs [c]).size = 1 from rfl, List.length_cons]; omega
theorem jn_le_jt (c : UInt8) (l : List ByteArray) : (jn c l).size ≤ (jt c l).size := by
  cases l with
  | nil => exact Nat.le_refl _
  | cons x l => simp only [jt, jn, ByteArray.size_append]; omega
theorem jt_mem {c : UInt8} {l : List ByteArray} {x : ByteArray} (h : x ∈ l) : x.size ≤ (jt c l).size := by
  induction l with
  | nil => simp at h
  | cons y l ih =>
    simp only [jt, ByteArray.size_append]
    rcases List.mem_cons.1 h with rfl | h
    · omega
    · have := ih h; omega
theorem jn_mem {c : UInt8} {l : List ByteArray} {x : ByteArray} (h : x ∈ l) : x.size ≤ (jn c l).size := by
  cases l with
  | nil => simp at h
  | cons y l =>
    simp only [jn, ByteArray.size_append]
    rcases List.mem_cons.1 h with rfl | h
    · omega
    · have := jt_mem (c := c) h; omega
theorem jn_len (c : UInt8) (l : List ByteArray) : l.length ≤ (jn c l).size + 1 := by
  cases l with
  | nil => simp
  | cons x l => have := jt_size c l; simp only [jn, ByteArray.size_append, List.length_cons]; omega
theorem jn_take (c : UInt8) (l : List ByteArray) (k : Nat) : (jn c (l.take k)).size ≤ (jn c l).size := by
  by_cases h : l.take k = []
  · rw [h]; show (bs []).size ≤ _; exact Nat.zero_le _
  · conv => rhs; rw [← List.take_append_drop k l, jn_append _ h, ByteArray.size_append]
    omega
theorem jn_join (c : UInt8) (l : List ByteArray) : (⟨(Lib.join (l.map (·.data.toList)) [c]).toArray⟩ : ByteArray) = jn c l := by
  have ht : ∀ l : List ByteArray, (⟨(Lib.joinTail [c] (l.map (·.data.toList))).toArray⟩ : ByteArray) = jt c l := by
    intro l
    induction l with
    | nil => rfl
    | cons x l ih =>
      simp only [jt, ← ih]
      apply ByteArray.ext
      simp [Lib.joinTail, ByteArray.data_append, bs]
  cases l with
  | nil => rfl
  | cons x l =>
    simp only [List.map_cons, Lib.join_cons, jn, ← ht]
    apply ByteArray.ext
    simp [ByteArray.data_append]

mutual
/-- The text of a tree. -/
def txT : Tr → ByteArray
  | .edge n m => n ++ bs [m]
  | .par rows => bs [40] ++ jn 124 (txRows rows) ++ bs [41]
def txRow : List Tr → List ByteArray
  | [] => []
  | t :: ts => txT t :: txRow ts
def txRows : List (List Tr) → List ByteArray
  | [] => []
  | r :: rs => jn 59 (txRow r) :: txRows rs
end
theorem txRow_append (a b : List Tr) : txRow (a ++ b) = txRow a ++ txRow b := by
  induction a with
  | nil => rfl
  | cons x a ih => simp [txRow, ih]
theorem txRow_len (a : List Tr) : (txRow a).length = a.length := by
  induction a with
  | nil => rfl
  | cons x a ih => simp [txRow, ih]
theorem txRows_append (a b : List (List Tr)) : txRows (a ++ b) = txRows a ++ txRows b := by
  induction a with
  | nil => rfl
  | cons x a ih => simp [txRows, ih]
theorem txRows_len (a : List (List Tr)) : (txRows a).length = a.length := by
  induction a with
  | nil => rfl
  | cons x a ih => simp [txRows, ih]
theorem expandT_ne (t : Tr) : expandT t ≠ [] := by
  cases t with
  | edge n m => simp only [expandT]; split <;> simp
  | par rows => simp [expandT]
theorem txRow_ne {l : List Tr} (h : l ≠ []) : txRow l ≠ [] := fun h0 => h (List.eq_nil_of_length_eq_zero (by rw [← txRow_len, h0]; rfl))
theorem txRow_expand (r : List Tr) : txRow (expandRow r) = (r.map (fun t => txRow (expandT t))).flatten := by
  induction r with
  | nil => rfl
  | cons t ts ih => simp [expandRow, txRow_append, ih]

-- How long the text of an expanded tree may be.
mutual
theorem txT_size (t : Tr) (h : okT t) : (jt 59 (txRow (expandT t))).size ≤ 36 * cntT t := by
  cases t with
  | edge n m =>
    have hs := leafOk_size h
    rcases leafOk_marks h with ⟨h1, h2⟩ | ⟨h1, h2⟩
    · have e : expandT (.edge n m) = [.edge n m] := by simp [expandT, h2]
      rw [e]
      simp only [txRow, txT, jt, ByteArray.size_append, show ∀ c, (bs [c]).size = 1 from fun _ => rfl, show (bs []).size = 0 from rfl, cntT]; omega
    · have e : expandT (.edge n m) = [.edge (n ++ bs [114]) 43, .edge (n ++ bs [97]) 43, .edge (n ++ bs [114]) 45, .edge (n ++ bs [97]) 45] := by simp [expandT, h2]
      rw [e]
      simp only [txRow, txT, jt, ByteArray.size_append, show ∀ c, (bs [c]).size = 1 from fun _ => rfl, show (bs []).size = 0 from rfl, cntT]; omega
  | par rows =>
    have h1 := txRows_size rows h.2
    have h2 : rows.length ≠ 0 := fun h0 => h.1 (List.eq_nil_of_length_eq_zero h0)
    have h3 := jn_le_jt 124 (txRows (expandRows rows))
    simp only [expandT, txRow, txT, jt, ByteArray.size_append, show ∀ c, (bs [c]).size = 1 from fun _ => rfl, show (bs []).size = 0 from rfl, cntT]; omega
theorem txRow_size (r : List Tr) (h : okRow r) : (jt 59 (txRow (expandRow r))).size ≤ 36 * cntRow r := by
  cases r with
  | nil => simp [expandRow, txRow, jt, cntRow, show (bs []).size = 0 from rfl]
  | cons t ts =>
    have h1 := txT_size t h.1
    have h2 := txRow_size ts h.2
    simp only [expandRow, txRow_append, jt_append, ByteArray.size_append, cntRow]; omega
theorem txRows_size (rs : List (List Tr)) (h : okRows rs) : (jt 124 (txRows (expandRows rs))).size + 35 * rs.length ≤ 36 * cntRows rs := by
  cases rs with
  | nil => simp [expandRows, txRows, jt, cntRows, show (bs []).size = 0 from rfl]
  | cons r rs =>
    have h1 := txRow_size r h.1.2
    have h2 := txRows_size rs h.2
    have h3 := jn_le_jt 59 (txRow (expandRow r))
    simp only [expandRows, txRows, jt, ByteArray.size_append, show ∀ c, (bs [c]).size = 1 from fun _ => rfl, cntRows, List.length_cons]; omega
end

/-- The text of a node of the table. -/
def ntext (ns : List Nd) : Nat → Int → ByteArray
  | 0, _ => bs []
  | f + 1, i => match ns[i.toNat]? with
    | none => bs []
    | some x => if x.kids.length = 0 then x.word else if x.row = true then jn 59 (x.kids.map (ntext ns f)) else bs [40] ++ jn 124 (x.kids.map (ntext ns f)) ++ bs [41]
/-- A node that leads down at most f. -/
def Nt (ns : List Nd) : Nat → Int → Prop
  | 0, _ => False
  | f + 1, i => ∃ n x, i = ((n : Nat) : Int) ∧ ns[n]? = some x ∧ ∀ k, k ∈ x.kids → Nt ns f k
def Seg (ns : List Nd) (base : Nat) (l : List Nd) : Prop := ∀ j x, l[j]? = some x → ns[base + j]? = some x
theorem Seg.left {ns : List Nd} {base : Nat} {a b : List Nd} (h : Seg ns base (a ++ b)) : Seg ns base a := fun j x hj => h j x (by rw [List.getElem?_append_left (List.getElem?_eq_some_iff.1 hj).1]; exact hj)
theorem Seg.right {ns : List Nd} {base : Nat} {a b : List Nd} (h : Seg ns base (a ++ b)) : Seg ns (base + a.length) b := fun j x hj => by
  have := h (a.length + j) x (by rw [List.getElem?_append_right (by omega)]; simpa using hj)
  rw [← this]; congr 1; omega

theorem ntext_at {ns : List Nd} {f n : Nat} {x : Nd} (h : ns[n]? = some x) : ntext ns (f + 1) (n : Int) = if x.kids.length = 0 then x.word else if x.row = true then jn 59 (x.kids.map (ntext ns f)) else bs [40] ++ jn 124 (x.kids.map (ntext ns f)) ++ bs [41] := by
  simp [ntext, h]
theorem Nt_leaf {ns : List Nd} {f n : Nat} {w : ByteArray} {r : Bool} (h : ns[n]? = some ⟨w, r, []⟩) : Nt ns (f + 1) (n : Int) ∧ ntext ns (f + 1) (n : Int) = w :=
  ⟨⟨n, _, rfl, h, by simp⟩, by rw [ntext_at h]; simp⟩

mutual
theorem lay_text (ns : List Nd) (t : Tr) (h : okT t) (f base : Nat) (hf : 2 * dep t + 2 ≤ f) (hs : Seg ns base (lay base t)) :
    Nt ns f ((base + (lay base t).length - 1 : Nat) : Int) ∧ ntext ns f ((base + (lay base t).length - 1 : Nat) : Int) = jn 59 (txRow (expandT t)) := by
  cases t with
  | edge n m =>
    obtain ⟨g, rfl⟩ : ∃ g, f = g + 2 := ⟨f - 2, by omega⟩
    rcases leafOk_marks h with ⟨h1, h2⟩ | ⟨h1, h2⟩
    · have e : lay base (.edge n m) = [⟨n ++ bs [m], false, []⟩] := by simp [lay, layEdge, h1]
      have e2 : expandT (.edge n m) = [.edge n m] := by simp [expandT, h2]
      rw [e] at hs ⊢
      rw [e2]
      have := hs 0 _ rfl
      simpa [txRow, txT, jn, jt, append_bs_nil] using Nt_leaf (f := g + 1) this
    · have e : lay base (.edge n m) = [⟨n ++ bs [114, 43], false, []⟩, ⟨n ++ bs [97, 43], false, []⟩, ⟨n ++ bs [114, 45], false, []⟩, ⟨n ++ bs [97, 45], false, []⟩, ⟨bs [], true, [base, base + 1, base + 2, base + 3]⟩] := by simp [lay, layEdge, h1]
      have e2 : expandT (.edge n m) = [.edge (n ++ bs [114]) 43, .edge (n ++ bs [97]) 43, .edge (n ++ bs [114]) 45, .edge (n ++ bs [97]) 45] := by simp [expandT, h2]
      rw [e] at hs ⊢
      rw [e2]
      obtain ⟨a0, b0⟩ := Nt_leaf (f := g) (hs 0 _ rfl)
      obtain ⟨a1, b1⟩ := Nt_leaf (f := g) (hs 1 _ rfl)
      obtain ⟨a2, b2⟩ := Nt_leaf (f := g) (hs 2 _ rfl)
      obtain ⟨a3, b3⟩ := Nt_leaf (f := g) (hs 3 _ rfl)
      have h4 := hs 4 _ rfl
      have hl : base + ([⟨n ++ bs [114, 43], false, []⟩, ⟨n ++ bs [97, 43], false, []⟩, ⟨n ++ bs [114, 45], false, []⟩, ⟨n ++ bs [97, 45], false, []⟩, ⟨bs [], true, [(base : Int), (base : Int) + 1, (base : Int) + 2, (base : Int) + 3]⟩] : List Nd).length - 1 = base + 4 := by simp
      rw [hl]
      simp only [Nat.add_zero] at a0 b0
      rw [show ((base + 1 : Nat) : Int) = (base : Int) + 1 by omega] at a1 b1
      rw [show ((base + 2 : Nat) : Int) = (base : Int) + 2 by omega] at a2 b2
      rw [show ((base + 3 : Nat) : Int) = (base : Int) + 3 by omega] at a3 b3
      refine ⟨⟨base + 4, _, rfl, h4, ?_⟩, ?_⟩
      · intro k hk
        simp at hk
        rcases hk with rfl | rfl | rfl | rfl
        · exact a0
        · exact a1
        · exact a2
        · exact a3
      · rw [ntext_at h4]
        simp [b0, b1, b2, b3, txRow, txT, jn, jt, ByteArray.append_assoc, bs_append, append_bs_nil]
  | par rows =>
    obtain ⟨g, rfl⟩ : ∃ g, f = g + 1 := ⟨f - 1, by omega⟩
    simp only [dep] at hf
    have hs' : Seg ns base ((layRows base rows).1 ++ [⟨bs [], false, (layRows base rows).2⟩]) := hs
    obtain ⟨h1, h2⟩ := layRows_text ns rows h.2 g base (by omega) hs'.left
    have hx := hs'.right 0 _ rfl
    have hl : base + (lay base (.par rows)).length - 1 = base + (layRows base rows).1.length + 0 := by simp [lay]
    rw [hl]
    have hk : (layRows base rows).2.length ≠ 0 := by rw [layRows_kids]; exact fun h0 => h.1 (List.eq_nil_of_length_eq_zero h0)
    refine ⟨⟨_, _, rfl, hx, h1⟩, ?_⟩
    rw [ntext_at hx]
    simp only [hk, if_false, expandT, txRow, txT, jn, jt, append_bs_nil, h2]
    simp
theorem layParts_text (ns : List Nd) (r : List Tr) (h : okRow r) (f base : Nat) (hf : 2 * depRow r + 2 ≤ f) (hs : Seg ns base (layParts base r).1) :
    (∀ k, k ∈ (layParts base r).2 → Nt ns f k) ∧ (layParts base r).2.map (ntext ns f) = r.map (fun t => jn 59 (txRow (expandT t))) := by
  cases r with
  | nil => simp [layParts]
  | cons t ts =>
    simp only [depRow] at hf
    have hs' : Seg ns base (lay base t ++ (layParts (base + (lay base t).length) ts).1) := hs
    obtain ⟨a, b⟩ := lay_text ns t h.1 f base (by omega) hs'.left
    obtain ⟨c, d⟩ := layParts_text ns ts h.2 f (base + (lay base t).length) (by omega) hs'.right
    refine ⟨fun k hk => ?_, ?_⟩
    · have hk' : k = ((base + (lay base t).length - 1 : Nat) : Int) ∨ k ∈ (layParts (base + (lay base t).length) ts).2 := by simpa [layParts] using hk
      rcases hk' with rfl | hk
      · exact a
      · exact c k hk
    · show ntext ns f ((base + (lay base t).length - 1 : Nat) : Int) :: (layParts (base + (lay base t).length) ts).2.map (ntext ns f) = _
      rw [b, d]; rfl
theorem layRows_text (ns : List Nd) (rs : List (List Tr)) (h : okRows rs) (f base : Nat) (hf : 2 * depRows rs + 1 ≤ f) (hs : Seg ns base (layRows base rs).1) :
    (∀ k, k ∈ (layRows base rs).2 → Nt ns f k) ∧ (layRows base rs).2.map (ntext ns f) = txRows (expandRows rs) := by
  cases rs with
  | nil => simp [layRows, expandRows, txRows]
  | cons r rs =>
    simp only [depRows] at hf
    obtain ⟨g, rfl⟩ : ∃ g, f = g + 1 := ⟨f - 1, by omega⟩
    rw [layRows_cons] at hs ⊢
    have hs1 : Seg ns base ((layParts base r).1 ++ [⟨bs [], true, (layParts base r).2⟩]) := hs.left
    obtain ⟨a, b⟩ := layParts_text ns r h.1.2 g base (by omega) hs1.left
    obtain ⟨c, d⟩ := layRows_text ns rs h.2 (g + 1) (base + (layRow base r).length) (by omega) hs.right
    have hx := hs1.right 0 _ rfl
    have hl : base + (layRow base r).length - 1 = base + (layParts base r).1.length + 0 := by simp [layRow]
    have hk : (layParts base r).2.length ≠ 0 := by rw [layParts_kids]; exact fun h0 => h.1.1 (List.eq_nil_of_length_eq_zero h0)
    refine ⟨fun k hk => ?_, ?_⟩
    · simp only [List.mem_cons] at hk
      rcases hk with rfl | hk
      · rw [hl]; exact ⟨_, _, rfl, hx, a⟩
      · exact c k hk
    · simp only [List.map_cons, d, expandRows, txRows]
      rw [hl, ntext_at hx]
      simp only [hk, if_false, b, if_true]
      rw [txRow_expand, ← jn_flat 59 _ (by
        intro l hl
        obtain ⟨t, _, rfl⟩ := List.mem_map.1 hl
        exact txRow_ne (expandT_ne t)), List.map_map]
      rfl
end
theorem layRow_text (r : List Tr) (hr : r ≠ []) (h : okRow r) (f : Nat) (hf : 2 * depRow r + 3 ≤ f) :
    Nt (layRow 0 r) f (((layRow 0 r).length : Int) - 1) ∧ ntext (layRow 0 r) f (((layRow 0 r).length : Int) - 1) = jn 59 (txRow (expandRow r)) := by
  obtain ⟨g, rfl⟩ : ∃ g, f = g + 1 := ⟨f - 1, by omega⟩
  have hs1 : Seg (layRow 0 r) 0 ((layParts 0 r).1 ++ [⟨bs [], true, (layParts 0 r).2⟩]) := fun j x hj => by rw [Nat.zero_add]; exact hj
  obtain ⟨a, b⟩ := layParts_text _ r h g 0 (by omega) hs1.left
  have hx := hs1.right 0 _ rfl
  have hl : ((layRow 0 r).length : Int) - 1 = ((0 + (layParts 0 r).1.length + 0 : Nat) : Int) := by simp [layRow]
  have hk : (layParts 0 r).2.length ≠ 0 := by rw [layParts_kids]; exact fun h0 => hr (List.eq_nil_of_length_eq_zero h0)
  rw [hl]
  refine ⟨⟨_, _, rfl, hx, a⟩, ?_⟩
  rw [ntext_at hx]
  simp only [hk, if_false, b, if_true]
  rw [txRow_expand, ← jn_flat 59 _ (by
    intro l hl
    obtain ⟨t, _, rfl⟩ := List.mem_map.1 hl
    exact txRow_ne (expandT_ne t)), List.map_map]
  rfl
end Go.Proofs.Ytklggjbmkgdkpaa
