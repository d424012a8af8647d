/- Contracts of the functions of the program and of the reference, each proved by a walk through its code. -/
import Derived.Test.YtkfpoagjlaldgaaGPskStr
import Derived.Test.YtkfpoagjlaldgaaGPskExp
set_option linter.all false
set_option maxRecDepth 20000
namespace Go.Proofs.Ytkfpoagjlaldgaa
open Go.RowKit

def goodP (p : ByteArray × UInt8) : Prop := (p.2 = 43 ∨ p.2 = 45) ∧ p.1.size ≤ 7
mutual
theorem partsT_good (t : Tr) (h : okT t) : (partsRow (expandT t)).length ≤ 4 * cntT t ∧ ∀ p, p ∈ partsRow (expandT t) → goodP p := by
  cases t with
  | edge n m =>
    have hs := leafOk_size h
    rcases leafOk_marks h with ⟨h1, h2⟩ | ⟨h1, h2⟩
    · have e : partsRow (expandT (.edge n m)) = [(n, m)] := by simp [expandT, h2, partsRow, partsT]
      rw [e]
      refine ⟨by simp [cntT], fun p hp => ?_⟩
      simp at hp
      subst hp
      refine ⟨by simpa using h1, by simp only; omega⟩
    · have e : partsRow (expandT (.edge n m)) = [(n ++ bs [114], 43), (n ++ bs [97], 43), (n ++ bs [114], 45), (n ++ bs [97], 45)] := by simp [expandT, h2, partsRow, partsT]
      rw [e]
      refine ⟨by simp [cntT], fun p hp => ?_⟩
      have h3 : ∀ x : UInt8, (n ++ bs [x]).size ≤ 7 := fun x => by rw [ByteArray.size_append, show (bs [x]).size = 1 from rfl]; omega
      simp at hp
      rcases hp with rfl | rfl | rfl | rfl
      · exact ⟨.inl rfl, h3 _⟩
      · exact ⟨.inl rfl, h3 _⟩
      · exact ⟨.inr rfl, h3 _⟩
      · exact ⟨.inr rfl, h3 _⟩
  | par rows =>
    have := partsRows_good rows h.2
    simpa only [expandT, partsRow, partsT, List.append_nil, cntT] using this
theorem partsRow_good (r : List Tr) (h : okRow r) : (partsRow (expandRow r)).length ≤ 4 * cntRow r ∧ ∀ p, p ∈ partsRow (expandRow r) → goodP p := by
  cases r with
  | nil => simp [expandRow, partsRow]
  | cons t ts =>
    have h1 := partsT_good t h.1
    have h2 := partsRow_good ts h.2
    simp only [expandRow, partsRow_append, cntRow, List.length_append, List.mem_append]
    refine ⟨by omega, fun p hp => hp.elim (h1.2 p) (h2.2 p)⟩
theorem partsRows_good (rs : List (List Tr)) (h : okRows rs) : (partsRows (expandRows rs)).length ≤ 4 * cntRows rs ∧ ∀ p, p ∈ partsRows (expandRows rs) → goodP p := by
  cases rs with
  | nil => simp [expandRows, partsRows]
  | cons r rs =>
    have h1 := partsRow_good r h.1.2
    have h2 := partsRows_good rs h.2
    simp only [expandRows, partsRows, cntRows, List.length_append, List.mem_append]
    refine ⟨by omega, fun p hp => hp.elim (h1.2 p) (h2.2 p)⟩
end
theorem procOf_ok {s : ByteArray} {ts : List Tr} (h : procOf s = some ts) : ts ≠ [] ∧ okRow ts ∧ cntRow ts ≤ 200 := by
  have h0 := h
  obtain ⟨hs, j, hj⟩ := procOf_parse h
  obtain ⟨h1, h2, h3, h4⟩ := (parse_ok _ _ _).2.1 _ _ hj
  unfold procOf at h0
  split at h0
  · rw [hj] at h0
    simp only at h0
    split at h0
    · rename_i _ h5
      exact ⟨h1, h2, by have := h5.2; omega⟩
    · cases h0
  · cases h0
theorem leafWords_take {ns : List Nd} {k : Nat} {x : Nd} (h : ns[k]? = some x) : leafWords (ns.take (k + 1)) = leafWords (ns.take k) ++ leafWords [x] := by
  rw [List.take_add_one, h]; simp [leafWords_append]
theorem leafWords_len (ns : List Nd) : (leafWords ns).length ≤ ns.length := by
  unfold leafWords; rw [List.length_map]; exact List.length_filter_le _ _

end Go.Proofs.Ytkfpoagjlaldgaa

