/- Walks: independence, enabled transitions. -/
import Derived.Test.YtochebmkfdfbhaaW10
set_option linter.all false
namespace Go.Proofs.Ytochebmkfdfbhaa
open Go.RowKit

def NetQ (N : Net) : Prop := ∀ t, t ∈ N.ts → t.pre.length ≤ 400000 ∧ t.post.length ≤ 400000
def inR (N : Net) (t : Int) : Bool := decide (0 ≤ t) && decide (t ≤ (N.ts.length : Int) - 1)
def indI (N : Net) (t u : Int) : Bool × Bool :=
  if goodN N && inR N t && inR N u then (!shareI ((N.ts.getD t.toNat ⟨[], []⟩).pre ++ (N.ts.getD t.toNat ⟨[], []⟩).post) ((N.ts.getD u.toNat ⟨[], []⟩).pre ++ (N.ts.getD u.toNat ⟨[], []⟩).post), true) else (false, false)
theorem good_pre {N : Net} (h : goodN N = true) : ∀ t, t ∈ N.ts → 0 < t.pre.length := by
  intro x hx
  simp only [goodN, Bool.and_eq_true, Bool.not_eq_true', List.any_eq_false, decide_eq_true_eq] at h
  have h1 := h.2 x hx
  simp only [badT, Bool.or_eq_true, decide_eq_true_eq, not_or] at h1
  omega
theorem indI_no {N : Net} {t u : Int} (h : (goodN N && inR N t && inR N u) = false) : indI N t u = (false, false) := by rw [indI, h]; rfl
theorem indI_yes {N : Net} {i j : Nat} (hg : goodN N = true) (hi : i < N.ts.length) (hj : j < N.ts.length) : indI N i j = (!shareI (N.ts[i].pre ++ N.ts[i].post) (N.ts[j].pre ++ N.ts[j].post), true) := by
  have h1 : inR N i = true := by simp [inR]; omega
  have h2 : inR N j = true := by simp [inR]; omega
  rw [indI, hg, h1, h2]
  simp [List.getD, List.getElem?_eq_getElem hi, List.getElem?_eq_getElem hj]

/-- The transitions from a number on that are ready. -/
def readyL (N : Net) (m : List UInt8) (k : Nat) : List Int := ((List.range k).filter (fun i => match N.ts[i]? with | some t => readyS t m | none => false)).map (fun (i : Nat) => (i : Int))
theorem readyL_succ {N : Net} {m : List UInt8} {k : Nat} (hk : k < N.ts.length) : readyL N m (k + 1) = readyL N m k ++ (if readyS N.ts[k] m then [(k : Int)] else []) := by
  unfold readyL
  rw [List.range_succ, List.filter_append, List.map_append]
  congr 1
  simp only [List.filter_cons, List.getElem?_eq_getElem hk, List.filter_nil]
  split <;> rfl
theorem readyL_t {N : Net} {m : List UInt8} {k : Nat} (hk : k < N.ts.length) (h : readyS N.ts[k] m = true) : readyL N m (k + 1) = readyL N m k ++ [(k : Int)] := by rw [readyL_succ hk, h]; rfl
theorem readyL_f {N : Net} {m : List UInt8} {k : Nat} (hk : k < N.ts.length) (h : readyS N.ts[k] m = false) : readyL N m (k + 1) = readyL N m k := by rw [readyL_succ hk, h]; exact List.append_nil _
theorem readyL_len (N : Net) (m : List UInt8) (k : Nat) : (readyL N m k).length ≤ k := by
  unfold readyL
  rw [List.length_map]
  exact Nat.le_trans (List.length_filter_le _ _) (by simp)
end Go.Proofs.Ytochebmkfdfbhaa
