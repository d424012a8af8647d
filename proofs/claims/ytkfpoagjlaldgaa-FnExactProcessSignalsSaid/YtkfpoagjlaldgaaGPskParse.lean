/- Contracts of the functions of the program and of the reference, each proved by a walk through its code. -/
import Derived.Test.YtkfpoagjlaldgaaGPskRep
set_option linter.all false
set_option maxRecDepth 20000
namespace Go.Proofs.Ytkfpoagjlaldgaa
open Go.RowKit

inductive Tr where
  | edge (name : ByteArray) (mark : UInt8)
  | par (rows : List (List Tr))

def chName (c : UInt8) : Bool := (97 ≤ c && c ≤ 122) || (48 ≤ c && c ≤ 57)
/-- The first place from i on, at most n places further, that bears no name's byte. -/
def scanN (c : Nat → UInt8) : Nat → Nat → Nat
  | 0, i => i
  | n + 1, i => if chName (c i) then scanN c n (i + 1) else i
def cut (c : Nat → UInt8) (i j : Nat) : ByteArray := ⟨((List.range' i (j - i)).map c).toArray⟩
def letterB (c : UInt8) : Bool := 97 ≤ c && c ≤ 122
/-- The name of a signal: a letter, then letters and digits, six at most. -/
def nameOk (l : List UInt8) : Bool := 1 ≤ l.length && l.length ≤ 6 && l.all chName && (l.take 1).all letterB
def leafOk (name : ByteArray) (m : UInt8) : Bool :=
  nameOk name.data.toList && (m == 43 || m == 45 || ((m == 33 || m == 63) && name.size ≤ 5))

mutual
def parsePart (c : Nat → UInt8) : Nat → Nat → Option (Tr × Nat)
  | 0, _ => none
  | f + 1, i =>
    if c i = 40 then
      match parseRow c f (i + 1) with
      | none => none
      | some (r, j) => match parseMore c f j with
        | none => none
        | some (rs, k) => if rs.isEmpty then none else if c k = 41 then some (.par (r :: rs), k + 1) else none
    else
      let j := scanN c 1001 i
      if leafOk (cut c i j) (c j) then some (.edge (cut c i j) (c j), j + 1) else none
def parseRow (c : Nat → UInt8) : Nat → Nat → Option (List Tr × Nat)
  | 0, _ => none
  | f + 1, i => match parsePart c f i with
    | none => none
    | some (t, j) => match parseTail c f j with
      | none => none
      | some (ts, k) => some (t :: ts, k)
def parseTail (c : Nat → UInt8) : Nat → Nat → Option (List Tr × Nat)
  | 0, _ => none
  | f + 1, i =>
    if c i = 59 then
      match parsePart c f (i + 1) with
      | none => none
      | some (t, j) => match parseTail c f j with
        | none => none
        | some (ts, k) => some (t :: ts, k)
    else some ([], i)
def parseMore (c : Nat → UInt8) : Nat → Nat → Option (List (List Tr) × Nat)
  | 0, _ => none
  | f + 1, i =>
    if c i = 124 then
      match parseRow c f (i + 1) with
      | none => none
      | some (r, j) => match parseMore c f j with
        | none => none
        | some (rs, k) => some (r :: rs, k)
    else some ([], i)
end

mutual
def dep : Tr → Nat
  | .edge _ _ => 0
  | .par rows => depRows rows
def depRow : List Tr → Nat
  | [] => 0
  | t :: ts => max (dep t) (depRow ts)
def depRows : List (List Tr) → Nat
  | [] => 0
  | r :: rs => max (1 + depRow r) (depRows rs)
end
theorem dep_le_row {t : Tr} {r : List Tr} (h : t ∈ r) : dep t ≤ depRow r := by
  induction r with
  | nil => cases h
  | cons a r ih =>
    simp only [depRow]
    rcases List.mem_cons.1 h with rfl | h
    · omega
    · have := ih h; omega
theorem dep_le_rows {r : List Tr} {rs : List (List Tr)} (h : r ∈ rs) : 1 + depRow r ≤ depRows rs := by
  induction rs with
  | nil => cases h
  | cons a rs ih =>
    simp only [depRows]
    rcases List.mem_cons.1 h with rfl | h
    · omega
    · have := ih h; omega

/-- The change of an element's reading in a slice. -/
theorem SL.map {α : Type} {K : Nat → Prop} {e : TypeId} {t t' : Ty α} {w : World} {v : Value} {l : List α} (h : SL K e t w v l) (hsz : t.size = t'.size)
    (hel : ∀ cs x, x ∈ l → t.rep K w cs x → t'.rep K w cs x) : SL K e t' w v l := by
  obtain ⟨a, cap, rfl, h1, h2, h3, h4⟩ := h
  refine ⟨a, cap, rfl, h1, h2, h3, fun p hp => ?_⟩
  obtain ⟨hn, hK, arr, fz, hh, hle, he⟩ := h4 p hp
  exact ⟨hn, hK, arr, fz, hh, hsz ▸ hle, fun i x hx => by rw [← hsz]; exact hel _ x (List.mem_of_getElem? hx) (he i x hx)⟩

/-- A part of a process in memory, to a depth. -/
def trTy : Nat → Ty Tr
  | 0 => { size := 3, rep := fun _ _ _ _ => False, len := fun h => h.elim, one := fun h => h.elim, frame := fun h => h.elim, mono := fun h => h.elim, bound := fun h => h.elim }
  | d + 1 =>
    { size := 3
      rep := fun K w cs t => match t with
        | .edge n m => cs = [.string n, .int .u8 (m.toNat : Int), .slice none 0 0] ∧ n.size ≤ maxLen
        | .par rows => ∃ v, cs = [.string ByteArray.empty, .int .u8 0, v] ∧ SL K 32 (Ty.slice 40 (trTy d)) w v rows
      len := fun {K w cs t} h => by
        cases t with
        | edge n m => rw [h.1]; rfl
        | par rows => obtain ⟨v, rfl, _⟩ := h; rfl
      one := fun {K w cs t} h u hu => by
        cases t with
        | edge n m => rw [h.1] at hu; simp at hu; rcases hu with rfl | rfl | rfl <;> rfl
        | par rows =>
          obtain ⟨v, rfl, a, cap, rfl, _⟩ := h
          simp at hu; rcases hu with rfl | rfl | rfl <;> rfl
      frame := fun {K S w w' cs t} h f hs => by
        cases t with
        | edge n m => exact h
        | par rows => obtain ⟨v, rfl, h⟩ := h; exact ⟨v, rfl, h.frame f hs⟩
      mono := fun {K K' w cs t} h hk => by
        cases t with
        | edge n m => exact h
        | par rows => obtain ⟨v, rfl, h⟩ := h; exact ⟨v, rfl, h.mono hk⟩
      bound := fun {K w cs t} h => by
        cases t with
        | edge n m => exact h
        | par rows => obtain ⟨v, rfl, h⟩ := h; exact ⟨v, rfl, h.bound⟩ }

theorem trTy_size (d : Nat) : (trTy d).size = 3 := by cases d <;> rfl

theorem trTy_up {d : Nat} : ∀ {K w cs t}, (trTy d).rep K w cs t → (trTy (d + 1)).rep K w cs t := by
  induction d with
  | zero => intro K w cs t h; exact h.elim
  | succ d ih =>
    intro K w cs t h
    cases t with
    | edge n m => exact h
    | par rows =>
      obtain ⟨v, rfl, h⟩ := h
      refine ⟨v, rfl, h.map rfl (fun cs x _ hx => ?_)⟩
      obtain ⟨v, rfl, hx⟩ := hx
      exact ⟨v, rfl, hx.map ((trTy_size _).trans (trTy_size _).symm) (fun cs y _ hy => ih hy)⟩
theorem trTy_le {d d' : Nat} (hd : d ≤ d') {K w cs t} (h : (trTy d).rep K w cs t) : (trTy d').rep K w cs t := by
  induction d' with
  | zero => obtain rfl : d = 0 := by omega
            exact h
  | succ d' ih =>
    by_cases he : d = d' + 1
    · subst he; exact h
    · exact trTy_up (ih (by omega))
theorem trTy_dep {d : Nat} : ∀ {K w cs t}, (trTy d).rep K w cs t → (trTy (dep t + 1)).rep K w cs t := by
  induction d with
  | zero => intro K w cs t h; exact h.elim
  | succ d ih =>
    intro K w cs t h
    cases t with
    | edge n m => exact h
    | par rows =>
      obtain ⟨v, rfl, h⟩ := h
      refine ⟨v, rfl, h.map rfl (fun cs x hm hx => ?_)⟩
      obtain ⟨v, rfl, hx⟩ := hx
      refine ⟨v, rfl, hx.map ((trTy_size _).trans (trTy_size _).symm) (fun cs y hy hr => trTy_le ?_ (ih hr))⟩
      have h1 := dep_le_row hy
      have h2 := dep_le_rows hm
      simp only [dep]; omega

/-- A part of a process in memory. -/
def tr : Ty Tr where
  size := 3
  rep K w cs t := (trTy (dep t + 1)).rep K w cs t
  len h := ((trTy _).len h).trans (trTy_size _)
  one h := (trTy _).one h
  frame h := (trTy _).frame h
  mono h := (trTy _).mono h
  bound h := (trTy _).bound h

theorem tr_edge {K : Nat → Prop} {w : World} {cs : List Value} {n : ByteArray} {m : UInt8} : tr.rep K w cs (.edge n m) ↔ cs = [.string n, .int .u8 (m.toNat : Int), .slice none 0 0] ∧ n.size ≤ maxLen := Iff.rfl
theorem tr_par {K : Nat → Prop} {w : World} {cs : List Value} {rows : List (List Tr)} :
    tr.rep K w cs (.par rows) ↔ ∃ v, cs = [.string ByteArray.empty, .int .u8 0, v] ∧ SL K 32 (Ty.slice 40 tr) w v rows := by
  constructor
  · rintro ⟨v, rfl, h⟩
    refine ⟨v, rfl, h.map rfl (fun cs x hm hx => ?_)⟩
    obtain ⟨v, rfl, hx⟩ := hx
    exact ⟨v, rfl, hx.map (trTy_size _) (fun cs y _ hy => trTy_dep hy)⟩
  · rintro ⟨v, rfl, h⟩
    refine ⟨v, rfl, h.map rfl (fun cs x hm hx => ?_)⟩
    obtain ⟨v, rfl, hx⟩ := hx
    refine ⟨v, rfl, hx.map (trTy_size _).symm (fun cs y hy hr => trTy_le (d := dep y + 1) ?_ hr)⟩
    have h1 := dep_le_row hy
    have h2 := dep_le_rows hm
    simp only [dep]; omega
end Go.Proofs.Ytkfpoagjlaldgaa

