/- A plain reading of a run's state: what a frame's slots and the blocks of memory stand for, as data. No program is named here. -/
import Derived.Test.YtochebmkfdfbhaaKit
import Derived.Maps.AppendAt
import Derived.OwnWalk
import Derived.Deep.MidRow
import Derived.Laws.ResultCell
set_option linter.all false
namespace Go.Proofs.Ytochebmkfdfbhaa
open Go.RowKit

/-- Data that nobody writes any more: a value of one cell, a slice that reads as rows of cells, a pointer to such cells. -/
inductive DV where
  | val (v : Value)
  | view (e sz : Nat) (els : List (List DV))
  | ref (cs : List DV)
  deriving Inhabited

/-- A value of one cell as it may lie in memory. -/
def okV : Value → Prop
  | .int k n => k.wrap n = n
  | .string s => s.size ≤ maxLen
  | .agg _ | .tuple _ => False
  | _ => True
theorem okV.one {v : Value} (h : okV v) : v.oneCell' = true := by
  cases v <;> first | rfl | exact h.elim

/-- When a value stands for data, through blocks of F alone. -/
inductive DRep (F : Nat → Prop) (w : World) : DV → Value → Prop
  | val {v : Value} : okV v → DRep F w (.val v) v
  | nil {e sz : Nat} : DRep F w (.view e sz []) (.slice none 0 0)
  | view {e sz : Nat} {els : List (List DV)} {e2 b off cap : Nat} {arr : Array Value} {fz : Nat × Nat} : F b → w.heap[b]? = some (.cells arr e2 fz) → els.length ≤ cap → cap ≤ maxLen → off + cap * sz ≤ arr.size →
      (∀ (i : Nat) (cs : List DV), els[i]? = some cs → cs.length = sz) → (∀ (i : Nat) (cs : List DV) (j : Nat) (d : DV), els[i]? = some cs → cs[j]? = some d → DRep F w d (arr.getD (off + i * sz + j) undef)) →
      DRep F w (.view e sz els) (.slice (some ⟨b, off, none⟩) els.length cap)
  | ref {cs : List DV} {b off e : Nat} {arr : Array Value} {fz : Nat × Nat} : F b → w.heap[b]? = some (.cells arr e fz) → off + cs.length ≤ arr.size →
      (∀ (j : Nat) (d : DV), cs[j]? = some d → DRep F w d (arr.getD (off + j) undef)) → DRep F w (.ref cs) (.pointer (some ⟨b, off, none⟩))

theorem DRep.turn {F F' : Nat → Prop} {w w' : World} {d : DV} {v : Value} (h : DRep F w d v) (hk : ∀ k, F k → k < w.heap.size → F' k ∧ w'.heap[k]? = w.heap[k]?) : DRep F' w' d v := by
  induction h with
  | val h => exact .val h
  | nil => exact .nil
  | view hF hb h1 h2 h3 h4 _ ih => have := hk _ hF (lt_of_block hb); exact .view this.1 (this.2.trans hb) h1 h2 h3 h4 ih
  | ref hF hb h1 _ ih => have := hk _ hF (lt_of_block hb); exact .ref this.1 (this.2.trans hb) h1 ih
theorem DRep.mono {F F' : Nat → Prop} {w : World} {d : DV} {v : Value} (h : DRep F w d v) (hk : ∀ k, F k → F' k) : DRep F' w d v := h.turn fun k h1 _ => ⟨hk k h1, rfl⟩
theorem DRep.one {F : Nat → Prop} {w : World} {d : DV} {v : Value} (h : DRep F w d v) : v.oneCell' = true := by
  cases h <;> first | rfl | (rename_i h; exact h.one)
/-- Data without any block behind them. -/
def DV.flat : DV → Prop
  | .val _ => True
  | _ => False
theorem DRep.flat {F F' : Nat → Prop} {w w' : World} {d : DV} {v : Value} (h : DRep F w d v) (hf : d.flat) : DRep F' w' d v := by
  cases h with
  | val h => exact .val h
  | _ => exact hf.elim

/-- A slot's reading: data, a slice of one of the call's own blocks, a pointer into one, a struct, a tuple, a function's value; or nothing. -/
inductive AV where
  | dead
  | und
  | d (x : DV)
  | own (id n : Nat)
  | ptr (id k : Nat)
  | tight (e sz : Nat) (els : List (List DV))
  | agg (cs : List AV)
  | tup (vs : List AV)
  | clo (f : FuncId) (caps : List AV)
  deriving Inhabited

/-- .. what value it is, given where the call's own blocks lie (block, capacity). -/
inductive ARep (m : Nat → Option (Option Nat × Nat)) (F : Nat → Prop) (w : World) : AV → Value → Prop
  | dead {v : Value} : ARep m F w .dead v
  | und : ARep m F w .und undef
  | d {x : DV} {v : Value} : DRep F w x v → ARep m F w (.d x) v
  | own {id n cap : Nat} {b : Option Nat} : m id = some (b, cap) → (b = none → n = 0 ∧ cap = 0) → ARep m F w (.own id n) (.slice (b.map fun b => ⟨b, 0, none⟩) n cap)
  | ptr {id k b cap : Nat} : m id = some (some b, cap) → ARep m F w (.ptr id k) (.pointer (some ⟨b, k, none⟩))
  | tight {e sz : Nat} {els : List (List DV)} {a : Option Addr} : DRep F w (.view e sz els) (.slice a els.length els.length) → ARep m F w (.tight e sz els) (.slice a els.length els.length)
  | agg {cs : List AV} {vs : Array Value} : vs.size = cs.length → (∀ (i : Nat) (c : AV), cs[i]? = some c → ARep m F w c (vs.getD i undef)) → (∀ (i : Nat), i < vs.size → (vs.getD i undef).oneCell' = true) → ARep m F w (.agg cs) (.agg vs)
  | tup {cs : List AV} {vs : Array Value} : vs.size = cs.length → (∀ (i : Nat) (c : AV), cs[i]? = some c → ARep m F w c (vs.getD i undef)) → ARep m F w (.tup cs) (.tuple vs)
  | clo {f : FuncId} {cs : List AV} {vs : Array Value} : vs.size = cs.length → (∀ (i : Nat) (c : AV), cs[i]? = some c → ARep m F w c (vs.getD i undef)) → ARep m F w (.clo f cs) (.func (.func f) #[] vs)

def MLe (m m' : Nat → Option (Option Nat × Nat)) : Prop := ∀ id p, m id = some p → m' id = some p
theorem MLe.refl (m : Nat → Option (Option Nat × Nat)) : MLe m m := fun _ _ h => h
theorem ARep.turn {m m' : Nat → Option (Option Nat × Nat)} {F F' : Nat → Prop} {w w' : World} {x : AV} {v : Value} (h : ARep m F w x v) (hm : MLe m m') (hk : ∀ k, F k → k < w.heap.size → F' k ∧ w'.heap[k]? = w.heap[k]?) : ARep m' F' w' x v := by
  induction h with
  | dead => exact .dead
  | und => exact .und
  | d h => exact .d (h.turn hk)
  | own h h0 => exact .own (hm _ _ h) h0
  | ptr h => exact .ptr (hm _ _ h)
  | tight h => exact .tight (h.turn hk)
  | agg h1 _ h3 ih => exact .agg h1 ih h3
  | tup h1 _ ih => exact .tup h1 ih
  | clo h1 _ ih => exact .clo h1 ih

/-- A block of the call's own: a variable's cells; the array behind slices, of which so many elements are known. -/
inductive Chunk where
  | cells (t : Nat) (cs : List AV)
  | arr (e sz : Nat) (els : List (List DV))
  | iter (st : ByteArray) (pos : Nat)
  deriving Inhabited

inductive CRep (m : Nat → Option (Option Nat × Nat)) (F : Nat → Prop) (w : World) : Option Nat × Nat → Chunk → Prop
  | cells {b cap t : Nat} {cs : List AV} {vs : Array Value} : w.heap[b]? = some (.cells vs t (0, 0)) → vs.size = cs.length → (∀ (i : Nat) (c : AV), cs[i]? = some c → ARep m F w c (vs.getD i undef)) → (∀ (i : Nat), i < vs.size → (vs.getD i undef).oneCell' = true) → CRep m F w (some b, cap) (.cells t cs)
  | arr {b cap e sz : Nat} {els : List (List DV)} {vs : Array Value} {fz : Nat × Nat} : w.heap[b]? = some (.cells vs e fz) → (∀ (i : Nat), i < vs.size → ¬ (fz.1 ≤ i ∧ i < fz.2)) → vs.size = cap * sz → els.length ≤ cap → cap ≤ maxLen → 0 < sz → (∀ (i : Nat) (cs : List DV), els[i]? = some cs → cs.length = sz) →
      (∀ (i : Nat) (cs : List DV) (j : Nat) (d : DV), els[i]? = some cs → cs[j]? = some d → DRep F w d (vs.getD (i * sz + j) undef)) → CRep m F w (some b, cap) (.arr e sz els)
  | nil {e sz : Nat} : 0 < sz → CRep m F w (none, 0) (.arr e sz [])
  | iter {b cap pos : Nat} {st : ByteArray} : w.heap[b]? = some (.stringIter st pos) → CRep m F w (some b, cap) (.iter st pos)
theorem CRep.lt {m : Nat → Option (Option Nat × Nat)} {F : Nat → Prop} {w : World} {p : Option Nat × Nat} {c : Chunk} (h : CRep m F w p c) {b : Nat} (hb : p.1 = some b) : b < w.heap.size := by
  cases h with
  | cells h => simp only [Option.some.injEq] at hb; subst hb; exact lt_of_block h
  | arr h => simp only [Option.some.injEq] at hb; subst hb; exact lt_of_block h
  | nil => cases hb
  | iter h => simp only [Option.some.injEq] at hb; subst hb; exact (Array.getElem?_eq_some_iff.1 h).1
theorem CRep.turn {m m' : Nat → Option (Option Nat × Nat)} {F F' : Nat → Prop} {w w' : World} {p : Option Nat × Nat} {c : Chunk} (h : CRep m F w p c) (hm : MLe m m') (hk : ∀ k, F k → k < w.heap.size → F' k ∧ w'.heap[k]? = w.heap[k]?) (hp : ∀ b, p.1 = some b → w'.heap[b]? = w.heap[b]?) : CRep m' F' w' p c := by
  cases h with
  | cells h1 h2 h3 h4 => exact .cells ((hp _ rfl).trans h1) h2 (fun i c hc => (h3 i c hc).turn hm hk) h4
  | arr h1 h2 h3 h4 h5 h6 h7 h8 => exact .arr ((hp _ rfl).trans h1) h2 h3 h4 h5 h6 h7 (fun i cs j d hc hd => (h8 i cs j d hc hd).turn hk)
  | nil h => exact .nil h
  | iter h => exact .iter ((hp _ rfl).trans h)

/-- Lists of pairs as tables: the first entry counts. -/
def getL {α : Type} (i : Nat) : List (Nat × α) → Option α
  | [] => none
  | (j, x) :: t => bif Nat.beq i j then some x else getL i t
theorem getL_cons {α : Type} (i j : Nat) (x : α) (t : List (Nat × α)) : getL i ((j, x) :: t) = if i = j then some x else getL i t := by
  simp only [getL]
  by_cases h : i = j
  · subst h; simp
  · rw [if_neg h]; cases hb : Nat.beq i j with
    | true => exact absurd (by simpa using hb) h
    | false => rfl
theorem getL_append {α : Type} (i : Nat) (a b : List (Nat × α)) : getL i (a ++ b) = (getL i a).or (getL i b) := by
  induction a with
  | nil => rfl
  | cons p a ih =>
    obtain ⟨j, x⟩ := p
    simp only [List.cons_append, getL_cons, ih]
    split <;> rfl

/-- A state read plainly: n slots, what they stand for, the call's own blocks; the names from nx on are free. -/
structure ASt where
  n : Nat
  nx : Nat
  sl : List (Nat × AV)
  ch : List (Nat × Option Chunk)
def ASt.get (s : ASt) (i : Nat) : AV := (getL i s.sl).getD .dead
def ASt.chunk (s : ASt) (id : Nat) : Option Chunk := (getL id s.ch).getD none
/-- What an operation brings: its result, blocks that are new, turned or given up. -/
structure Upd where
  r : AV
  ch : List (Nat × Option Chunk)
def ASt.app (s : ASt) (i : Option Nat) (u : Upd) : ASt :=
  match i with
  | some i => { s with sl := (i, u.r) :: s.sl, ch := u.ch ++ s.ch }
  | none => { s with ch := u.ch ++ s.ch }
def ASt.put (s : ASt) (i : Option Nat) (x : AV) : ASt :=
  match i with
  | some i => { s with sl := (i, x) :: s.sl }
  | none => s

/-- What a call found: the world, the blocks that nobody writes, the blocks it was handed. -/
structure Ctx where
  w : World
  fin : Nat → Prop
  S : List Nat
  m0 : Nat → Option (Option Nat × Nat)
  k : Nat

def Fz (C : Ctx) (m : Nat → Option (Option Nat × Nat)) (s : ASt) (w : World) (k : Nat) : Prop := (C.fin k ∨ k ∈ C.S ∨ C.w.heap.size ≤ k) ∧ k < w.heap.size ∧ ∀ id c p, s.chunk id = some c → m id = some p → p.1 ≠ some k

structure RelM (C : Ctx) (U : Nat → Prop) (s : ASt) (a : Act) (w : World) (m : Nat → Option (Option Nat × Nat)) : Prop where
  fr : Fr C.S C.w w
  fin : ∀ k, C.fin k → k < C.w.heap.size ∧ k ∉ C.S
  sz : a.tmps.size = s.n
  sl : ∀ i, ARep m (Fz C m s w) w (s.get i) (a.tmps.getD i undef)
  ch : ∀ id c, s.chunk id = some c → ∃ p, m id = some p ∧ CRep m (Fz C m s w) w p c ∧ ∀ b, p.1 = some b → b ∈ C.S ∨ C.w.heap.size ≤ b
  inj : ∀ id id' c c' p p', s.chunk id = some c → s.chunk id' = some c' → m id = some p → m id' = some p' → ∀ b, p.1 = some b → p'.1 = some b → id = id'
  un : ∀ id, U id → m id = none
  defers : a.defers = []
  m0 : MLe C.m0 m
  m0k : ∀ id, C.k ≤ id → C.m0 id = none
def Rel (C : Ctx) (s : ASt) (a : Act) (w : World) : Prop := ∃ m, RelM C (fun id => s.nx ≤ id) s a w m
end Go.Proofs.Ytochebmkfdfbhaa
