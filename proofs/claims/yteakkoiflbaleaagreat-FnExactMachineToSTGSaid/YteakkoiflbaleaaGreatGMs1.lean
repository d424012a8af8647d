/- Contracts of the functions of the program and of the reference, each proved by a walk through its code. -/
import Derived.WalkKit
import Derived.WalkSpells
import Derived.WalkLawsBesides
import Derived.Deep.Draws
import Derived.Lib.Hide
import Derived.Maps.AppendAt
import Derived.OwnWalk
import Derived.Deep.MidRow
import Derived.Laws.ResultCell
import Derived.Deep.Upon
import Derived.Great.FillDense
import Derived.Laws.Tables
import Derived.Laws.BytesArg
import Derived.Laws.MakeOwn
import Derived.Great.BuildSlice
import Derived.ArgAppend
import Derived.Deep.AppendSrc
import Derived.Test.YteakkoiflbaleaaGreatProg
import Derived.KernelRfl
set_option linter.all false
set_option maxRecDepth 20000
namespace Go.Proofs.YteakkoiflbaleaaGreat
open Go.RowKit
structure Fr (S : List Nat) (w w' : World) : Prop where
 os : w'.os = w.os
 tape : w'.tape = w.tape
 output : w'.output = w.output
 size : w.heap.size ≤ w'.heap.size
 block : ∀ k, k < w.heap.size → k ∉ S → w'.heap[k]? = w.heap[k]?
theorem eqx {α : Sort _} (a : α) : ∃ x, x = a := ⟨a, rfl⟩
theorem Fr.refl (S : List Nat) (w : World) : Fr S w w := ⟨rfl, rfl, rfl, Nat.le_refl _, fun _ _ _ => rfl⟩
theorem Fr.trans {S : List Nat} {a b c : World} (h : Fr S a b) (k : Fr S b c) : Fr S a c :=
 ⟨k.os.trans h.os, k.tape.trans h.tape, k.output.trans h.output, Nat.le_trans h.size k.size, fun i hi hn => (k.block i (Nat.lt_of_lt_of_le hi h.size) hn).trans (h.block i hi hn)⟩
theorem Fr.mono {S T : List Nat} {a b : World} (h : Fr S a b) (hs : ∀ k, k ∈ S → k ∈ T) : Fr T a b :=
 ⟨h.os, h.tape, h.output, h.size, fun i hi hn => h.block i hi (fun hk => hn (hs i hk))⟩
theorem Fr.drew {S : List Nat} {a w : World} (h : Fr S a w) : Fr S a w.drew := ⟨h.os, h.tape, h.output, h.size, h.block⟩
theorem Fr.drewN {S : List Nat} {a w : World} (h : Fr S a w) (n : Nat) : Fr S a (w.drewN n) := ⟨h.os, h.tape, h.output, h.size, h.block⟩
theorem Fr.alloc {S : List Nat} {a w : World} (h : Fr S a w) (o : Obj) : Fr S a (w.alloc o) :=
 ⟨h.os, h.tape, h.output, Nat.le_trans h.size (by simp), fun i hi hn => (Below.heap_alloc w o i (Nat.lt_of_lt_of_le hi h.size)).trans (h.block i hi hn)⟩
theorem Fr.setCell {S : List Nat} {a w : World} (h : Fr S a w) {p : Addr} (hp : p.block ∈ S ∨ a.heap.size ≤ p.block) (u : Value) : Fr S a (w.setCell p u) :=
 ⟨h.os, h.tape, h.output, by simpa [World.setCell] using h.size, fun i hi hn => (Below.heap_setCell w p u i (by
  rintro rfl;rcases hp with hp | hp
  ·exact hn hp
  omega)).trans (h.block i hi hn)⟩
theorem Fr.trans_new {S T : List Nat} {a b c : World} (h : Fr S a b) (k : Fr T b c) (hT : ∀ i, i ∈ T → i ∈ S ∨ a.heap.size ≤ i) : Fr S a c :=
 ⟨k.os.trans h.os, k.tape.trans h.tape, k.output.trans h.output, Nat.le_trans h.size k.size, fun i hi hn => (k.block i (Nat.lt_of_lt_of_le hi h.size) (fun hk => by
  rcases hT i hk with h1 | h1
  ·exact hn h1
  omega)).trans (h.block i hi hn)⟩
theorem Fr.below {w w' : World} (h : Fr [] w w') : Below w.heap.size w w' := ⟨h.os, h.tape, h.output, h.size, fun i hi => h.block i hi (by simp)⟩
theorem Fr.cell {S : List Nat} {w w' : World} (h : Fr S w w') {p : Addr} (hp : p.block < w.heap.size) (hn : p.block ∉ S) : w'.cell? p = w.cell? p := World.cell?_of_block (w := w) (h.block p.block hp hn)
def Blk (w : World) (b : Nat) (t : TypeId) (cs : List Value) : Prop := w.heap[b]? = some (.cells cs.toArray t (0, 0))
theorem Blk.lt {w : World} {b : Nat} {t : TypeId} {cs : List Value} (h : Blk w b t cs) : b < w.heap.size := lt_of_block h
theorem Blk.cell {w : World} {b : Nat} {t : TypeId} {cs : List Value} (h : Blk w b t cs) (i : Nat) {v : Value} (hv : cs[i]? = some v) : w.cell? ⟨b, i, none⟩ = some v := by
 simp [World.cell?, show w.heap[b]? = _ from h, hv]
theorem Blk.free {w : World} {b : Nat} {t : TypeId} {cs : List Value} (h : Blk w b t cs) (i : Nat) : w.frozen? ⟨b, i, none⟩ = false := by
 simp [World.frozen?, show w.heap[b]? = _ from h]
theorem Blk.drewN {w : World} {b : Nat} {t : TypeId} {cs : List Value} (h : Blk w b t cs) (n : Nat) : Blk (w.drewN n) b t cs := h
theorem Blk.drew {w : World} {b : Nat} {t : TypeId} {cs : List Value} (h : Blk w b t cs) : Blk w.drew b t cs := h
theorem Blk.alloc {w : World} {b : Nat} {t : TypeId} {cs : List Value} (h : Blk w b t cs) (o : Obj) : Blk (w.alloc o) b t cs := (Below.heap_alloc w o b h.lt).trans h
theorem Blk.fr {S : List Nat} {w w' : World} {b : Nat} {t : TypeId} {cs : List Value} (h : Blk w b t cs) (hf : Fr S w w') (hb : b ∉ S) : Blk w' b t cs := (hf.block b h.lt hb).trans h
theorem Blk.other {w : World} {b : Nat} {t : TypeId} {cs : List Value} (h : Blk w b t cs) {p : Addr} (hp : b ≠ p.block) (u : Value) : Blk (w.setCell p u) b t cs := (Below.heap_setCell w p u b hp).trans h
theorem Blk.new (w : World) (t : TypeId) (cs : List Value) : Blk (w.alloc (.cells cs.toArray t)) w.heap.size t cs := heap_alloc_new w _
theorem Blk.set {w : World} {b : Nat} {t : TypeId} {cs : List Value} (h : Blk w b t cs) (i : Nat) (u : Value) : Blk (w.setCell ⟨b, i, none⟩ u) b t (cs.set i u) := by
 have hlt := h.lt;have h' : w.heap[b] = .cells cs.toArray t (0, 0) := by simpa [Array.getElem?_eq_getElem hlt] using (show w.heap[b]? = _ from h)
 show (w.heap.modify b _)[b]? = _;rw [Array.getElem?_eq_getElem (by simpa using hlt), Array.getElem_modify_self, h'];simp
inductive DV where
 | val (v : Value)
 | view (e sz : Nat) (els : List (List DV))
 | ref (cs : List DV)
 deriving Inhabited
def okV : Value → Prop
 | .int k n => k.wrap n = n
 | .string s => s.size ≤ maxLen
 | .agg _ | .tuple _ => False
 | _ => True
theorem okV.one {v : Value} (h : okV v) : v.oneCell' = true := by
 cases v <;> first | rfl | exact h.elim
inductive DRep (F : Nat → Prop) (w : World) : DV → Value → Prop
 | val {v : Value} : okV v → DRep F w (.val v) v
 | nil {e sz : Nat} : DRep F w (.view e sz []) (.slice none 0 0)
 | empty {e sz : Nat} {a : Addr} : DRep F w (.view e sz []) (.slice (some a) 0 0)
 | view {e sz : Nat} {els : List (List DV)} {e2 b off cap : Nat} {arr : Array Value} {fz : Nat × Nat} : F b → w.heap[b]? = some (.cells arr e2 fz) → els.length ≤ cap → cap ≤ maxLen → off + cap * sz ≤ arr.size →
   (∀ (i : Nat) (cs : List DV), els[i]? = some cs → cs.length = sz) → (∀ (i : Nat) (cs : List DV) (j : Nat) (d : DV), els[i]? = some cs → cs[j]? = some d → DRep F w d (arr.getD (off + i * sz + j) undef)) →
   DRep F w (.view e sz els) (.slice (some ⟨b, off, none⟩) els.length cap)
 | ref {cs : List DV} {b off e : Nat} {arr : Array Value} {fz : Nat × Nat} : F b → w.heap[b]? = some (.cells arr e fz) → off + cs.length ≤ arr.size →
   (∀ (j : Nat) (d : DV), cs[j]? = some d → DRep F w d (arr.getD (off + j) undef)) → DRep F w (.ref cs) (.pointer (some ⟨b, off, none⟩))
theorem DRep.turn {F F' : Nat → Prop} {w w' : World} {d : DV} {v : Value} (h : DRep F w d v) (hk : ∀ k, F k → k < w.heap.size → F' k ∧ w'.heap[k]? = w.heap[k]?) : DRep F' w' d v := by
 induction h with
 | val h => exact .val h
 | nil => exact .nil
 | empty => exact .empty
 | view hF hb h1 h2 h3 h4 _ ih => have := hk _ hF (lt_of_block hb); exact .view this.1 (this.2.trans hb) h1 h2 h3 h4 ih
 | ref hF hb h1 _ ih => have := hk _ hF (lt_of_block hb); exact .ref this.1 (this.2.trans hb) h1 ih
theorem DRep.mono {F F' : Nat → Prop} {w : World} {d : DV} {v : Value} (h : DRep F w d v) (hk : ∀ k, F k → F' k) : DRep F' w d v := h.turn fun k h1 _ => ⟨hk k h1, rfl⟩
theorem DRep.one {F : Nat → Prop} {w : World} {d : DV} {v : Value} (h : DRep F w d v) : v.oneCell' = true := by
 cases h <;> first | rfl | (rename_i h; exact h.one)
def DV.flat : DV → Prop
 | .val _ => True
 | _ => False
theorem DRep.flat {F F' : Nat → Prop} {w w' : World} {d : DV} {v : Value} (h : DRep F w d v) (hf : d.flat) : DRep F' w' d v := by
 cases h with
 | val h => exact .val h
 | _ => exact hf.elim
inductive AV where
 | dead
 | und
 | d (x : DV)
 | own (id n : Nat)
 | ptr (id k : Nat)
 | part (id o n : Nat)
 | mp (id : Nat)
 | tight (e sz : Nat) (els : List (List DV))
 | agg (cs : List AV)
 | tup (vs : List AV)
 | clo (f : FuncId) (caps : List AV)
 deriving Inhabited
inductive ARep (m : Nat → Option (Option Nat × Nat)) (F : Nat → Prop) (w : World) : AV → Value → Prop
 | dead {v : Value} : ARep m F w .dead v
 | und : ARep m F w .und undef
 | d {x : DV} {v : Value} : DRep F w x v → ARep m F w (.d x) v
 | own {id n cap : Nat} {b : Option Nat} : m id = some (b, cap) → (b = none → n = 0 ∧ cap = 0) → ARep m F w (.own id n) (.slice (b.map fun b => ⟨b, 0, none⟩) n cap)
 | ptr {id k b cap : Nat} : m id = some (some b, cap) → ARep m F w (.ptr id k) (.pointer (some ⟨b, k, none⟩))
 | part {id o n cap c : Nat} {b : Option Nat} {a : Option Addr} : m id = some (b, cap) → (0 < n → ∃ k, b = some k ∧ a = some ⟨k, o, none⟩) → ARep m F w (.part id o n) (.slice a n c)
 | mp {id b cap : Nat} : m id = some (some b, cap) → ARep m F w (.mp id) (.map (some b))
 | tight {e sz : Nat} {els : List (List DV)} {a : Option Addr} : DRep F w (.view e sz els) (.slice a els.length els.length) → ARep m F w (.tight e sz els) (.slice a els.length els.length)
 | agg {cs : List AV} {vs : Array Value} : vs.size = cs.length → (∀ (i : Nat) (c : AV), cs[i]? = some c → ARep m F w c (vs.getD i undef)) → (∀ (i : Nat), i < vs.size → (vs.getD i undef).oneCell' = true) → ARep m F w (.agg cs) (.agg vs)
 | tup {cs : List AV} {vs : Array Value} : vs.size = cs.length → (∀ (i : Nat) (c : AV), cs[i]? = some c → ARep m F w c (vs.getD i undef)) → ARep m F w (.tup cs) (.tuple vs)
 | clo {f : FuncId} {cs : List AV} {vs : Array Value} : vs.size = cs.length → (∀ (i : Nat) (c : AV), cs[i]? = some c → ARep m F w c (vs.getD i undef)) → ARep m F w (.clo f cs) (.func (.func f) #[] vs)
def MLe (m m' : Nat → Option (Option Nat × Nat)) : Prop := ∀ id p, m id = some p → m' id = some p
theorem MLe.refl (m : Nat → Option (Option Nat × Nat)) : MLe m m := fun _ _ h => h
theorem ARep.turn {m m' : Nat → Option (Option Nat × Nat)} {F F' : Nat → Prop} {w w' : World} {x : AV} {v : Value} (h : ARep m F w x v) (hm : MLe m m') (hk : ∀ k, F k → k < w.heap.size → F' k ∧ w'.heap[k]? = w.heap[k]?) : ARep m' F' w' x v := by
 induction h with
 | dead => exact .dead
 | und => exact .und
 | d h => exact .d (h.turn hk)
 | own h h0 => exact .own (hm _ _ h) h0
 | ptr h => exact .ptr (hm _ _ h)
 | part h h1 => exact .part (hm _ _ h) h1
 | mp h => exact .mp (hm _ _ h)
 | tight h => exact .tight (h.turn hk)
 | agg h1 _ h3 ih => exact .agg h1 ih h3
 | tup h1 _ ih => exact .tup h1 ih
 | clo h1 _ ih => exact .clo h1 ih
def mapObj (es : List (ByteArray × Value)) : Obj := .map (es.zipIdx.map fun p => ⟨.string p.1.1, p.1.2, p.2⟩).toArray es.length
inductive Chunk where
 | cells (t : Nat) (cs : List AV)
 | arr (e sz : Nat) (els : List (List DV))
 | iter (st : ByteArray) (pos : Nat)
 | map (es : List (ByteArray × Value))
 | obj (o : Obj)
 | pred (S : Nat → Prop) (K : World → Prop)
 | lock (id : Nat) (p : Option Nat × Nat)
 deriving Inhabited
def Chunk.foot : Chunk → Nat → Prop
 | .pred S _, k => S k
 | _, _ => False
def occ (p : Option Nat × Nat) (c : Chunk) (k : Nat) : Prop := p.1 = some k ∨ c.foot k
theorem occ.of {p : Option Nat × Nat} {c : Chunk} {k : Nat} (h : p.1 = some k) : occ p c k := .inl h
theorem occ.one {p : Option Nat × Nat} {c : Chunk} {k : Nat} (hf : ∀ k, ¬ c.foot k) (h : occ p c k) : p.1 = some k := h.resolve_right (hf k)
theorem occ.one_cells {p : Option Nat × Nat} {t : Nat} {cs : List AV} {k : Nat} (h : occ p (.cells t cs) k) : p.1 = some k := h.resolve_right fun h => h
theorem occ.one_arr {p : Option Nat × Nat} {e sz : Nat} {els : List (List DV)} {k : Nat} (h : occ p (.arr e sz els) k) : p.1 = some k := h.resolve_right fun h => h
theorem occ.one_iter {p : Option Nat × Nat} {st : ByteArray} {pos k : Nat} (h : occ p (.iter st pos) k) : p.1 = some k := h.resolve_right fun h => h
theorem occ.one_map {p : Option Nat × Nat} {es : List (ByteArray × Value)} {k : Nat} (h : occ p (.map es) k) : p.1 = some k := h.resolve_right fun h => h
theorem occ.one_obj {p : Option Nat × Nat} {o : Obj} {k : Nat} (h : occ p (.obj o) k) : p.1 = some k := h.resolve_right fun h => h
theorem occ_some {b cap : Nat} {c : Chunk} : occ (some b, cap) c b := .inl rfl
inductive CRep (m : Nat → Option (Option Nat × Nat)) (F : Nat → Prop) (w : World) : Option Nat × Nat → Chunk → Prop
 | cells {b cap t : Nat} {cs : List AV} {vs : Array Value} : w.heap[b]? = some (.cells vs t (0, 0)) → vs.size = cs.length → (∀ (i : Nat) (c : AV), cs[i]? = some c → ARep m F w c (vs.getD i undef)) → (∀ (i : Nat), i < vs.size → (vs.getD i undef).oneCell' = true) → CRep m F w (some b, cap) (.cells t cs)
 | arr {b cap e sz : Nat} {els : List (List DV)} {vs : Array Value} {fz : Nat × Nat} : w.heap[b]? = some (.cells vs e fz) → (∀ (i : Nat), i < vs.size → ¬ (fz.1 ≤ i ∧ i < fz.2)) → vs.size = cap * sz → els.length ≤ cap → cap ≤ maxLen → 0 < sz → (∀ (i : Nat) (cs : List DV), els[i]? = some cs → cs.length = sz) →
   (∀ (i : Nat) (cs : List DV) (j : Nat) (d : DV), els[i]? = some cs → cs[j]? = some d → DRep F w d (vs.getD (i * sz + j) undef)) → CRep m F w (some b, cap) (.arr e sz els)
 | nil {e sz : Nat} : 0 < sz → CRep m F w (none, 0) (.arr e sz [])
 | iter {b cap pos : Nat} {st : ByteArray} : w.heap[b]? = some (.stringIter st pos) → CRep m F w (some b, cap) (.iter st pos)
 | map {b cap : Nat} {es : List (ByteArray × Value)} : w.heap[b]? = some (mapObj es) → CRep m F w (some b, cap) (.map es)
 | obj {b cap : Nat} {o : Obj} : w.heap[b]? = some o → CRep m F w (some b, cap) (.obj o)
 | pred {S : Nat → Prop} {K : World → Prop} : K w → (∀ w w', (∀ k, S k → w'.heap[k]? = w.heap[k]?) → K w → K w') → (∀ k, S k → k < w.heap.size) → CRep m F w (none, 0) (.pred S K)
 | lock {id : Nat} {p : Option Nat × Nat} : m id = some p → CRep m F w (none, 0) (.lock id p)
theorem CRep.lt {m : Nat → Option (Option Nat × Nat)} {F : Nat → Prop} {w : World} {p : Option Nat × Nat} {c : Chunk} (h : CRep m F w p c) {b : Nat} (hb : occ p c b) : b < w.heap.size := by
 cases h with
 | cells h => have hb := hb.one_cells; simp only [Option.some.injEq] at hb; subst hb; exact lt_of_block h
 | arr h => have hb := hb.one_arr; simp only [Option.some.injEq] at hb; subst hb; exact lt_of_block h
 | nil => cases hb.one_arr
 | iter h => have hb := hb.one_iter; simp only [Option.some.injEq] at hb; subst hb; exact (Array.getElem?_eq_some_iff.1 h).1
 | map h => have hb := hb.one_map; simp only [Option.some.injEq] at hb; subst hb; exact (Array.getElem?_eq_some_iff.1 h).1
 | obj h => have hb := hb.one_obj; simp only [Option.some.injEq] at hb; subst hb; exact (Array.getElem?_eq_some_iff.1 h).1
 | pred _ _ h =>
  rcases hb with hb | hk
  ·cases hb
  exact h _ hk
 | lock _ =>
  rcases hb with hb | hk
  ·cases hb
  exact hk.elim
theorem CRep.foot {m : Nat → Option (Option Nat × Nat)} {F : Nat → Prop} {w : World} {b cap : Nat} {c : Chunk} (h : CRep m F w (some b, cap) c) : ∀ k, ¬ c.foot k := by
 cases h <;> exact fun _ h => h
theorem CRep.turn {m m' : Nat → Option (Option Nat × Nat)} {F F' : Nat → Prop} {w w' : World} {p : Option Nat × Nat} {c : Chunk} (h : CRep m F w p c) (hm : MLe m m') (hk : ∀ k, F k → k < w.heap.size → F' k ∧ w'.heap[k]? = w.heap[k]?) (hp : ∀ b, occ p c b → w'.heap[b]? = w.heap[b]?) : CRep m' F' w' p c := by
 cases h with
 | cells h1 h2 h3 h4 => exact .cells ((hp _ occ_some).trans h1) h2 (fun i c hc => (h3 i c hc).turn hm hk) h4
 | arr h1 h2 h3 h4 h5 h6 h7 h8 => exact .arr ((hp _ occ_some).trans h1) h2 h3 h4 h5 h6 h7 (fun i cs j d hc hd => (h8 i cs j d hc hd).turn hk)
 | nil h => exact .nil h
 | iter h => exact .iter ((hp _ occ_some).trans h)
 | map h => exact .map ((hp _ occ_some).trans h)
 | obj h => exact .obj ((hp _ occ_some).trans h)
 | lock h => exact .lock (hm _ _ h)
 | pred h1 h2 h3 => exact .pred (h2 _ _ (fun k hk' => hp k (.inr hk')) h1) h2 (fun k hk' => by
   have := h3 k hk';rcases Nat.lt_or_ge k w'.heap.size with h | h
   ·exact h
   have e := hp k (.inr hk');rw [Array.getElem?_eq_none h, Array.getElem?_eq_getElem this] at e
   cases e)
def getL {α : Type} (i : Nat) : List (Nat × α) → Option α
 | [] => none
 | (j, x) :: t => bif Nat.beq i j then some x else getL i t
theorem getL_cons {α : Type} (i j : Nat) (x : α) (t : List (Nat × α)) : getL i ((j, x) :: t) = if i = j then some x else getL i t := by
 simp only [getL]
 by_cases h : i = j
 ·subst h; simp
 rw [if_neg h]; cases hb : Nat.beq i j with
 | true => exact absurd (by simpa using hb) h
 | false => rfl
theorem getL_append {α : Type} (i : Nat) (a b : List (Nat × α)) : getL i (a ++ b) = (getL i a).or (getL i b) := by
 induction a with
 | nil => rfl
 | cons p a ih =>
  obtain ⟨j, x⟩ := p;simp only [List.cons_append, getL_cons, ih]
  split <;> rfl
structure ASt where
 n : Nat
 nx : Nat
 sl : List (Nat × AV)
 ch : List (Nat × Option Chunk)
def ASt.get (s : ASt) (i : Nat) : AV := (getL i s.sl).getD .dead
def ASt.chunk (s : ASt) (id : Nat) : Option Chunk := (getL id s.ch).getD none
structure Upd where
 r : AV
 ch : List (Nat × Option Chunk)
def ASt.app (s : ASt) (i : Option Nat) (u : Upd) : ASt :=
 match i with
 | some i => { s with sl := (i, u.r) :: s.sl, ch := u.ch ++ s.ch }
 | none => { s with ch := u.ch ++ s.ch }
def ASt.put (s : ASt) (i : Option Nat) (x : AV) : ASt :=
 match i with
 | some i => { s with sl := (i, x) :: s.sl }
 | none => s
structure Ctx where
 w : World
 fin : Nat → Prop
 S : List Nat
 m0 : Nat → Option (Option Nat × Nat)
 k : Nat
def Fz (C : Ctx) (m : Nat → Option (Option Nat × Nat)) (s : ASt) (w : World) (k : Nat) : Prop := (C.fin k ∨ k ∈ C.S ∨ C.w.heap.size ≤ k) ∧ k < w.heap.size ∧ ∀ id c p, s.chunk id = some c → m id = some p → ¬ occ p c k
structure RelM (C : Ctx) (U : Nat → Prop) (s : ASt) (a : Act) (w : World) (m : Nat → Option (Option Nat × Nat)) : Prop where
 fr : Fr C.S C.w w
 fin : ∀ k, C.fin k → k < C.w.heap.size ∧ k ∉ C.S
 sz : a.tmps.size = s.n
 sl : ∀ i, ARep m (Fz C m s w) w (s.get i) (a.tmps.getD i undef)
 ch : ∀ id c, s.chunk id = some c → ∃ p, m id = some p ∧ CRep m (Fz C m s w) w p c ∧ ∀ b, occ p c b → b ∈ C.S ∨ C.w.heap.size ≤ b
 inj : ∀ id id' c c' p p', s.chunk id = some c → s.chunk id' = some c' → m id = some p → m id' = some p' → ∀ b, occ p c b → occ p' c' b → id = id'
 un : ∀ id, U id → m id = none
 defers : a.defers = []
 m0 : MLe C.m0 m
 m0k : ∀ id, C.k ≤ id → C.m0 id = none
def Rel (C : Ctx) (s : ASt) (a : Act) (w : World) : Prop := ∃ m, RelM C (fun id => s.nx ≤ id) s a w m
def okVb : Value → Bool
 | .int k n => decide (k.wrap n = n)
 | .string s => decide (s.size ≤ maxLen)
 | .agg _ | .tuple _ => false
 | _ => true
theorem okVb_ok {v : Value} (h : okVb v = true) : okV v := by
 cases v <;> simp_all [okVb, okV]
def constAV (v : Value) : AV :=
 match v with
 | .agg cs => bif cs.toList.all okVb then .agg (cs.toList.map fun v => .d (.val v)) else .dead
 | .tuple _ => .dead
 | v => bif okVb v then .d (.val v) else .dead
def ASt.ev (s : ASt) : Operand → AV
 | .tmp t => s.get t
 | .const v => constAV v
 | .func f => .clo f []
 | .global _ => .dead
section
variable {C : Ctx} {U U' : Nat → Prop} {s : ASt} {a : Act} {w : World} {m : Nat → Option (Option Nat × Nat)}
theorem constAV_rep (F : Nat → Prop) (v : Value) : ARep m F w (constAV v) v := by
 have key : ∀ u : Value, ARep m F w (bif okVb u then .d (.val u) else .dead) u := by
  intro u;cases hb : okVb u with
  | false => exact .dead
  | true => exact .d (.val (okVb_ok hb))
 have kv := key v;cases v with
 | agg cs =>
  simp only [constAV];cases h : cs.toList.all okVb with
  | false => exact .dead
  | true =>
   simp only [cond_true];have h' : ∀ u, u ∈ cs.toList → okVb u = true := List.all_eq_true.1 h;refine .agg (by simp) (fun i c hc => ?_) (fun i hi => ?_)
   ·simp only [List.getElem?_map, Option.map_eq_some_iff] at hc;obtain ⟨u, hu, rfl⟩ := hc
    have : cs.getD i undef = u := by
     rw [Array.getD_eq_getD_getElem?, ← Array.getElem?_toList, hu]; rfl
    rw [this];exact .d (.val (okVb_ok (h' u (List.mem_of_getElem? hu))))
   have : cs.getD i undef ∈ cs.toList := by
    rw [Array.getD_eq_getD_getElem?, Array.getElem?_eq_getElem hi]; simp
   exact (okVb_ok (h' _ this)).one
 | tuple _ => exact .dead
 | _ => exact kv
theorem RelM.ev (h : RelM C U s a w m) (x : Operand) : ARep m (Fz C m s w) w (s.ev x) (a.eval x) := by
 cases x with
 | tmp t => exact h.sl t
 | const v => exact constAV_rep _ v
 | func f => exact .clo (by simp) (fun i c hc => by simp at hc)
 | global g => exact .dead
theorem ASt.get_app (s : ASt) (i : Option Nat) (u : Upd) (j : Nat) : (s.app i u).get j = if i = some j then u.r else s.get j := by
 cases i with
 | none => simp [ASt.app, ASt.get]
 | some i =>
  simp only [ASt.app, ASt.get, getL_cons, Option.some.injEq]
  by_cases h : j = i
  ·subst h; simp
  rw [if_neg h, if_neg (Ne.symm h)]
theorem ASt.chunk_app (s : ASt) (i : Option Nat) (u : Upd) (id : Nat) : (s.app i u).chunk id = match getL id u.ch with | some c => c | none => s.chunk id := by
 have : (s.app i u).ch = u.ch ++ s.ch := by cases i <;> rfl
 simp only [ASt.chunk, this, getL_append];cases getL id u.ch <;> rfl
theorem ASt.n_app (s : ASt) (i : Option Nat) (u : Upd) : (s.app i u).n = s.n := by cases i <;> rfl
def dstOk (i : Option Nat) (n : Nat) : Bool :=
 match i with
 | some i => Nat.blt i n
 | none => true
theorem RelM.weaken (h : RelM C U s a w m) {s' : ASt} (hn : s'.n = s.n) (hs : ∀ i, s'.get i = .dead ∨ s'.get i = s.get i) (hc : ∀ id c, s'.chunk id = some c → s.chunk id = some c) (hU : ∀ id, U' id → U id) : RelM C U' s' a w m := by
 have hF : ∀ k, Fz C m s w k → Fz C m s' w k := fun k hk => ⟨hk.1, hk.2.1, fun id c p hc' => hk.2.2 id c p (hc id c hc')⟩
 refine ⟨h.fr, h.fin, by rw [hn]; exact h.sz, fun i => ?_, fun id c h' => ?_, fun id id' c c' p p' h1 h2 => h.inj id id' c c' p p' (hc _ _ h1) (hc _ _ h2), fun id hid => h.un id (hU id hid), h.defers, h.m0, h.m0k⟩
 ·rcases hs i with h' | h'
  ·rw [h']; exact .dead
  rw [h']; exact (h.sl i).turn (MLe.refl m) (fun k hk _ => ⟨hF k hk, rfl⟩)
 obtain ⟨p, h1, h2, h3⟩ := h.ch id c (hc id c h');exact ⟨p, h1, h2.turn (MLe.refl m) (fun k hk _ => ⟨hF k hk, rfl⟩) (fun _ _ => rfl), h3⟩
theorem RelM.step (h : RelM C U s a w m) {i : Option Nat} {u : Upd} {v : Value} {w' : World} {m' : Nat → Option (Option Nat × Nat)} (hd : dstOk i s.n = true) (hm : MLe m m') (hU : ∀ id, U' id → m' id = none) (hfr : Fr C.S C.w w') (hsz : w.heap.size ≤ w'.heap.size)
  (hF : ∀ k, Fz C m s w k → (∀ id c p, getL id u.ch = some (some c) → m' id = some p → ¬ occ p c k) ∧ w'.heap[k]? = w.heap[k]?)
  (hold : ∀ id c p b, getL id u.ch = none → s.chunk id = some c → m id = some p → occ p c b → w'.heap[b]? = w.heap[b]?)
  (hnew : ∀ F', (∀ k, Fz C m s w k → F' k ∧ w'.heap[k]? = w.heap[k]?) → (∀ k, (C.fin k ∨ k ∈ C.S ∨ C.w.heap.size ≤ k) → k < w'.heap.size → (∀ id c p, (s.app i u).chunk id = some c → m' id = some p → ¬ occ p c k) → F' k) → ARep m' F' w' u.r v ∧ ∀ id c, getL id u.ch = some (some c) → ∃ p, m' id = some p ∧ CRep m' F' w' p c ∧ ∀ b, occ p c b → b ∈ C.S ∨ C.w.heap.size ≤ b)
  (hinj : ∀ id id' c c' p p' b, getL id u.ch = some (some c) → (s.app i u).chunk id' = some c' → m' id = some p → m' id' = some p' → occ p c b → occ p' c' b → id = id') : RelM C U' (s.app i u) (a.put i v) w' m' := by
 have hch : ∀ id c, (s.app i u).chunk id = some c → getL id u.ch = some (some c) ∨ (getL id u.ch = none ∧ s.chunk id = some c) := by
  intro id c hc;rw [ASt.chunk_app] at hc;cases hg : getL id u.ch with
  | some c0 => rw [hg] at hc; simp only at hc; subst hc; exact .inl rfl
  | none => rw [hg] at hc; exact .inr ⟨rfl, hc⟩
 have hF' : ∀ k, Fz C m s w k → Fz C m' (s.app i u) w' k ∧ w'.heap[k]? = w.heap[k]? := by
  intro k hk;refine ⟨⟨hk.1, Nat.lt_of_lt_of_le hk.2.1 hsz, fun id c p hc hp => ?_⟩, (hF k hk).2⟩;rcases hch id c hc with h1 | ⟨_, h1⟩
  ·exact (hF k hk).1 id c p h1 hp
  obtain ⟨q, hq, _⟩ := h.ch id c h1;have := hm id q hq;rw [hp] at this;obtain rfl : p = q := by simpa using this
  exact hk.2.2 id c p h1 hq
 obtain ⟨hr, hn⟩ := hnew _ hF' (fun k h1 h2 h3 => ⟨h1, h2, h3⟩);refine ⟨hfr, h.fin, ?_, fun j => ?_, fun id c hc => ?_, fun id id' c c' p p' h1 h2 hp hp' b he he' => ?_, hU, ?_, fun id p hp => hm id p (h.m0 id p hp), h.m0k⟩
 ·rw [ASt.n_app, ← h.sz]; cases i <;> simp [Act.put]
 ·rw [ASt.get_app];cases i with
  | none => rw [if_neg (by simp)]; exact (h.sl j).turn hm (fun k hk _ => hF' k hk)
  | some i =>
   have hlt : i < a.tmps.size := by rw [h.sz]; simpa [dstOk] using hd
   by_cases hij : i = j
   ·subst hij;rw [if_pos rfl];have : (a.put (some i) v).tmps.getD i undef = v := by simp [Act.put, Array.getD_eq_getD_getElem?, hlt]
    rw [this];exact hr
   rw [if_neg (by simpa using hij)];have : (a.put (some i) v).tmps.getD j undef = a.tmps.getD j undef := by simp only [Act.put, Array.getD_eq_getD_getElem?, Array.getElem?_setIfInBounds_ne hij]
   rw [this];exact (h.sl j).turn hm (fun k hk _ => hF' k hk)
 ·rcases hch id c hc with h1 | ⟨h0, h1⟩
  ·exact hn id c h1
  obtain ⟨p, hp, hr, hl⟩ := h.ch id c h1;exact ⟨p, hm _ _ hp, hr.turn hm (fun k hk _ => hF' k hk) (fun b hb => hold id c p b h0 h1 hp hb), hl⟩
 ·rcases hch id c h1 with g1 | ⟨_, g1⟩
  ·exact hinj id id' c c' p p' b g1 h2 hp hp' he he'
  rcases hch id' c' h2 with g2 | ⟨_, g2⟩
  ·exact (hinj id' id c' c p' p b g2 h1 hp' hp he' he).symm
  obtain ⟨q, hq, _⟩ := h.ch id c g1;obtain ⟨q', hq', _⟩ := h.ch id' c' g2;have e1 := hm id q hq;have e2 := hm id' q' hq';rw [hp] at e1; rw [hp'] at e2;obtain rfl : p = q := by simpa using e1
  obtain rfl : p' = q' := by simpa using e2
  exact h.inj id id' c c' p p' g1 g2 hq hq' b he he'
 cases i <;> exact h.defers
theorem RelM.setSlot (h : RelM C U s a w m) {i : Option Nat} (hd : dstOk i s.n = true) {x : AV} {v : Value} (hx : ARep m (Fz C m s w) w x v) : RelM C U (s.app i ⟨x, []⟩) (a.put i v) w m :=
 h.step hd (MLe.refl m) h.un h.fr (Nat.le_refl _) (fun k hk => ⟨fun id c p hc => by simp [getL] at hc, rfl⟩) (fun _ _ _ _ _ _ _ _ => rfl) (fun F' hF _ => ⟨hx.turn (MLe.refl m) (fun k hk _ => hF k hk), fun id c hc => by simp [getL] at hc⟩) (fun id id' c c' p p' b hc => by simp [getL] at hc)
theorem RelM.drewN (h : RelM C U s a w m) (n : Nat) : RelM C U s a (w.drewN n) m :=
 ⟨h.fr.drewN n, h.fin, h.sz, fun i => (h.sl i).turn (MLe.refl m) (fun k hk _ => ⟨hk, rfl⟩), fun id c hc => by obtain ⟨p, h1, h2, h3⟩ := h.ch id c hc; exact ⟨p, h1, h2.turn (MLe.refl m) (fun k hk _ => ⟨hk, rfl⟩) (fun _ _ => rfl), h3⟩, h.inj, h.un, h.defers, h.m0, h.m0k⟩
def newM (m : Nat → Option (Option Nat × Nat)) (id : Nat) (p : Option Nat × Nat) (j : Nat) : Option (Option Nat × Nat) := if j = id then some p else m j
theorem newM_self (m : Nat → Option (Option Nat × Nat)) (id : Nat) (p : Option Nat × Nat) : newM m id p id = some p := by simp [newM]
theorem newM_le (m : Nat → Option (Option Nat × Nat)) (id : Nat) (p : Option Nat × Nat) (h : m id = none) : MLe m (newM m id p) := by
 intro j q hq
 by_cases hj : j = id
 ·subst hj; rw [h] at hq; cases hq
 simp [newM, hj, hq]
theorem RelM.named (h : RelM C U s a w m) {i : Option Nat} (hd : dstOk i s.n = true) {id : Nat} {p : Option Nat × Nat} {c : Chunk} {r : AV} {v : Value} {w' : World} {gone : List (Nat × Option Chunk)} (hid : U id) (hU : ∀ j, U' j → U j ∧ j ≠ id)
  (hg : ∀ j c, getL j gone ≠ some (some c)) (hfr : Fr C.S C.w w') (hsz : w.heap.size ≤ w'.heap.size)
  (hp : ∀ b, occ p c b → (w.heap.size ≤ b ∧ b < w'.heap.size) ∨ ∃ j c0 q, getL j gone = some none ∧ s.chunk j = some c0 ∧ m j = some q ∧ occ q c0 b)
  (hk : ∀ k, k < w.heap.size → ¬ occ p c k → w'.heap[k]? = w.heap[k]?)
  (hc : ∀ F', (∀ k, Fz C m s w k → F' k ∧ w'.heap[k]? = w.heap[k]?) → ARep (newM m id p) F' w' r v ∧ CRep (newM m id p) F' w' p c) : RelM C U' (s.app i ⟨r, (id, some c) :: gone⟩) (a.put i v) w' (newM m id p) := by
 have h0 := h.un id hid;have hle := newM_le m id p h0
 have hone : ∀ j c', getL j ((id, some c) :: gone) = some (some c') → j = id ∧ c' = c := by
  intro j c' hj;rw [getL_cons] at hj
  split at hj
  ·rename_i e; exact ⟨e, by simpa using hj.symm⟩
  exact absurd hj (hg j c')
 have hlt : ∀ j c0 q b, s.chunk j = some c0 → m j = some q → occ q c0 b → b < w.heap.size := by
  intro j c0 q b h1 h2 h3;obtain ⟨q', hq', hr, _⟩ := h.ch j c0 h1;rw [h2] at hq';obtain rfl : q = q' := by simpa using hq'
  exact hr.lt h3
 have hpk : ∀ k, Fz C m s w k → ¬ occ p c k := by
  intro k hk' he;rcases hp k he with ⟨h1, _⟩ | ⟨j, c0, q, _, h1, h2, h3⟩
  ·have := hk'.2.1; omega
  exact hk'.2.2 j c0 q h1 h2 h3
 refine h.step hd hle (fun j hj => ?_) hfr hsz (fun k hk' => ⟨fun j c' q hj hq => ?_, hk k hk'.2.1 (hpk k hk')⟩) (fun j c' q b hj h1 h2 h3 => ?_) (fun F' hF _ => ?_) (fun j j' c1 c2 q q' b hj hj' hq hq' he he' => ?_)
 ·have := hU j hj;simp [newM, this.2, h.un j this.1]
 ·obtain ⟨rfl, rfl⟩ := hone j c' hj;rw [newM_self] at hq;obtain rfl : p = q := by simpa using hq
  exact hpk k hk'
 ·have hb := hlt j c' q b h1 h2 h3;refine hk b hb (fun he => ?_);rcases hp b he with ⟨h4, _⟩ | ⟨j', c0, q', h4, h5, h6, h7⟩
  ·omega
  have := h.inj j j' c' c0 q q' h1 h5 h2 h6 b h3 h7;subst this;rw [getL_cons] at hj
  split at hj
  ·cases hj
  rw [h4] at hj; cases hj
 ·obtain ⟨hr, hc'⟩ := hc F' hF;refine ⟨hr, fun j c1 hj => ?_⟩;obtain ⟨rfl, rfl⟩ := hone j c1 hj;refine ⟨_, newM_self _ _ _, hc', fun b hb => ?_⟩;rcases hp b hb with ⟨h1, _⟩ | ⟨j', c0, q', _, h5, h6, h7⟩
  ·exact .inr (Nat.le_trans h.fr.size h1)
  obtain ⟨q2, hq2, _, hl⟩ := h.ch j' c0 h5;rw [h6] at hq2;obtain rfl : q' = q2 := by simpa using hq2
  exact hl b h7
 obtain ⟨rfl, rfl⟩ := hone j c1 hj;rw [newM_self] at hq;obtain rfl : p = q := by simpa using hq
 by_cases hjj : j' = j
 ·exact hjj.symm
 rw [ASt.chunk_app, getL_cons, if_neg hjj] at hj'
 have hgn : getL j' gone = none := by
  cases hgg : getL j' gone with
  | none => rfl
  | some x =>
   rw [hgg] at hj';simp only at hj';subst hj';exact absurd hgg (hg j' c2)
 rw [hgn] at hj';simp only at hj';obtain ⟨q2, hq2, _⟩ := h.ch j' c2 hj';have e := hle j' q2 hq2;rw [hq'] at e;obtain rfl : q' = q2 := by simpa using e
 rcases hp b he with ⟨h1, _⟩ | ⟨j3, c0, q3, h4, h5, h6, h7⟩
 ·have := hlt j' c2 q' b hj' hq2 he'; omega
 have := h.inj j' j3 c2 c0 q' q3 hj' h5 hq2 h6 b he' h7;subst this;rw [hgn] at h4; cases h4
theorem getL_one {α : Type} {id j : Nat} {c c' : α} (h : getL j [(id, c)] = some c') : j = id ∧ c' = c := by
 rw [getL_cons] at h
 split at h
 ·rename_i e; exact ⟨e, by simpa using h.symm⟩
 simp [getL] at h
theorem RelM.new (h : RelM C U s a w m) {i : Option Nat} (hd : dstOk i s.n = true) {id cap : Nat} {c : Chunk} {r : AV} {v : Value} (o : Obj) (hid : U id) (hU : ∀ j, U' j → U j ∧ j ≠ id)
  (hc : ∀ F', (∀ k, Fz C m s w k → F' k ∧ (w.alloc o).heap[k]? = w.heap[k]?) → ARep (newM m id (some w.heap.size, cap)) F' (w.alloc o) r v ∧ CRep (newM m id (some w.heap.size, cap)) F' (w.alloc o) (some w.heap.size, cap) c) (hf : ∀ k, ¬ c.foot k := by exact fun _ h => h) : RelM C U' (s.app i ⟨r, [(id, some c)]⟩) (a.put i v) (w.alloc o) (newM m id (some w.heap.size, cap)) :=
 h.named hd hid hU (fun j c hj => by simp [getL] at hj) (h.fr.alloc o) (by simp) (fun b hb => .inl (by have hb := hb.one hf; simp only [Option.some.injEq] at hb; subst hb; simp)) (fun k hk _ => Below.heap_alloc w o k hk) hc
theorem RelM.newCells (h : RelM C U s a w m) {i : Option Nat} (hd : dstOk i s.n = true) {id t : Nat} {cs : List AV} {vs : Array Value} (hid : U id) (hU : ∀ j, U' j → U j ∧ j ≠ id) (h1 : vs.size = cs.length) (h2 : ∀ (i : Nat) (c : AV), cs[i]? = some c → ARep m (Fz C m s w) w c (vs.getD i undef))
  (h3 : ∀ i, i < vs.size → (vs.getD i undef).oneCell' = true) : RelM C U' (s.app i ⟨.ptr id 0, [(id, some (.cells t cs))]⟩) (a.put i (.pointer (some ⟨w.heap.size, 0, none⟩))) (w.alloc (.cells vs t (0, 0))) (newM m id (some w.heap.size, 0)) :=
 h.new hd _ hid hU fun F' hF => ⟨.ptr (newM_self _ _ _), .cells (heap_alloc_new w _) h1 (fun i c hc => (h2 i c hc).turn (newM_le _ _ _ (h.un id hid)) (fun k hk _ => hF k hk)) h3⟩
theorem RelM.newArr (h : RelM C U s a w m) {i : Option Nat} (hd : dstOk i s.n = true) {id cap n : Nat} {e sz : Nat} {els : List (List DV)} {vs : Array Value} {fz : Nat × Nat} (hid : U id) (hU : ∀ j, U' j → U j ∧ j ≠ id) (h0 : ∀ i, i < vs.size → ¬ (fz.1 ≤ i ∧ i < fz.2)) (h1 : vs.size = cap * sz) (h2 : els.length ≤ cap) (h3 : cap ≤ maxLen) (h4 : 0 < sz) (h5 : ∀ (i : Nat) (cs : List DV), els[i]? = some cs → cs.length = sz)
  (h6 : ∀ (i : Nat) (cs : List DV) (j : Nat) (d : DV), els[i]? = some cs → cs[j]? = some d → DRep (Fz C m s w) w d (vs.getD (i * sz + j) undef)) : RelM C U' (s.app i ⟨.own id n, [(id, some (.arr e sz els))]⟩) (a.put i (.slice (some ⟨w.heap.size, 0, none⟩) n cap)) (w.alloc (.cells vs e fz)) (newM m id (some w.heap.size, cap)) :=
 h.new hd _ hid hU fun F' hF => ⟨.own (b := some w.heap.size) (newM_self _ _ _) (by simp), .arr (heap_alloc_new w _) h0 h1 h2 h3 h4 h5 (fun i cs j d hc hd => (h6 i cs j d hc hd).turn (fun k hk _ => hF k hk))⟩
theorem RelM.turned (h : RelM C U s a w m) {i : Option Nat} (hd : dstOk i s.n = true) {w' : World} {id b cap : Nat} {c c' : Chunk} {r : AV} {v : Value} (hid : s.chunk id = some c) (hp : m id = some (some b, cap)) (hfr : Fr [b] w w')
  (hc : ∀ F', (∀ k, Fz C m s w k → F' k ∧ w'.heap[k]? = w.heap[k]?) → ARep m F' w' r v ∧ CRep m F' w' (some b, cap) c') : RelM C U (s.app i ⟨r, [(id, some c')]⟩) (a.put i v) w' m := by
 obtain ⟨q, hq, hr, hl⟩ := h.ch id c hid;rw [hp] at hq;obtain rfl : (some b, cap) = q := by simpa using hq
 have hk : ∀ k, k < w.heap.size → b ≠ k → w'.heap[k]? = w.heap[k]? := fun k hk hn => hfr.block k hk (by simpa using fun e => hn e.symm)
 have hcc : ∀ k, ¬ c'.foot k := (hc (fun _ => True) fun k hk' => ⟨trivial, hk k hk'.2.1 fun e => hk'.2.2 id c _ hid hp (.inl (by simp [e]))⟩).2.foot;refine h.step hd (MLe.refl m) h.un ?_ hfr.size (fun k hk' => ⟨fun j c1 q hj hq => ?_, hk k hk'.2.1 (fun e => hk'.2.2 id c _ hid hp (.inl (by simp [e])))⟩) (fun j c1 q b' hj h1 h2 h3 => ?_) (fun F' hF _ => ?_) (fun j j' c1 c2 q q' b' hj hj' h1 h2 he he' => ?_)
 ·refine h.fr.trans_new hfr (fun i hi => ?_);obtain rfl : i = b := by simpa using hi
  exact hl i (.inl rfl)
 ·obtain ⟨rfl, he⟩ := getL_one hj;obtain rfl : c1 = c' := by simpa using he
  rw [hp] at hq;obtain rfl : (some b, cap) = q := by simpa using hq
  exact fun ho => hk'.2.2 j c _ hid hp (.inl (ho.one hcc))
 ·obtain ⟨q', hq', hr', _⟩ := h.ch j c1 h1;rw [h2] at hq';obtain rfl : q = q' := by simpa using hq'
  refine hk _ (hr'.lt h3) (fun e => ?_);have := h.inj id j c c1 _ q hid h1 hp h2 b (.inl rfl) (by rw [e]; exact h3);subst this;rw [getL_cons, if_pos rfl] at hj;cases hj
 ·obtain ⟨h1, h2⟩ := hc F' hF;refine ⟨h1, fun j c1 hj => ?_⟩;obtain ⟨rfl, he⟩ := getL_one hj;obtain rfl : c1 = c' := by simpa using he
  exact ⟨_, hp, h2, fun b' hb' => hl b' (.inl (hb'.one hcc))⟩
 obtain ⟨rfl, he2⟩ := getL_one hj;obtain rfl : c1 = c' := by simpa using he2
 rw [ASt.chunk_app, getL_cons] at hj'
 by_cases hjj : j' = j
 ·exact hjj.symm
 rw [if_neg hjj] at hj';exact h.inj j j' c c2 q q' hid (by simpa [getL] using hj') h1 h2 b' (.inl (he.one hcc)) he'
end
inductive ZK where
 | int (k : IntKind) | bool | str | ptr | slice | func | iface
 deriving DecidableEq, Repr
def ZK.val : ZK → Value
 | .int k => .int k 0
 | .bool => .bool false
 | .str => .string ByteArray.empty
 | .ptr => .pointer none
 | .slice => .slice none 0 0
 | .func => .nilFunc
 | .iface => .nilIface
def zk : Value → Option ZK
 | .int k n => if n = 0 then some (.int k) else none
 | .bool b => if b = false then some .bool else none
 | .string s => if s = ByteArray.empty then some .str else none
 | .pointer none => some .ptr
 | .slice none 0 0 => some .slice
 | .nilFunc => some .func
 | .nilIface => some .iface
 | _ => none
theorem zk_val {v : Value} {z : ZK} (h : zk v = some z) : v = z.val := by
 unfold zk at h
 split at h
 all_goals first
  | (split at h <;> simp_all [ZK.val]; done)
  | (simp at h; subst h; rfl)
  | (simp at h; done)
  | skip
 all_goals (split at h <;> simp_all <;> (subst h; rfl))
def ZK.av (z : ZK) : AV := .d (.val z.val)
theorem ZK.ok (z : ZK) : okV z.val := by
 cases z with
 | int k => cases k <;> exact (by show IntKind.wrap _ _ = _; decide)
 | str => show ByteArray.size _ ≤ maxLen; simp [maxLen]
 | _ => trivial
inductive TK where
 | int (k : IntKind) | bool | string | slice (e : Nat) | struct (fs : List (Nat × Nat)) | pointer (e : Nat) | func | other | row
 deriving DecidableEq, Repr
structure TS where
 kind : TK
 size : Nat
 bytes : Nat
 zero : List ZK
 deriving DecidableEq, Repr
def TK.isRow : TK → Bool
 | .struct _ | .row => true
 | _ => false
def tkOf (P : Program) : TypeDesc → TK
 | .int k => .int k
 | .bool => .bool
 | .string => .string
 | .slice e => .slice e
 | .struct fs => .struct (fs.toList.map fun f => (f.offset, P.cellsOf f.type))
 | .pointer e => .pointer e
 | .func .. => .func
 | .array .. => .row
 | _ => .other
def tsOf (P : Program) (t : Nat) : Option TS :=
 (P.info? t).bind fun i => (P.underlying t).bind fun d => i.zero.bind fun z => (z.cells.toList.mapM zk).map fun zs => ⟨tkOf P d, i.size, i.bytes, zs⟩
class PT (P : Program) where
 tab : List (Nat × TS)
 ok : tab.all (fun p => decide (tsOf P p.1 = some p.2)) = true
def PT.ty (P : Program) [PT P] (t : Nat) : Option TS := getL t (PT.tab P)
section
variable {P : Program} [PT P]
theorem PT.of {t : Nat} {ts : TS} (h : PT.ty P t = some ts) : tsOf P t = some ts := by
 have hall := PT.ok (P := P)
 have key : ∀ l : List (Nat × TS), l.all (fun p => decide (tsOf P p.1 = some p.2)) = true → getL t l = some ts → tsOf P t = some ts := by
  intro l
  induction l with
  | nil => intro _ h; simp [getL] at h
  | cons p l ih =>
   obtain ⟨j, x⟩ := p;intro h1 h2;simp only [List.all_cons, Bool.and_eq_true, decide_eq_true_eq] at h1;rw [getL_cons] at h2
   split at h2
   ·rename_i he; subst he; rw [← h2]; exact h1.1
   exact ih h1.2 h2
 exact key _ hall h
theorem mapM_zk {l : List Value} {zs : List ZK} (h : l.mapM zk = some zs) : l = zs.map ZK.val := by
 induction l generalizing zs with
 | nil => simp at h; subst h; rfl
 | cons v l ih =>
  simp only [List.mapM_cons] at h;cases hv : zk v with
  | none => simp [hv] at h
  | some z =>
   cases hl : l.mapM zk with
   | none => simp [hv, hl] at h
   | some zs' =>
    simp [hv, hl] at h;subst h;rw [ih hl, zk_val hv]; rfl
theorem PT.facts {t : Nat} {ts : TS} (h : PT.ty P t = some ts) : ∃ i d z, P.info? t = some i ∧ P.underlying t = some d ∧ tkOf P d = ts.kind ∧ i.size = ts.size ∧ i.bytes = ts.bytes ∧ i.zero = some z ∧ z.cells = (ts.zero.map ZK.val).toArray := by
 have h := PT.of h;unfold tsOf at h;cases hi : P.info? t with
 | none => simp [hi] at h
 | some i =>
  cases hd : P.underlying t with
  | none => simp [hi, hd] at h
  | some d =>
   cases hz : i.zero with
   | none => simp [hi, hd, hz] at h
   | some z =>
    cases hm : z.cells.toList.mapM zk with
    | none => simp [hi, hd, hz, hm] at h
    | some zs =>
     simp [hi, hd, hz, hm] at h;subst h;exact ⟨i, d, z, rfl, rfl, rfl, rfl, rfl, hz, by rw [← mapM_zk hm]⟩
theorem PT.slice {t e sz by_ : Nat} {zs : List ZK} (h : PT.ty P t = some ⟨.slice e, sz, by_, zs⟩) : P.underlying t = some (.slice e) := by
 obtain ⟨i, d, z, _, hd, hk, _⟩ := PT.facts h;rw [hd]; cases d <;> simp [tkOf] at hk; subst hk; rfl
theorem PT.string {t sz by_ : Nat} {zs : List ZK} (h : PT.ty P t = some ⟨.string, sz, by_, zs⟩) : P.underlying t = some .string := by
 obtain ⟨i, d, z, _, hd, hk, _⟩ := PT.facts h;rw [hd]; cases d <;> simp [tkOf] at hk; rfl
theorem PT.int {t sz by_ : Nat} {k : IntKind} {zs : List ZK} (h : PT.ty P t = some ⟨.int k, sz, by_, zs⟩) : P.underlying t = some (.int k) := by
 obtain ⟨i, d, z, _, hd, hk, _⟩ := PT.facts h;rw [hd]; cases d <;> simp [tkOf] at hk; subst hk; rfl
theorem PT.struct {t sz by_ : Nat} {fs : List (Nat × Nat)} {zs : List ZK} (h : PT.ty P t = some ⟨.struct fs, sz, by_, zs⟩) : ∃ F, P.underlying t = some (.struct F) ∧ F.toList.map (fun f => (f.offset, P.cellsOf f.type)) = fs := by
 obtain ⟨i, d, z, _, hd, hk, _⟩ := PT.facts h;rw [hd]; cases d <;> simp [tkOf] at hk; exact ⟨_, rfl, hk⟩
theorem PT.size {t : Nat} {ts : TS} (h : PT.ty P t = some ts) : P.cellsOf t = ts.size := by
 obtain ⟨i, d, z, hi, _, _, hs, _⟩ := PT.facts h;simp [Program.cellsOf, hi, hs]
theorem PT.info {t : Nat} {ts : TS} (h : PT.ty P t = some ts) : (P.info? t).map (·.size) = some ts.size := by
 obtain ⟨i, d, z, hi, _, _, hs, _⟩ := PT.facts h;simp [hi, hs]
theorem PT.runSize {t : Nat} {ts : TS} (h : PT.ty P t = some ts) (w : World) : (sizeOf t).run P w = .ok ts.size w := by
 obtain ⟨i, d, z, hi, _, _, hs, _⟩ := PT.facts h;simp [sizeOf, typeInfo, hi, hs]
theorem PT.row {t : Nat} {ts : TS} (h : PT.ty P t = some ts) (hr : ts.kind.isRow = true) : ∃ d, P.underlying t = some d ∧ d.isRow = true := by
 obtain ⟨i, d, z, _, hd, hk, _⟩ := PT.facts h;exact ⟨d, hd, by cases d <;> simp [tkOf] at hk <;> first | rfl | (rw [← hk] at hr; cases hr)⟩
theorem PT.notRow {t : Nat} {ts : TS} (h : PT.ty P t = some ts) (hr : ts.kind.isRow = false) (w : World) : (isAgg t).run P w = .ok false w := by
 obtain ⟨i, d, z, _, hd, hk, _⟩ := PT.facts h;simp only [isAgg, Sem.run_bind, run_underlying hd, Result.andThen_ok];cases d <;> simp [tkOf] at hk <;> first | rfl | (rw [← hk] at hr; cases hr)
def Agr (ids : List Nat) (o : Oper) (s s' : ASt) : Prop := s'.n = s.n ∧ (∀ x, x ∈ o.op.operands → s'.ev x = s.ev x) ∧ ∀ id, id ∈ ids → s'.chunk id = s.chunk id
theorem Agr.refl (ids : List Nat) (o : Oper) (s : ASt) : Agr ids o s s := ⟨rfl, fun _ _ => rfl, fun _ _ => rfl⟩
structure GOp (P : Program) (ids : List Nat) (s : ASt) (o : Oper) (r : AV) : Prop where
 run : ∀ s', Agr ids o s s' → ∀ C U a w m, RelM C U s' a w m → ∃ v, (execOp a.eval o).run P w = .ok (.value v) w ∧ ARep m (Fz C m s' w) w r v
variable {s : ASt} {dst : Option Nat} {ty : Nat} {pos : String} {af : Array Edge} {gd : Option (Nat × Bool)}
theorem g_move {x : Operand} {r : AV} (h : s.ev x = r) : GOp P [] s ⟨dst, .move x, ty, pos, af, gd⟩ r := by
 refine ⟨fun s' ha C U a w m hR => ?_⟩;refine ⟨a.eval x, rfl, ?_⟩;have := hR.ev x
 rwa [ha.2.1 x (by simp [Op.operands]), h] at this
theorem g_assign {x : Operand} {r : AV} (h : s.ev x = r) : GOp P [] s ⟨dst, .assign x, ty, pos, af, gd⟩ r := by
 refine ⟨fun s' ha C U a w m hR => ?_⟩;refine ⟨a.eval x, rfl, ?_⟩;have := hR.ev x
 rwa [ha.2.1 x (by simp [Op.operands]), h] at this
theorem mv1 {x : Operand} {y : DV} (h : s.ev x = .d y) : GOp P [] s ⟨dst, .move x, ty, pos, af, gd⟩ (.d y) := g_move h
theorem as1 {x : Operand} {y : DV} (h : s.ev x = .d y) : GOp P [] s ⟨dst, .assign x, ty, pos, af, gd⟩ (.d y) := g_assign h
theorem mv2 {x : Operand} {id n : Nat} (h : s.ev x = .own id n) : GOp P [] s ⟨dst, .move x, ty, pos, af, gd⟩ (.own id n) := g_move h
theorem as2 {x : Operand} {id n : Nat} (h : s.ev x = .own id n) : GOp P [] s ⟨dst, .assign x, ty, pos, af, gd⟩ (.own id n) := g_assign h
theorem mv3 {x : Operand} {id n : Nat} (h : s.ev x = .ptr id n) : GOp P [] s ⟨dst, .move x, ty, pos, af, gd⟩ (.ptr id n) := g_move h
theorem as3 {x : Operand} {id n : Nat} (h : s.ev x = .ptr id n) : GOp P [] s ⟨dst, .assign x, ty, pos, af, gd⟩ (.ptr id n) := g_assign h
theorem mv5 {x : Operand} {cs : List AV} (h : s.ev x = .tup cs) : GOp P [] s ⟨dst, .move x, ty, pos, af, gd⟩ (.tup cs) := g_move h
theorem mv6 {x : Operand} {f : FuncId} {cs : List AV} (h : s.ev x = .clo f cs) : GOp P [] s ⟨dst, .move x, ty, pos, af, gd⟩ (.clo f cs) := g_move h
theorem ARep.val_eq {m : Nat → Option (Option Nat × Nat)} {F : Nat → Prop} {w : World} {u v : Value} (h : ARep m F w (.d (.val u)) v) : v = u ∧ okV u := by
 cases h with
 | d h => cases h with
  | val h => exact ⟨rfl, h⟩
theorem addr_add (b off n : Nat) : (⟨b, off, none⟩ : Addr).add n = ⟨b, off + n, none⟩ := by unfold Addr.add; split <;> simp_all
theorem cell_getD {w : World} {b i e : Nat} {arr : Array Value} {fz : Nat × Nat} (hb : w.heap[b]? = some (.cells arr e fz)) (hi : i < arr.size) : w.cell? ⟨b, i, none⟩ = some (arr.getD i undef) := by
 simp [World.cell?, hb, hi]
theorem run_load1 {t : Nat} {ts : TS} (ht : PT.ty P t = some ts) (hr : ts.kind.isRow = false) {w : World} {b i : Nat} {v : Value} (hc : w.cell? ⟨b, i, none⟩ = some v) :
  (Instr.loadAt t (.pointer (some ⟨b, i, none⟩))).run P w = .ok v w := by
 simp [Instr.loadAt, Instr.sureAddr, loadVar, PT.notRow ht hr w, load, Sem.run, hc]
theorem run_loadN {t : Nat} {ts : TS} (ht : PT.ty P t = some ts) (hr : ts.kind.isRow = true) {w : World} {b i : Nat} {cs : List Value} (hl : cs.length = ts.size) (hc : w.rangeAt b i cs) :
  (Instr.loadAt t (.pointer (some ⟨b, i, none⟩))).run P w = .ok (.agg cs.toArray) w := by
 obtain ⟨d, hd, hdr⟩ := PT.row ht hr;exact run_loadAt_mid w b i t cs d hc hd hdr (by rw [PT.info ht, hl])
theorem g_load_ref {t : Nat} {x : Operand} {ts : TS} {c : DV} {cs : List DV} (ht : PT.ty P t = some ts) (hr : ts.kind.isRow = false) (h : s.ev x = .d (.ref (c :: cs))) : GOp P [] s ⟨dst, .load t x, ty, pos, af, gd⟩ (.d c) := by
 refine ⟨fun s' ha C U a w m hR => ?_⟩;have hx := hR.ev x;rw [ha.2.1 x (by simp [Op.operands]), h] at hx;cases hx with
 | d hx =>
  generalize hv : a.eval x = v at hx;cases hx with
  | ref hF hb hle hel =>
   rename_i b off e arr fz;have h0 := hel 0 c rfl;simp only [List.length_cons] at hle;have hc := cell_getD (i := off) hb (by omega);refine ⟨arr.getD (off + 0) undef, ?_, .d h0⟩;simp only [execOp, Sem.run_bind, hv, run_load1 ht hr hc, Result.andThen_ok, Sem.run_pure, Nat.add_zero]
theorem g_load_refN {t : Nat} {x : Operand} {ts : TS} {cs : List DV} (ht : PT.ty P t = some ts) (hr : ts.kind.isRow = true) (h : s.ev x = .d (.ref cs)) (hle : Nat.ble ts.size cs.length = true) : GOp P [] s ⟨dst, .load t x, ty, pos, af, gd⟩ (.agg ((cs.take ts.size).map .d)) := by
 refine ⟨fun s' ha C U a w m hR => ?_⟩;have hx := hR.ev x;rw [ha.2.1 x (by simp [Op.operands]), h] at hx;have hle : ts.size ≤ cs.length := by simpa using hle
 cases hx with
 | d hx =>
  generalize hv : a.eval x = v at hx;cases hx with
  | ref hF hb hle2 hel =>
   rename_i b off e arr fz
   have hA : ∀ i, i < ts.size → ((arr.toList.drop off).take ts.size).toArray.getD i undef = arr.getD (off + i) undef := by
    intro i hi;simp [Array.getD_eq_getD_getElem?, List.getElem?_take, hi]
   have hrange : w.rangeAt b off ((arr.toList.drop off).take ts.size) := by
    intro j v hj;rw [List.getElem?_take] at hj
    split at hj
    ·simp only [List.getElem?_drop, Array.getElem?_toList] at hj;simp [World.cell?, hb, hj]
    cases hj
   have hlen : ((arr.toList.drop off).take ts.size).length = ts.size := by simp; omega
   refine ⟨_, ?_, .agg (vs := ((arr.toList.drop off).take ts.size).toArray) (by simp; omega) (fun i c hc => ?_) (fun i hi => ?_)⟩
   ·simp only [execOp, Sem.run_bind, hv, run_loadN ht hr hlen hrange, Result.andThen_ok, Sem.run_pure]
   ·simp only [List.getElem?_map, Option.map_eq_some_iff, List.getElem?_take] at hc;obtain ⟨d, hd, rfl⟩ := hc
    split at hd
    ·rename_i hi;rw [hA i hi];exact .d (hel i d hd)
    cases hd
   have hi' : i < ts.size := by rw [← hlen]; simpa using hi
   rw [hA i hi'];exact (hel i cs[i] (List.getElem?_eq_getElem (by omega))).one
end
abbrev dI (n : Int) : DV := .val (.int .i64 n)
abbrev dS (s : ByteArray) : DV := .val (.string s)
abbrev dT (b : Bool) : DV := .val (.bool b)
abbrev dB (b : UInt8) : DV := .val (.int .u8 (b.toNat : Int))
abbrev aI (n : Int) : AV := .d (dI n)
abbrev aS (s : ByteArray) : AV := .d (dS s)
abbrev aT (b : Bool) : AV := .d (dT b)
abbrev aB (b : UInt8) : AV := .d (dB b)
theorem wrap_ok (k : IntKind) (n : Int) : k.wrap n = n ↔ k.min ≤ n ∧ n ≤ k.max := by
 cases k <;> simp only [IntKind.wrap, IntKind.min, IntKind.max, IntKind.bits, IntKind.signed, Bool.true_and, Bool.false_and, if_true, Bool.false_eq_true, if_false] <;>
  first
   | omega
   | (split <;> rename_i h <;> simp only [decide_eq_true_eq, ge_iff_le] at h <;> omega)
theorem wrap_in (k : IntKind) (n : Int) : k.min ≤ k.wrap n ∧ k.wrap n ≤ k.max := by
 cases k <;> simp only [IntKind.wrap, IntKind.min, IntKind.max, IntKind.bits, IntKind.signed, Bool.true_and, Bool.false_and, if_true, Bool.false_eq_true, if_false] <;>
  first
   | omega
   | (split <;> rename_i h <;> simp only [decide_eq_true_eq, ge_iff_le] at h <;> omega)
theorem wrap_idem (k : IntKind) (n : Int) : k.wrap (k.wrap n) = k.wrap n := (wrap_ok k _).2 (wrap_in k n)
theorem wrap_i64 {n : Int} (h : -9223372036854775808 ≤ n ∧ n ≤ 9223372036854775807) : IntKind.i64.wrap n = n := (wrap_ok _ _).2 h
theorem wrap_u8 {n : Int} (h : 0 ≤ n ∧ n ≤ 255) : IntKind.u8.wrap n = n := (wrap_ok _ _).2 h
theorem ok_len {n : Nat} (h : n ≤ maxLen) : okV (.int .i64 (n : Int)) := wrap_i64 (by simp only [maxLen] at h; omega)
def arithOf : BinOp → Int → Int → Option Int
 | .add, a, b => some (a + b)
 | .sub, a, b => some (a - b)
 | .mul, a, b => some (a * b)
 | _, _, _ => none
def cmpOf : BinOp → Int → Int → Option Bool
 | .eql, a, b => some (decide (a = b))
 | .neq, a, b => some (!decide (a = b))
 | .lss, a, b => some (decide (a < b))
 | .leq, a, b => some (decide (a ≤ b))
 | .gtr, a, b => some (decide (b < a))
 | .geq, a, b => some (decide (b ≤ a))
 | _, _, _ => none
def scmpOf : BinOp → ByteArray → ByteArray → Option Bool
 | .eql, a, b => some (decide (a = b))
 | .neq, a, b => some (!decide (a = b))
 | .lss, a, b => some (Op.bytesLess a.toList b.toList)
 | .geq, a, b => some (!Op.bytesLess a.toList b.toList)
 | _, _, _ => none
section
variable {P : Program} [PT P]
variable {s : ASt} {dst : Option Nat} {ty : Nat} {pos : String} {af : Array Edge} {gd : Option (Nat × Bool)} {x y : Operand} {xt yt : Nat}
theorem g_vals2 {ids : List Nat} {o : Oper} (x y : Operand) {u v r : Value} (hxm : x ∈ o.op.operands) (hym : y ∈ o.op.operands) (hx : s.ev x = .d (.val u)) (hy : s.ev y = .d (.val v))
  (hr : ∀ (a : Act) (w : World), a.eval x = u → a.eval y = v → okV u → okV v → (execOp a.eval o).run P w = .ok (.value r) w ∧ okV r) : GOp P ids s o (.d (.val r)) := by
 refine ⟨fun s' ha C U a w m hR => ?_⟩;have h1 := hR.ev x;have h2 := hR.ev y;rw [ha.2.1 x hxm, hx] at h1;rw [ha.2.1 y hym, hy] at h2;obtain ⟨e1, o1⟩ := h1.val_eq;obtain ⟨e2, o2⟩ := h2.val_eq;obtain ⟨hrun, hok⟩ := hr a w e1 e2 o1 o2;exact ⟨r, hrun, .d (.val hok)⟩
theorem g_vals1 {ids : List Nat} {o : Oper} (x : Operand) {u r : Value} (hxm : x ∈ o.op.operands) (hx : s.ev x = .d (.val u))
  (hr : ∀ (a : Act) (w : World), a.eval x = u → okV u → (execOp a.eval o).run P w = .ok (.value r) w ∧ okV r) : GOp P ids s o (.d (.val r)) := by
 refine ⟨fun s' ha C U a w m hR => ?_⟩;have h1 := hR.ev x;rw [ha.2.1 x hxm, hx] at h1;obtain ⟨e1, o1⟩ := h1.val_eq;obtain ⟨hrun, hok⟩ := hr a w e1 o1;exact ⟨r, hrun, .d (.val hok)⟩
theorem g_arith {k : IntKind} {a b c e : Int} {op : BinOp} (hx : s.ev x = .d (.val (.int k a))) (hy : s.ev y = .d (.val (.int k b))) (hop : arithOf op a b = some c) (hw : k.wrap c = e) :
  GOp P [] s ⟨dst, .binOp op xt x y yt, ty, pos, af, gd⟩ (.d (.val (.int k e))) := by
 subst hw;refine g_vals2 x y (by simp [Op.operands]) (by simp [Op.operands]) hx hy fun A w e1 e2 _ _ => ⟨?_, wrap_idem _ _⟩
 cases op <;> simp [arithOf] at hop <;> subst hop <;> simp [execOp, e1, e2, eqGuard, binOp, Op.intArith]
theorem g_cmp {k : IntKind} {a b : Int} {op : BinOp} {r : Bool} (hx : s.ev x = .d (.val (.int k a))) (hy : s.ev y = .d (.val (.int k b))) (hop : cmpOf op a b = some r) :
  GOp P [] s ⟨dst, .binOp op xt x y yt, ty, pos, af, gd⟩ (aT r) := by
 refine g_vals2 x y (by simp [Op.operands]) (by simp [Op.operands]) hx hy fun A w e1 e2 _ _ => ⟨?_, trivial⟩
 cases op <;> simp only [cmpOf, Option.some.injEq, reduceCtorEq] at hop <;> subst hop <;> simp [execOp, e1, e2, eqGuard, binOp, Op.intCmp] <;> rfl
theorem g_quo {k : IntKind} {a b c : Int} (hx : s.ev x = .d (.val (.int k a))) (hy : s.ev y = .d (.val (.int k b))) (hb : b ≠ 0) (hw : k.wrap (a.tdiv b) = c) :
  GOp P [] s ⟨dst, .binOp .quo xt x y yt, ty, pos, af, gd⟩ (.d (.val (.int k c))) := by
 subst hw;refine g_vals2 x y (by simp [Op.operands]) (by simp [Op.operands]) hx hy fun A w e1 e2 _ _ => ⟨?_, wrap_idem _ _⟩
 simp [execOp, e1, e2, eqGuard, binOp, Op.intDiv, hb]
theorem tmod_in (k : IntKind) (a b : Int) (h : k.min ≤ a ∧ a ≤ k.max) : k.min ≤ a.tmod b ∧ a.tmod b ≤ k.max := by
 have hmin : k.min ≤ 0 := by cases k <;> decide
 have hmax : 0 ≤ k.max := by cases k <;> decide
 by_cases ha : 0 ≤ a
 ·have h1 := Int.tmod_nonneg b ha
  have h2 : a.tmod b ≤ a := by
   have := Int.natAbs_tmod a b;have h3 : (a.tmod b).natAbs ≤ a.natAbs := by rw [this]; exact Nat.mod_le _ _
   omega
  omega
 have h3 : (a.tmod b).natAbs ≤ a.natAbs := by rw [Int.natAbs_tmod]; exact Nat.mod_le _ _
 have h4 : a.tmod b ≤ 0 := by
  have := Int.tmod_nonneg b (show 0 ≤ -a by omega);rw [Int.neg_tmod] at this;omega
 omega
theorem g_rem {k : IntKind} {a b c : Int} (hx : s.ev x = .d (.val (.int k a))) (hy : s.ev y = .d (.val (.int k b))) (hb : b ≠ 0) (hw : a.tmod b = c) :
  GOp P [] s ⟨dst, .binOp .rem xt x y yt, ty, pos, af, gd⟩ (.d (.val (.int k c))) := by
 subst hw;refine g_vals2 x y (by simp [Op.operands]) (by simp [Op.operands]) hx hy fun A w e1 e2 o1 _ => ⟨?_, (wrap_ok _ _).2 (tmod_in _ _ _ ((wrap_ok _ _).1 o1))⟩
 simp [execOp, e1, e2, eqGuard, binOp, Op.intDiv, hb]
theorem bytes_beq (a b : ByteArray) : (a.toList == b.toList) = decide (a = b) := by
 have : a.toList = b.toList ↔ a = b := by
  constructor
  ·intro h;have h' : a.data.toList = b.data.toList := by simpa [ByteArray.toList_eq] using h
   cases a; cases b; congr; exact Array.toList_inj.1 h'
  rintro rfl; rfl
 rw [Bool.eq_iff_iff];simp [this]
theorem g_scmp {a b : ByteArray} {op : BinOp} {r : Bool} (hx : s.ev x = aS a) (hy : s.ev y = aS b) (hop : scmpOf op a b = some r) :
  GOp P [] s ⟨dst, .binOp op xt x y yt, ty, pos, af, gd⟩ (aT r) := by
 refine g_vals2 x y (by simp [Op.operands]) (by simp [Op.operands]) hx hy fun A w e1 e2 _ _ => ⟨?_, trivial⟩
 cases op <;> simp only [scmpOf, Option.some.injEq, reduceCtorEq] at hop <;> subst hop <;> simp [execOp, e1, e2, eqGuard, binOp, Op.stringOp, bytes_beq]
theorem g_sadd {a b : ByteArray} (hx : s.ev x = aS a) (hy : s.ev y = aS b) (hl : a.size + b.size ≤ 9223372036854775807) :
  GOp P [] s ⟨dst, .binOp .add xt x y yt, ty, pos, af, gd⟩ (aS (a ++ b)) := by
 refine g_vals2 x y (by simp [Op.operands]) (by simp [Op.operands]) hx hy fun A w e1 e2 _ _ => ⟨?_, by show _ ≤ maxLen; simp only [ByteArray.size_append, maxLen]; omega⟩
 have : ¬ ((a.size + b.size : Nat) : Int) > IntKind.i64.max := by
  have : IntKind.i64.max = 9223372036854775807 := by decide
  omega
 simp only [execOp, e1, e2, eqGuard, binOp, Op.stringOp, this];simp
theorem g_neB {a b : Bool} {n bt : Nat} {zs : List ZK} (ht : PT.ty P xt = some ⟨.bool, n, bt, zs⟩) (hx : s.ev x = aT a) (hy : s.ev y = aT b) :
  GOp P [] s ⟨dst, .binOp .neq xt x y yt, ty, pos, af, gd⟩ (aT (!(a == b))) := by
 obtain ⟨i, d, z, _, hd, hk, _⟩ := PT.facts ht;have hd : P.underlying xt = some .bool := by rw [hd]; cases d <;> simp [tkOf] at hk; rfl
 refine g_vals2 x y (by simp [Op.operands]) (by simp [Op.operands]) hx hy fun A w e1 e2 _ _ => ⟨?_, trivial⟩
 simp [execOp, e1, e2, eqGuard, run_neq_bool w xt a b hd]
theorem g_not {b : Bool} (hx : s.ev x = aT b) : GOp P [] s ⟨dst, .unOp .not xt x, ty, pos, af, gd⟩ (aT (!b)) := by
 refine g_vals1 x (by simp [Op.operands]) hx fun A w e1 _ => ⟨?_, trivial⟩
 simp [execOp, e1, Op.unary]
theorem g_convI {t u : Nat} {k k' : IntKind} {a c : Int} {n' bt' : Nat} {zs' : List ZK} {tk : TS} (ht : PT.ty P t = some tk) (hu : PT.ty P u = some ⟨.int k', n', bt', zs'⟩) (hx : s.ev x = .d (.val (.int k a))) (hw : k'.wrap a = c) :
  GOp P [] s ⟨dst, .convert t u x, ty, pos, af, gd⟩ (.d (.val (.int k' c))) := by
 subst hw;obtain ⟨i, d, z, _, hd, _⟩ := PT.facts ht;have h2 := PT.int hu;refine g_vals1 x (by simp [Op.operands]) hx fun A w e1 _ => ⟨?_, wrap_idem _ _⟩
 simp [execOp, e1, convert, run_underlying hd, run_underlying h2, Conv.intToInt]
theorem g_pickT {c a b : Operand} {r : AV} (hc : s.ev c = aT true) (h : s.ev a = r) : GOp P [] s ⟨dst, .pick c a b, ty, pos, af, gd⟩ r := by
 refine ⟨fun s' ha C U A w m hR => ?_⟩;have h1 := hR.ev c;rw [ha.2.1 c (by simp [Op.operands]), hc] at h1;have h2 := hR.ev a;rw [ha.2.1 a (by simp [Op.operands]), h] at h2;refine ⟨A.eval a, ?_, h2⟩;simp [execOp, h1.val_eq.1, asBool]
theorem g_pickF {c a b : Operand} {r : AV} (hc : s.ev c = aT false) (h : s.ev b = r) : GOp P [] s ⟨dst, .pick c a b, ty, pos, af, gd⟩ r := by
 refine ⟨fun s' ha C U A w m hR => ?_⟩;have h1 := hR.ev c;rw [ha.2.1 c (by simp [Op.operands]), hc] at h1;have h2 := hR.ev b;rw [ha.2.1 b (by simp [Op.operands]), h] at h2;refine ⟨A.eval b, ?_, h2⟩;simp [execOp, h1.val_eq.1, asBool]
theorem g_extract {i : Nat} {cs : List AV} {r : AV} (hx : s.ev x = .tup cs) (h : cs[i]? = some r) : GOp P [] s ⟨dst, .extract x i, ty, pos, af, gd⟩ r := by
 refine ⟨fun s' ha C U A w m hR => ?_⟩;have h1 := hR.ev x;rw [ha.2.1 x (by simp [Op.operands]), hx] at h1;generalize hv : A.eval x = v at h1;cases h1 with
 | tup hs he =>
  rename_i vs;have hi : i < vs.size := by rw [hs]; exact (List.getElem?_eq_some_iff.1 h).1
  refine ⟨vs.getD i undef, ?_, he i r h⟩;simp [execOp, hv, Instr.extract, hi]
theorem g_nil {r : AV} (hx : s.ev x = r) (hr : ∀ m F w v, ARep m F w r v → ∃ a, v = .pointer (some a)) : GOp P [] s ⟨dst, .nilCheck x, ty, pos, af, gd⟩ r := by
 refine ⟨fun s' ha C U A w m hR => ?_⟩;have h1 := hR.ev x;rw [ha.2.1 x (by simp [Op.operands]), hx] at h1;obtain ⟨a, hv⟩ := hr _ _ _ _ h1;exact ⟨_, by simp [execOp, hv], hv ▸ h1⟩
theorem g_nilP {id k : Nat} (hx : s.ev x = .ptr id k) : GOp P [] s ⟨dst, .nilCheck x, ty, pos, af, gd⟩ (.ptr id k) :=
 g_nil hx fun m F w v h => by cases h; exact ⟨_, rfl⟩
theorem g_fn {f : FuncId} {caps : Array Operand} {cs : List AV} (h : caps.toList.map s.ev = cs) : GOp P [] s ⟨dst, .makeFunc (.func f) #[] caps, ty, pos, af, gd⟩ (.clo f cs) := by
 refine ⟨fun s' ha C U A w m hR => ?_⟩;refine ⟨.func (.func f) #[] (caps.map A.eval), by simp [execOp, Instr.makeFunc], .clo (by simp [← h]) (fun i c hc => ?_)⟩;rw [← h, List.getElem?_map, Option.map_eq_some_iff] at hc;obtain ⟨x, hx, rfl⟩ := hc;have hx' : caps[i]? = some x := by simpa using hx
 have h1 := hR.ev x;rw [ha.2.1 x (by simp only [Op.operands, Array.mem_append]; exact .inr (Array.mem_of_getElem? hx'))] at h1;simpa [Array.getD_eq_getD_getElem?, hx'] using h1
end
section
variable {P : Program} [PT P]
variable {s : ASt} {dst : Option Nat} {ty : Nat} {pos : String} {af : Array Edge} {gd : Option (Nat × Bool)} {x y : Operand} {t : Nat} {ts : TS}
variable {C : Ctx} {U : Nat → Prop} {a : Act} {w : World} {m : Nat → Option (Option Nat × Nat)}
theorem RelM.chunkAt (h : RelM C U s a w m) {id : Nat} {c : Chunk} (hc : s.chunk id = some c) {p : Option Nat × Nat} (hp : m id = some p) : CRep m (Fz C m s w) w p c := by
 obtain ⟨q, hq, hr, _⟩ := h.ch id c hc;rw [hp] at hq;obtain rfl : p = q := by simpa using hq
 exact hr
theorem range_of {w : World} {b off n e : Nat} {arr : Array Value} {fz : Nat × Nat} (hb : w.heap[b]? = some (.cells arr e fz)) (hle : off + n ≤ arr.size) :
  ((arr.toList.drop off).take n).length = n ∧ w.rangeAt b off ((arr.toList.drop off).take n) ∧ ∀ i, i < n → ((arr.toList.drop off).take n).toArray.getD i undef = arr.getD (off + i) undef := by
 refine ⟨by simp; omega, fun j v hj => ?_, fun i hi => by simp [Array.getD_eq_getD_getElem?, hi]⟩;rw [List.getElem?_take] at hj
 split at hj
 ·simp only [List.getElem?_drop, Array.getElem?_toList] at hj;simp [World.cell?, hb, hj]
 cases hj
theorem g_load_ptr {id k tt : Nat} {cs : List AV} {c : AV} (ht : PT.ty P t = some ts) (hr : ts.kind.isRow = false) (h : s.ev x = .ptr id k) (hc : s.chunk id = some (.cells tt cs)) (hk : cs[k]? = some c) : GOp P [id] s ⟨dst, .load t x, ty, pos, af, gd⟩ c := by
 refine ⟨fun s' ha C U a w m hR => ?_⟩;have hx := hR.ev x;rw [ha.2.1 x (by simp [Op.operands]), h] at hx;have hc' : s'.chunk id = some (.cells tt cs) := by rw [ha.2.2 id (by simp)]; exact hc
 generalize hv : a.eval x = v at hx;cases hx with
 | ptr hp =>
  cases hR.chunkAt hc' hp with
  | cells hb hs he h1 =>
   have hlt : k < cs.length := (List.getElem?_eq_some_iff.1 hk).1;have hcell := cell_getD (i := k) hb (by omega);refine ⟨_, ?_, he k c hk⟩;simp only [execOp, Sem.run_bind, hv, run_load1 ht hr hcell, Result.andThen_ok, Sem.run_pure]
theorem g_load_ptrN {id k tt : Nat} {cs : List AV} (ht : PT.ty P t = some ts) (hr : ts.kind.isRow = true) (h : s.ev x = .ptr id k) (hc : s.chunk id = some (.cells tt cs)) (hk : Nat.ble (k + ts.size) cs.length = true) : GOp P [id] s ⟨dst, .load t x, ty, pos, af, gd⟩ (.agg ((cs.drop k).take ts.size)) := by
 refine ⟨fun s' ha C U a w m hR => ?_⟩;have hx := hR.ev x;rw [ha.2.1 x (by simp [Op.operands]), h] at hx;have hc' : s'.chunk id = some (.cells tt cs) := by rw [ha.2.2 id (by simp)]; exact hc
 have hk : k + ts.size ≤ cs.length := by simpa using hk
 generalize hv : a.eval x = v at hx;cases hx with
 | ptr hp =>
  cases hR.chunkAt hc' hp with
  | cells hb hs he h1 =>
   obtain ⟨r1, r2, r3⟩ := range_of (off := k) (n := ts.size) hb (by omega);refine ⟨_, ?_, .agg (vs := _) (by rw [← List.size_toArray] at r1; rw [r1]; simp; omega) (fun i c hc => ?_) (fun i hi => ?_)⟩
   ·simp only [execOp, Sem.run_bind, hv, run_loadN ht hr r1 r2, Result.andThen_ok, Sem.run_pure]
   ·rw [List.getElem?_take] at hc
    split at hc
    ·rename_i hi;rw [r3 i hi];exact he (k + i) c (by rw [List.getElem?_drop] at hc; exact hc)
    cases hc
   have hi' : i < ts.size := by rw [← r1]; simpa using hi
   rw [r3 i hi'];exact h1 _ (by omega)
theorem arr_cell {F : Nat → Prop} {b cap : Nat} {e sz : Nat} {els : List (List DV)} (h : CRep m F w (some b, cap) (.arr e sz els)) {i j : Nat} {cs : List DV} {d : DV} (hi : els[i]? = some cs) (hj : cs[j]? = some d) :
  ∃ arr fz, w.heap[b]? = some (.cells arr e fz) ∧ i * sz + j < arr.size ∧ (∀ k, k < arr.size → ¬ (fz.1 ≤ k ∧ k < fz.2)) ∧ DRep F w d (arr.getD (i * sz + j) undef) ∧ arr.size = cap * sz := by
 cases h with
 | arr hb hf hs hl hm h0 hsz he =>
  have h1 := hsz i cs hi;have h2 := (List.getElem?_eq_some_iff.1 hi).1;have h3 := (List.getElem?_eq_some_iff.1 hj).1;refine ⟨_, _, hb, ?_, hf, he i cs j d hi hj, hs⟩;rw [hs];have : (i + 1) * sz ≤ cap * sz := Nat.mul_le_mul_right _ (by omega);rw [Nat.succ_mul] at this;omega
theorem g_load_arr {id k e sz i j : Nat} {els : List (List DV)} {cs : List DV} {d : DV} (ht : PT.ty P t = some ts) (hr : ts.kind.isRow = false) (h : s.ev x = .ptr id k) (hc : s.chunk id = some (.arr e sz els)) (hk : k = i * sz + j) (hi : els[i]? = some cs) (hj : cs[j]? = some d) : GOp P [id] s ⟨dst, .load t x, ty, pos, af, gd⟩ (.d d) := by
 refine ⟨fun s' ha C U a w m hR => ?_⟩;have hx := hR.ev x;rw [ha.2.1 x (by simp [Op.operands]), h] at hx;have hc' : s'.chunk id = some (.arr e sz els) := by rw [ha.2.2 id (by simp)]; exact hc
 generalize hv : a.eval x = v at hx;cases hx with
 | ptr hp =>
  obtain ⟨arr, fz, hb, hlt, _, hd, _⟩ := arr_cell (hR.chunkAt hc' hp) hi hj;have hcell := cell_getD (i := k) hb (by omega);subst hk;refine ⟨_, ?_, .d hd⟩;simp only [execOp, Sem.run_bind, hv, run_load1 ht hr hcell, Result.andThen_ok, Sem.run_pure]
theorem g_load_arr1 {id k e : Nat} {els : List (List DV)} {d : DV} (ht : PT.ty P t = some ts) (hr : ts.kind.isRow = false) (h : s.ev x = .ptr id k) (hc : s.chunk id = some (.arr e 1 els)) (hi : els[k]? = some [d]) : GOp P [id] s ⟨dst, .load t x, ty, pos, af, gd⟩ (.d d) := g_load_arr (i := k) (j := 0) ht hr h hc (by simp) hi rfl
theorem run_field {F : Array Field} {fs : List (Nat × Nat)} (hu : P.underlying t = some (.struct F)) (hF : F.toList.map (fun f => (f.offset, P.cellsOf f.type)) = fs) {f off sz : Nat} (hf : fs[f]? = some (off, sz)) : ∃ fd, F[f]? = some fd ∧ fd.offset = off ∧ P.cellsOf fd.type = sz := by
 rw [← hF, List.getElem?_map, Option.map_eq_some_iff] at hf;obtain ⟨fd, h1, h2⟩ := hf;simp only [Prod.mk.injEq] at h2;exact ⟨fd, by simpa using h1, h2.1, h2.2⟩
theorem info_of_cells {t : Nat} (h : P.cellsOf t ≠ 0) : ∃ i, P.info? t = some i ∧ i.size = P.cellsOf t := by
 unfold Program.cellsOf at *;cases hi : P.info? t with
 | none => simp [hi] at h
 | some i => exact ⟨i, rfl, by simp⟩
theorem run_fieldAddr {fs : List (Nat × Nat)} {n bt : Nat} {zs : List ZK} (ht : PT.ty P t = some ⟨.struct fs, n, bt, zs⟩) {f off sz : Nat} (hf : fs[f]? = some (off, sz)) (hsz : sz ≠ 0) (b o : Nat) (w : World) :
  (Instr.fieldAt t (.pointer (some ⟨b, o, none⟩)) f).run P w = .ok (.pointer (some ⟨b, o + off, none⟩)) w := by
 obtain ⟨F, hu, hF⟩ := PT.struct ht;obtain ⟨fd, h1, h2, h3⟩ := run_field hu hF hf;obtain ⟨i, hi, hs⟩ := info_of_cells (P := P) (t := fd.type) (by rw [h3]; exact hsz);have hne : ¬ i.size = 0 := by rw [hs, h3]; exact hsz
 simp [Instr.fieldAt, run_underlying hu, h1, Instr.sureAddr, fieldPlace, sizeOf, typeInfo, hi, hne, addr_add, h2]
theorem g_fa_ptr {id k f off sz n bt : Nat} {fs : List (Nat × Nat)} {zs : List ZK} (ht : PT.ty P t = some ⟨.struct fs, n, bt, zs⟩) (h : s.ev x = .ptr id k) (hf : fs[f]? = some (off, sz)) (hz : Nat.beq sz 0 = false) {k' : Nat} (hk : k + off = k') : GOp P [] s ⟨dst, .fieldAddr t x f, ty, pos, af, gd⟩ (.ptr id k') := by
 subst hk;refine ⟨fun s' ha C U a w m hR => ?_⟩;have hx := hR.ev x;rw [ha.2.1 x (by simp [Op.operands]), h] at hx;generalize hv : a.eval x = v at hx;cases hx with
 | ptr hp =>
  refine ⟨_, ?_, .ptr hp⟩;simp only [execOp, Sem.run_bind, hv, run_fieldAddr ht hf (Nat.ne_of_beq_eq_false hz), Result.andThen_ok, Sem.run_pure]
theorem g_fa_ref {f off sz n bt : Nat} {cs cs' : List DV} {fs : List (Nat × Nat)} {zs : List ZK} (ht : PT.ty P t = some ⟨.struct fs, n, bt, zs⟩) (h : s.ev x = .d (.ref cs)) (hf : fs[f]? = some (off, sz)) (hz : Nat.beq sz 0 = false) (hd : cs.drop off = cs') (hl : Nat.ble off cs.length = true) : GOp P [] s ⟨dst, .fieldAddr t x f, ty, pos, af, gd⟩ (.d (.ref cs')) := by
 subst hd;refine ⟨fun s' ha C U a w m hR => ?_⟩;have hx := hR.ev x;rw [ha.2.1 x (by simp [Op.operands]), h] at hx;generalize hv : a.eval x = v at hx;have hl : off ≤ cs.length := by simpa using hl
 cases hx with
 | d hx =>
  cases hx with
  | ref hF hb hle hel =>
   rename_i b o e arr fz;refine ⟨.pointer (some ⟨b, o + off, none⟩), ?_, .d (.ref hF hb (by simp; omega) (fun j d hj => ?_))⟩
   ·simp only [execOp, Sem.run_bind, hv, run_fieldAddr ht hf (Nat.ne_of_beq_eq_false hz), Result.andThen_ok, Sem.run_pure]
   rw [List.getElem?_drop] at hj;have := hel (off + j) d hj
   rwa [← Nat.add_assoc] at this
theorem run_indexAddr {e n bt sz : Nat} {zs : List ZK} (ht : PT.ty P t = some ⟨.slice e, n, bt, zs⟩) (he : ∃ te, PT.ty P e = some te ∧ te.size = sz) {b off len cap i : Nat} (hi : i < len) (w : World) :
  (Instr.indexAt t (.slice (some ⟨b, off, none⟩) len cap) (.int .i64 (i : Int))).run P w = .ok (.pointer (some ⟨b, off + i * sz, none⟩)) w := by
 obtain ⟨te, he, rfl⟩ := he;have h := PT.slice ht;have hc : (0 : Int) ≤ (i : Int) ∧ (i : Int) < (len : Int) := by omega
 simp [Instr.indexAt, run_underlying h, asIntOf, hi, PT.runSize he, addr_add]
theorem g_ia_view {e e' n bt sz i : Nat} {zs : List ZK} {te : TS} {els : List (List DV)} {cs : List DV} {I : Int} (ht : PT.ty P t = some ⟨.slice e, n, bt, zs⟩) (he : PT.ty P e = some te) (hs : te.size = sz) (h : s.ev x = .d (.view e' sz els)) (hy : s.ev y = aI I) (hI : I = (i : Int)) (hi : els[i]? = some cs) : GOp P [] s ⟨dst, .indexAddr t x y, ty, pos, af, gd⟩ (.d (.ref cs)) := by
 refine ⟨fun s' ha C U a w m hR => ?_⟩;have hx := hR.ev x;rw [ha.2.1 x (by simp [Op.operands]), h] at hx;have h2 := hR.ev y;rw [ha.2.1 y (by simp [Op.operands]), hy] at h2;obtain ⟨e2, _⟩ := h2.val_eq;have hlt := (List.getElem?_eq_some_iff.1 hi).1;generalize hv : a.eval x = v at hx;cases hx with
 | d hx =>
  cases hx with
  | nil => simp at hlt
  | empty => simp at hlt
  | view hF hb h1 h2 h3 h4 h5 =>
   have hcs := h4 i cs hi;refine ⟨_, ?_, .d (.ref hF hb ?_ (fun j d hj => h5 i cs j d hi hj))⟩
   ·simp only [execOp, Sem.run_bind, hv, e2, hI, run_indexAddr ht ⟨te, he, hs⟩ hlt, Result.andThen_ok, Sem.run_pure]
   have : (i + 1) * sz ≤ _ * sz := Nat.mul_le_mul_right sz (Nat.lt_of_lt_of_le hlt h1);rw [Nat.succ_mul] at this;omega
theorem g_ia_own {id l e n bt sz i k : Nat} {zs : List ZK} {te : TS} {I : Int} (ht : PT.ty P t = some ⟨.slice e, n, bt, zs⟩) (he : PT.ty P e = some te) (hs : te.size = sz) (h : s.ev x = .own id l) (hy : s.ev y = aI I) (hI : I = (i : Int)) (hi : i < l) (hk : i * sz = k) : GOp P [] s ⟨dst, .indexAddr t x y, ty, pos, af, gd⟩ (.ptr id k) := by
 subst hk;refine ⟨fun s' ha C U a w m hR => ?_⟩;have hx := hR.ev x;rw [ha.2.1 x (by simp [Op.operands]), h] at hx;have h2 := hR.ev y;rw [ha.2.1 y (by simp [Op.operands]), hy] at h2;obtain ⟨e2, _⟩ := h2.val_eq;generalize hv : a.eval x = v at hx;cases hx with
 | own hp h0 =>
  rename_i cap b;cases b with
  | none => have := (h0 rfl).1; omega
  | some b =>
   refine ⟨_, ?_, .ptr hp⟩;simp only [execOp, Sem.run_bind, hv, e2, hI, Option.map_some, run_indexAddr ht ⟨te, he, hs⟩ hi, Result.andThen_ok, Sem.run_pure, Nat.zero_add]
theorem g_index {i n bt : Nat} {zs : List ZK} {st : ByteArray} {I : Int} {b : UInt8} (ht : PT.ty P t = some ⟨.string, n, bt, zs⟩) (h : s.ev x = aS st) (hy : s.ev y = aI I) (hI : I = (i : Int)) (hi : st.data.toList[i]? = some b) : GOp P [] s ⟨dst, .index t x y, ty, pos, af, gd⟩ (aB b) := by
 refine g_vals2 x y (by simp [Op.operands]) (by simp [Op.operands]) h hy fun A w e1 e2 _ _ => ⟨?_, ?_⟩
 ·have hlt : i < st.size := by have := (List.getElem?_eq_some_iff.1 hi).1; simpa using this
  have hb : st[i] = b := by
   have := (List.getElem?_eq_some_iff.1 hi).2;show st.data[i] = b;simpa using this
  have hc : (0 : Int) ≤ (i : Int) ∧ (i : Int) < (st.size : Int) := by omega
  simp only [execOp, Sem.run_bind, e1, e2, hI, run_index_string w t st .i64 (i : Int) (PT.string ht), dif_pos hc, Result.andThen_ok, Sem.run_pure, Int.toNat_natCast, hb]
 exact wrap_u8 (by have := b.toNat_lt; omega)
omit [PT P] in
theorem elem_slice {t e : Nat} (h : P.underlying t = some (.slice e)) : P.underlying t = some (.slice (P.elem t)) := by
 have : P.elem t = e := by simp [Program.elem, h]
 rw [this, h]
theorem g_len_view {n bt e e' sz : Nat} {zs : List ZK} {els : List (List DV)} {k : Nat} (ht : PT.ty P t = some ⟨.slice e, n, bt, zs⟩) (h : s.ev x = .d (.view e' sz els)) (hk : els.length = k) : GOp P [] s ⟨dst, .call { callee := .builtin .len, args := #[x], argTypes := #[t] }, ty, pos, af, gd⟩ (aI (k : Int)) := by
 subst hk;refine ⟨fun s' ha C U a w m hR => ?_⟩;have hx := hR.ev x;rw [ha.2.1 x (by simp [Op.operands, Call.operands]), h] at hx;generalize hv : a.eval x = v at hx
 have key : ∀ (b : Option Addr) (l c : Nat), a.eval x = .slice b l c → (execOp a.eval ⟨dst, .call { callee := .builtin .len, args := #[x], argTypes := #[t] }, ty, pos, af, gd⟩).run P w = .ok (.value (.int .i64 (l : Int))) w := by
  intro b l c hv;simp [execOp, resolve, invoke, builtin, hv, run_len_slice w t ty b l c (elem_slice (PT.slice ht)), goInt]
 cases hx with
 | d hx =>
  cases hx with
  | nil => exact ⟨_, key _ _ _ hv, .d (.val (ok_len (by simp [maxLen])))⟩
  | empty => exact ⟨_, key _ _ _ hv, .d (.val (ok_len (by simp [maxLen])))⟩
  | view hF hb h1 h2 h3 h4 h5 => exact ⟨_, key _ _ _ hv, .d (.val (ok_len (by omega)))⟩
theorem g_len_own {n bt e e' id l sz : Nat} {zs : List ZK} {els : List (List DV)} (ht : PT.ty P t = some ⟨.slice e, n, bt, zs⟩) (h : s.ev x = .own id l) (hl : l ≤ maxLen) : GOp P [] s ⟨dst, .call { callee := .builtin .len, args := #[x], argTypes := #[t] }, ty, pos, af, gd⟩ (aI (l : Int)) := by
 refine ⟨fun s' ha C U a w m hR => ?_⟩;have hx := hR.ev x;rw [ha.2.1 x (by simp [Op.operands, Call.operands]), h] at hx;generalize hv : a.eval x = v at hx;cases hx with
 | own hp h0 =>
  rename_i cap b;refine ⟨.int .i64 (l : Int), ?_, .d (.val (ok_len hl))⟩;simp [execOp, resolve, invoke, builtin, hv, run_len_slice w t ty (b.map fun b => ⟨b, 0, none⟩) l cap (elem_slice (PT.slice ht)), goInt]
theorem g_len_nil {n bt e : Nat} {zs : List ZK} (ht : PT.ty P t = some ⟨.slice e, n, bt, zs⟩) (h : s.ev x = .d (.val (.slice none 0 0))) : GOp P [] s ⟨dst, .call { callee := .builtin .len, args := #[x], argTypes := #[t] }, ty, pos, af, gd⟩ (aI (0 : Nat)) := by
 refine g_vals1 x (by simp [Op.operands, Call.operands]) h fun A w e1 _ => ⟨?_, ok_len (by simp [maxLen])⟩
 simp [execOp, resolve, invoke, builtin, e1, run_len_slice w t ty none 0 0 (elem_slice (PT.slice ht)), goInt]
theorem g_len_str {n bt : Nat} {zs : List ZK} {st : ByteArray} {k : Nat} (ht : PT.ty P t = some ⟨.string, n, bt, zs⟩) (h : s.ev x = aS st) (hk : st.size = k) : GOp P [] s ⟨dst, .call { callee := .builtin .len, args := #[x], argTypes := #[t] }, ty, pos, af, gd⟩ (aI (k : Int)) := by
 subst hk;refine g_vals1 x (by simp [Op.operands, Call.operands]) h fun A w e1 o1 => ⟨?_, ok_len o1⟩
 simp [execOp, resolve, invoke, builtin, e1, run_len_string w t ty st (PT.string ht), goInt]
end
inductive OptEv (s : ASt) : Option Operand → Nat → Nat → Prop
 | none {d : Nat} : OptEv s none d d
 | some {x : Operand} {d l : Nat} {I : Int} : s.ev x = aI I → I = (l : Int) → OptEv s (some x) d l
def AV.cells? : AV → Option (List AV)
 | .agg cs => some cs
 | .dead => none
 | .und => none
 | .tup _ => none
 | .d x => some [.d x]
 | .own id n => some [.own id n]
 | .ptr id k => some [.ptr id k]
 | .part id o n => some [.part id o n]
 | .mp id => some [.mp id]
 | .tight e sz els => some [.tight e sz els]
 | .clo f cs => some [.clo f cs]
def dvs : List AV → Option (List DV)
 | [] => some []
 | .d x :: l => match dvs l with
  | some r => some (x :: r)
  | none => none
 | _ => none
theorem dvs_eq {l : List AV} {r : List DV} (h : dvs l = some r) : l = r.map .d := by
 induction l generalizing r with
 | nil => simp [dvs] at h; subst h; rfl
 | cons c l ih =>
  cases c <;> simp only [dvs, reduceCtorEq] at h;cases hl : dvs l with
  | none => simp [hl] at h
  | some r' => simp [hl] at h; subst h; rw [ih hl]; rfl
theorem cells_rep {m : Nat → Option (Option Nat × Nat)} {F : Nat → Prop} {w : World} {x : AV} {v : Value} {cs : List AV} (h : ARep m F w x v) (hc : x.cells? = some cs) :
  v.cells.size = cs.length ∧ (∀ (i : Nat) (c : AV), cs[i]? = some c → ARep m F w c (v.cells.getD i undef)) ∧ ∀ i, i < v.cells.size → (v.cells.getD i undef).oneCell' = true := by
 have one : ∀ v : Value, v.oneCell' = true → x.cells? = some [x] → ARep m F w x v → v.cells.size = 1 ∧ (∀ (i : Nat) (c : AV), [x][i]? = some c → ARep m F w c (v.cells.getD i undef)) ∧ ∀ i, i < v.cells.size → (v.cells.getD i undef).oneCell' = true := by
  intro v hv _ h;have hcs : v.cells = #[v] := by cases v <;> first | rfl | cases hv
  rw [hcs];refine ⟨rfl, fun i c hi => ?_, fun i hi => ?_⟩
  ·cases i with
   | zero => simp at hi; subst hi; exact h
   | succ i => simp at hi
  have : i = 0 := by simp at hi; omega
  subst this; exact hv
 cases h with
 | dead => simp [AV.cells?] at hc
 | und => simp [AV.cells?] at hc
 | tup => simp [AV.cells?] at hc
 | agg h1 h2 h3 => simp [AV.cells?] at hc; subst hc; exact ⟨h1, h2, h3⟩
 | d h => simp [AV.cells?] at hc; subst hc; exact one _ h.one rfl (.d h)
 | own h h0 => simp [AV.cells?] at hc; subst hc; exact one _ rfl rfl (.own h h0)
 | ptr h => simp [AV.cells?] at hc; subst hc; exact one _ rfl rfl (.ptr h)
 | part h h1 => simp [AV.cells?] at hc; subst hc; exact one _ rfl rfl (.part h h1)
 | mp h => simp [AV.cells?] at hc; subst hc; exact one _ rfl rfl (.mp h)
 | tight h => simp [AV.cells?] at hc; subst hc; exact one _ rfl rfl (.tight h)
 | clo h1 h2 => simp [AV.cells?] at hc; subst hc; exact one _ rfl rfl (.clo h1 h2)
section
variable {P : Program} [PT P]
variable {s : ASt} {dst : Option Nat} {ty : Nat} {pos : String} {af : Array Edge} {gd : Option (Nat × Bool)} {x y : Operand} {t : Nat} {ts : TS}
structure NOp (P : Program) (ids : List Nat) (s : ASt) (o : Oper) (f : Nat) (u : Upd) : Prop where
 run : ∀ s', Agr ids o s s' → ∀ C U U' a w m, RelM C U s' a w m → (∀ k, k < 8 → U (f + k)) → (∀ j, U' j → U j ∧ (j < f ∨ f + 8 ≤ j)) → dstOk o.dst s'.n = true → ∀ K Q, (∀ a' w' m', RelM C U' (s'.app o.dst u) a' w' m' → K a' w') → o.wp P a w K Q
theorem NOp.of {ids : List Nat} {o : Oper} {f : Nat} {r : AV} (h : GOp P ids s o r) : NOp P ids s o f ⟨r, []⟩ := by
 refine ⟨fun s' ha C U U' a w m hR hU hU' hd K Q hK => ?_⟩;obtain ⟨v, hrun, hr⟩ := h.run s' ha C U a w m hR;unfold Oper.wp;rw [hrun];exact hK _ _ m ((hR.setSlot hd hr).weaken rfl (fun _ => .inr rfl) (fun _ _ h => h) (fun j hj => (hU' j hj).1))
theorem NOp.value {ids : List Nat} {o : Oper} {f : Nat} {u : Upd}
  (h : ∀ s', Agr ids o s s' → ∀ C U U' a w m, RelM C U s' a w m → (∀ k, k < 8 → U (f + k)) → (∀ j, U' j → U j ∧ (j < f ∨ f + 8 ≤ j)) → dstOk o.dst s'.n = true → ∃ v w' m', (execOp a.eval o).run P w = .ok (.value v) w' ∧ RelM C U' (s'.app o.dst u) (a.put o.dst v) w' m') : NOp P ids s o f u := by
 refine ⟨fun s' ha C U U' a w m hR hU hU' hd K Q hK => ?_⟩;obtain ⟨v, w', m', hrun, hr⟩ := h s' ha C U U' a w m hR hU hU' hd;unfold Oper.wp;rw [hrun];exact hK _ _ m' hr
theorem optEv_run {ids : List Nat} {o : Oper} {s' : ASt} (ha : Agr ids o s s') {C : Ctx} {U : Nat → Prop} {a : Act} {w : World} {m : Nat → Option (Option Nat × Nat)} (hR : RelM C U s' a w m) {lo : Option Operand} {d l : Nat} (h : OptEv s lo d l) (hm : ∀ x, lo = some x → x ∈ o.op.operands) :
  lo.map a.eval = none ∧ l = d ∨ lo.map a.eval = some (.int .i64 (l : Int)) := by
 cases h with
 | none => exact .inl ⟨rfl, rfl⟩
 | some h1 h2 =>
  rename_i x I;have := hR.ev x;rw [ha.2.1 x (hm x rfl), h1] at this;exact .inr (by simp [this.val_eq.1, h2])
theorem run_bounds {isS : Bool} {len cap l h mm : Nat} {lo hi mx : Option Value} (hlo : lo = none ∧ l = 0 ∨ lo = some (.int .i64 (l : Int))) (hhi : hi = none ∧ h = len ∨ hi = some (.int .i64 (h : Int))) (hmx : mx = none ∧ mm = cap ∨ mx = some (.int .i64 (mm : Int)) ∧ hi ≠ none) (h1 : l ≤ h) (h2 : h ≤ mm) (h3 : mm ≤ cap) (w : World) :
  (Instr.sliceBounds isS len cap lo hi mx).run P w = .ok (l, h, mm) w := by
 have sb : ∀ (i y : Nat) (c : BoundsCode), i ≤ y → (Instr.sliceBound (.int .i64 (i : Int)) y c).run P w = .ok i w := fun i y c hi => by
  have := run_sliceBound (P := P) w .i64 (i : Int) y c (by omega) (by omega);simpa using this
 rcases hmx with ⟨rfl, rfl⟩ | ⟨rfl, hne⟩ <;> rcases hhi with ⟨rfl, rfl⟩ | rfl <;> rcases hlo with ⟨rfl, rfl⟩ | rfl <;>
  first
   | exact absurd rfl hne
   | simp [Instr.sliceBounds, sb _ _ _ h1, sb _ _ _ h2, sb _ _ _ h3]
theorem g_slice_str {lo hi : Option Operand} {st r : ByteArray} {l h n bt : Nat} {zs : List ZK} (ht : PT.ty P t = some ⟨.string, n, bt, zs⟩) (hx : s.ev x = aS st) (hlo : OptEv s lo 0 l) (hhi : OptEv s hi st.size h) (h1 : l ≤ h) (h2 : h ≤ st.size) (hr : st.extract l h = r) :
  GOp P [] s ⟨dst, .slice t x lo hi none, ty, pos, af, gd⟩ (aS r) := by
 subst hr;refine ⟨fun s' ha C U a w m hR => ?_⟩;have hv := hR.ev x;rw [ha.2.1 x (by simp [Op.operands]), hx] at hv;obtain ⟨e1, o1⟩ := hv.val_eq;have hb := run_bounds (P := P) (isS := false) (len := st.size) (cap := st.size) (mx := none) (mm := st.size) (optEv_run ha hR hlo (by rintro x rfl; simp [Op.operands])) (optEv_run ha hR hhi (by rintro x rfl; simp [Op.operands])) (.inl ⟨rfl, rfl⟩) h1 h2 (Nat.le_refl _) w;refine ⟨.string (st.extract l h), ?_, .d (.val ?_)⟩
 ·simp only [execOp, Sem.run_bind, e1, Option.map_none, run_sliceAt_string w t (.string st) (lo.map a.eval) (hi.map a.eval) none (PT.string ht)];simp [Instr.slice, run_underlying (PT.string ht), hb]
 show (st.extract l h).size ≤ maxLen;have : st.size ≤ maxLen := o1;simp only [ByteArray.size_extract]; omega
theorem view_sub {F : Nat → Prop} {w : World} {e e2 sz b off cap : Nat} {arr : Array Value} {fz : Nat × Nat} {els : List (List DV)} (hF : F b) (hb : w.heap[b]? = some (.cells arr e2 fz)) (h1 : els.length ≤ cap) (h2 : cap ≤ maxLen) (h3 : off + cap * sz ≤ arr.size)
  (h4 : ∀ (i : Nat) (cs : List DV), els[i]? = some cs → cs.length = sz) (h5 : ∀ (i : Nat) (cs : List DV) (j : Nat) (d : DV), els[i]? = some cs → cs[j]? = some d → DRep F w d (arr.getD (off + i * sz + j) undef)) {l h mm : Nat} (hl : l ≤ h) (hh : h ≤ els.length) (hm : h ≤ mm) (hc : mm ≤ cap) :
  DRep F w (.view e sz ((els.take h).drop l)) (.slice (some ⟨b, if mm = l then off else off + l * sz, none⟩) (h - l) (mm - l)) := by
 have hlen : ((els.take h).drop l).length = h - l := by simp; omega
 have := DRep.view (F := F) (w := w) (e := e) (sz := sz) (els := (els.take h).drop l) (b := b) (off := if mm = l then off else off + l * sz) (cap := mm - l) hF hb (by omega) (by omega) ?_ (fun i cs hi => ?_) (fun i cs j d hi hj => ?_)
 ·rwa [hlen] at this
 ·split
  ·rename_i e; subst e; have := Nat.zero_le (cap * sz); simp; omega
  have : mm * sz ≤ cap * sz := Nat.mul_le_mul_right _ hc;have h6 : (mm - l) * sz = mm * sz - l * sz := Nat.sub_mul _ _ _;have : l * sz ≤ mm * sz := Nat.mul_le_mul_right _ (by omega);omega
 ·rw [List.getElem?_drop, List.getElem?_take] at hi
  split at hi
  ·exact h4 _ _ hi
  cases hi
 have hi' := (List.getElem?_eq_some_iff.1 hi).1;rw [hlen] at hi';rw [if_neg (by omega)];rw [List.getElem?_drop, List.getElem?_take] at hi
 split at hi
 ·have := h5 _ _ j d hi hj;have e : off + l * sz + i * sz + j = off + (l + i) * sz + j := by rw [Nat.add_mul]; omega
  rwa [e]
 cases hi
theorem run_sliceS {e n bt sz : Nat} {zs : List ZK} (ht : PT.ty P t = some ⟨.slice e, n, bt, zs⟩) {te : TS} (he : PT.ty P e = some te) (hs : te.size = sz) {w : World} {A : Option Addr} {len cap l h mm : Nat} {lo hi mx : Option Value} (hb : (Instr.sliceBounds true len cap lo hi mx).run P w = .ok (l, h, mm) w) :
  (Instr.sliceAt t (.slice A len cap) lo hi mx).run P w = .ok (.slice (if mm = l then A else A.map (·.add (l * sz))) (h - l) (mm - l)) w := by
 have hu := PT.slice ht;rw [run_sliceAt_slice w t _ lo hi mx (elem_slice hu)];simp [Instr.slice, run_underlying hu, hb, PT.runSize he, hs]
theorem g_slice_view {e e' n bt sz : Nat} {zs : List ZK} {te : TS} {lo hi : Option Operand} {els r : List (List DV)} {l h : Nat} (ht : PT.ty P t = some ⟨.slice e, n, bt, zs⟩) (he : PT.ty P e = some te) (hs : te.size = sz) (hx : s.ev x = .d (.view e' sz els)) (hlo : OptEv s lo 0 l) (hhi : OptEv s hi els.length h) (h1 : l ≤ h) (h2 : h ≤ els.length) (hr : (els.take h).drop l = r) :
  GOp P [] s ⟨dst, .slice t x lo hi none, ty, pos, af, gd⟩ (.d (.view e' sz r)) := by
 subst hr;refine ⟨fun s' ha C U a w m hR => ?_⟩;have hv := hR.ev x;rw [ha.2.1 x (by simp [Op.operands]), hx] at hv;have olo := optEv_run ha hR hlo (by rintro x rfl; simp [Op.operands]);have ohi := optEv_run ha hR hhi (by rintro x rfl; simp [Op.operands]);generalize hvv : a.eval x = v at hv;cases hv with
 | d hv =>
  cases hv with
  | nil =>
   have hb := run_bounds (P := P) (isS := true) (len := 0) (cap := 0) (mx := none) (mm := 0) olo ohi (.inl ⟨rfl, rfl⟩) h1 h2 (Nat.le_refl _) w;have h0 : h = 0 := by simpa using h2
   have hl0 : l = 0 := by omega
   subst h0; subst hl0;refine ⟨.slice none 0 0, ?_, .d .nil⟩;simp only [execOp, Sem.run_bind, hvv, Option.map_none, run_sliceS ht he hs hb, Result.andThen_ok, Sem.run_pure];simp
  | empty =>
   rename_i ad;have hb := run_bounds (P := P) (isS := true) (len := 0) (cap := 0) (mx := none) (mm := 0) olo ohi (.inl ⟨rfl, rfl⟩) h1 h2 (Nat.le_refl _) w;have h0 : h = 0 := by simpa using h2
   have hl0 : l = 0 := by omega
   subst h0; subst hl0;refine ⟨.slice (some ad) 0 0, ?_, .d .empty⟩;simp only [execOp, Sem.run_bind, hvv, Option.map_none, run_sliceS ht he hs hb, Result.andThen_ok, Sem.run_pure];simp
  | view hF hb h3 h4 h5 h6 h7 =>
   rename_i b off cap arr fz;have hbd := run_bounds (P := P) (isS := true) (len := els.length) (cap := cap) (mx := none) (mm := cap) olo ohi (.inl ⟨rfl, rfl⟩) h1 (by omega) (Nat.le_refl _) w;refine ⟨_, ?_, .d (view_sub hF hb h3 h4 h5 h6 h7 h1 h2 (by omega) (Nat.le_refl _))⟩;simp only [execOp, Sem.run_bind, hvv, Option.map_none, run_sliceS ht he hs hbd, Result.andThen_ok, Sem.run_pure]
   split <;> simp [addr_add]
theorem g_slice_own {e n bt sz id k : Nat} {zs : List ZK} {te : TS} {hi : Option Operand} {h : Nat} (ht : PT.ty P t = some ⟨.slice e, n, bt, zs⟩) (he : PT.ty P e = some te) {els : List (List DV)} {e' : Nat} (hx : s.ev x = .own id k) (hc : s.chunk id = some (.arr e' sz els)) (hhi : OptEv s hi k h) (h2 : h ≤ els.length) :
    GOp P [id] s ⟨dst, .slice t x none hi none, ty, pos, af, gd⟩ (.own id h) := by
  refine ⟨fun s' ha C U a w m hR => ?_⟩;have hv := hR.ev x;rw [ha.2.1 x (by simp [Op.operands]), hx] at hv;have hc' : s'.chunk id = some (.arr e' sz els) := by rw [ha.2.2 id (by simp)]; exact hc
  have ohi := optEv_run ha hR hhi (by rintro x rfl; simp [Op.operands]);generalize hvv : a.eval x = v at hv;cases hv with
  | own hp h0 =>
    rename_i cap b
    have hle : els.length ≤ cap := by
      cases hR.chunkAt hc' hp with
      | arr _ _ _ h _ => exact h
      | nil => simp
    have hb := run_bounds (P := P) (isS := true) (len := k) (cap := cap) (lo := none) (mx := none) (l := 0) (mm := cap) (.inl ⟨rfl, rfl⟩) ohi (.inl ⟨rfl, rfl⟩) (Nat.zero_le _) (by omega) (Nat.le_refl _) w
    refine ⟨_, ?_, .own hp (fun hb => by have h1 := h0 hb; have : els.length = 0 := by omega
                                         exact ⟨by omega, h1.2⟩)⟩
    simp only [execOp, Sem.run_bind, hvv, Option.map_none, run_sliceS ht he rfl hb, Result.andThen_ok, Sem.run_pure];cases b <;> split <;> simp [addr_add]
end
inductive DVIs : DV → AV → Prop
 | same {x : DV} : DVIs x (.d x)
 | nil {e sz : Nat} : DVIs (.view e sz []) (.d (.val (.slice none 0 0)))
def setSeg (arr : Array Value) : Nat → List Value → Array Value
 | _, [] => arr
 | o, v :: vs => setSeg (arr.setIfInBounds o v) (o + 1) vs
theorem setSeg_size : ∀ (vs : List Value) (arr : Array Value) (o : Nat), (setSeg arr o vs).size = arr.size
 | [], arr, o => rfl
 | v :: vs, arr, o => by simp [setSeg, setSeg_size vs]
theorem setSeg_get : ∀ (vs : List Value) (arr : Array Value) (o : Nat), o + vs.length ≤ arr.size → ∀ i, (setSeg arr o vs).getD i undef = if o ≤ i ∧ i < o + vs.length then vs.getD (i - o) undef else arr.getD i undef
 | [], arr, o, h, i => by simp [setSeg]; omega
 | v :: vs, arr, o, h, i => by
  simp only [List.length_cons] at h ⊢;rw [setSeg, setSeg_get vs _ _ (by simp; omega) i]
  by_cases h1 : o + 1 ≤ i ∧ i < o + 1 + vs.length
  ·rw [if_pos h1, if_pos (by omega)];have : i - o = (i - (o + 1)) + 1 := by omega
   rw [this]; simp
  rw [if_neg h1]
  by_cases h2 : i = o
  ·subst h2;rw [if_pos (by omega)];have : i < arr.size := by omega
   simp [this]
  rw [if_neg (by omega)];simp [Array.getElem?_setIfInBounds_ne (Ne.symm h2)]
theorem heap_setCell_at {w : World} {b t : Nat} {arr : Array Value} {fz : Nat × Nat} (h : w.heap[b]? = some (.cells arr t fz)) (o : Nat) (v : Value) : (w.setCell ⟨b, o, none⟩ v).heap[b]? = some (.cells (arr.setIfInBounds o v) t fz) := by
 have hlt := lt_of_block h;have h' : w.heap[b] = .cells arr t fz := by simpa [Array.getElem?_eq_getElem hlt] using h
 show (w.heap.modify b _)[b]? = _;rw [Array.getElem?_eq_getElem (by simpa using hlt), Array.getElem_modify_self, h'];simp
theorem heap_setCells_at {b t : Nat} {fz : Nat × Nat} : ∀ (vs : List Value) (w : World) (arr : Array Value) (o : Nat), w.heap[b]? = some (.cells arr t fz) → (w.setCells b o vs).heap[b]? = some (.cells (setSeg arr o vs) t fz)
 | [], w, arr, o, h => h
 | v :: vs, w, arr, o, h => by
  have := heap_setCells_at vs (w.setCell ⟨b, o, none⟩ v) _ (o + 1) (heap_setCell_at h o v);simpa [World.setCells, setSeg] using this
theorem fr_setCells {b : Nat} : ∀ (vs : List Value) (w : World) (o : Nat), Fr [b] w (w.setCells b o vs)
 | [], w, o => Fr.refl _ _
 | v :: vs, w, o => by
  have h1 : Fr [b] w (w.setCell ⟨b, o, none⟩ v) := (Fr.refl [b] w).setCell (p := ⟨b, o, none⟩) (.inl (by simp)) v;have := h1.trans (fr_setCells vs (w.setCell ⟨b, o, none⟩ v) (o + 1));simpa [World.setCells] using this
section
variable {P : Program} [PT P]
variable {s : ASt} {dst : Option Nat} {ty : Nat} {pos : String} {af : Array Edge} {gd : Option (Nat × Bool)} {x y : Operand} {t f : Nat} {ts : TS}
theorem h_box {cs : List AV} (h : (s.ev x).cells? = some cs) : NOp P [] s ⟨dst, .box t x, ty, pos, af, gd⟩ f ⟨.ptr f 0, [(f, some (.cells t cs))]⟩ := by
 refine NOp.value fun s' ha C U U' a w m hR hU hU' hd => ?_
 have hv := hR.ev x;rw [ha.2.1 x (by simp [Op.operands])] at hv;obtain ⟨h1, h2, h3⟩ := cells_rep hv h;exact ⟨_, _, _, by simp [execOp, Instr.box, newVar, newRow], hR.newCells hd (by simpa using hU 0 (by omega)) (fun j hj => by have := hU' j hj; exact ⟨this.1, by omega⟩) h1 h2 h3⟩
theorem RelM.fresh {C : Ctx} {U : Nat → Prop} {a : Act} {w : World} {m : Nat → Option (Option Nat × Nat)} (h : RelM C U s a w m) {i : Option Nat} (hd : dstOk i s.n = true) {r : AV} {v : Value} (o : Obj)
  (hr : ∀ F', (∀ k, Fz C m s w k → F' k ∧ (w.alloc o).heap[k]? = w.heap[k]?) → F' w.heap.size → ARep m F' (w.alloc o) r v) : RelM C U (s.app i ⟨r, []⟩) (a.put i v) (w.alloc o) m := by
 have hch : ∀ id c p b, s.chunk id = some c → m id = some p → occ p c b → b < w.heap.size := by
  intro id c p b hc hp hb;obtain ⟨q, hq, hr, _⟩ := h.ch id c hc;rw [hp] at hq;obtain rfl : p = q := by simpa using hq
  exact hr.lt hb
 refine h.step hd (MLe.refl m) h.un (h.fr.alloc o) (by simp) (fun k hk => ⟨fun id c p hc => by simp [getL] at hc, Below.heap_alloc w o k hk.2.1⟩) (fun id c p b _ hc hp hb => Below.heap_alloc w o _ (hch id c p b hc hp hb)) (fun F' hF hF2 => ⟨hr F' hF (hF2 _ (.inr (.inr h.fr.size)) (by simp) (fun id c p hc hp hb => ?_)), fun id c hc => by simp [getL] at hc⟩) (fun id id' c c' p p' b hc => by simp [getL] at hc);rw [ASt.chunk_app] at hc;have := hch id c p _ (by simpa [getL] using hc) hp hb;omega
theorem h_boxF {cs : List AV} {ds : List DV} (h : (s.ev x).cells? = some cs) (hds : dvs cs = some ds) : NOp P [] s ⟨dst, .box t x, ty, pos, af, gd⟩ f ⟨.d (.ref ds), []⟩ := by
 refine NOp.value fun s' ha C U U' a w m hR hU hU' hd => ?_
 have hv := hR.ev x;rw [ha.2.1 x (by simp [Op.operands])] at hv;obtain ⟨h1, h2, h3⟩ := cells_rep hv h;have hcs := dvs_eq hds;subst hcs;refine ⟨_, _, _, by simp [execOp, Instr.box, newVar, newRow]; exact ⟨rfl, rfl⟩, (hR.fresh hd _ (fun F' hF hn => .d (.ref hn (heap_alloc_new w _) (by simp at h1; omega) (fun j d hj => ?_)))).weaken rfl (fun _ => .inr rfl) (fun _ _ h => h) (fun j hj => (hU' j hj).1)⟩;have := h2 j (.d d) (by rw [List.getElem?_map, hj]; rfl);cases this with
 | d hd => rw [Nat.zero_add]; exact hd.turn (fun k hk _ => hF k hk)
theorem h_alloc (ht : PT.ty P t = some ts) : NOp P [] s ⟨dst, .alloc t, ty, pos, af, gd⟩ f ⟨.ptr f 0, [(f, some (.cells t (ts.zero.map ZK.av)))]⟩ := by
 refine NOp.value fun s' ha C U U' a w m hR hU hU' hd => ?_
 obtain ⟨i, d, z, hi, hd', hk, h1, h2, h3, h4⟩ := PT.facts ht;refine ⟨.pointer (some ⟨w.heap.size, 0, none⟩), w.alloc (.cells z.cells t (0, 0)), _, ?_, hR.newCells hd (by simpa using hU 0 (by omega)) (fun j hj => by have := hU' j hj; exact ⟨this.1, by omega⟩) (by rw [h4]; simp) (fun i c hc => ?_) (fun i hi => ?_)⟩
 ·simp [execOp, Instr.alloc, zeroValue, typeInfo, hi, h3, newVar, newRow]
 ·rw [List.getElem?_map, Option.map_eq_some_iff] at hc;obtain ⟨k, hk, rfl⟩ := hc;have : z.cells.getD i undef = k.val := by rw [h4]; simp [Array.getD_eq_getD_getElem?, hk]
  rw [this];exact .d (.val k.ok)
 rw [h4] at hi ⊢;have hi' : i < ts.zero.length := by simpa using hi
 simp only [Array.getD_eq_getD_getElem?, List.getElem?_toArray, List.getElem?_map, List.getElem?_eq_getElem hi', Option.map_some, Option.getD_some];exact (ZK.ok _).one
def setL {α : Type} : List α → Nat → List α → List α
 | l, _, [] => l
 | l, k, v :: vs => setL (l.set k v) (k + 1) vs
theorem setL_get {α : Type} : ∀ (vs l : List α) (k : Nat), k + vs.length ≤ l.length → ∀ i, (setL l k vs)[i]? = if k ≤ i ∧ i < k + vs.length then vs[i - k]? else l[i]?
 | [], l, k, h, i => by simp [setL]; omega
 | v :: vs, l, k, h, i => by
  simp only [List.length_cons] at h ⊢;rw [setL, setL_get vs _ _ (by simp; omega) i]
  by_cases h1 : k + 1 ≤ i ∧ i < k + 1 + vs.length
  ·rw [if_pos h1, if_pos (by omega)];have : i - k = (i - (k + 1)) + 1 := by omega
   rw [this]; simp
  rw [if_neg h1]
  by_cases h2 : i = k
  ·subst h2;rw [if_pos (by omega)];simp [show i < l.length by omega]
  rw [if_neg (by omega)];simp [List.getElem?_set_ne (Ne.symm h2)]
theorem setL_length {α : Type} : ∀ (vs l : List α) (k : Nat), (setL l k vs).length = l.length
 | [], l, k => rfl
 | v :: vs, l, k => by simp [setL, setL_length vs]
theorem run_storeAt {w : World} {b o e : Nat} {arr : Array Value} {fz : Nat × Nat} (ht : PT.ty P t = some ts) (hb : w.heap[b]? = some (.cells arr e fz)) (hf : ∀ k, k < arr.size → ¬ (fz.1 ≤ k ∧ k < fz.2)) {v : Value} (hs : v.cells.size = ts.size) (hle : o + ts.size ≤ arr.size)
  (h1 : ∀ i, i < v.cells.size → (v.cells.getD i undef).oneCell' = true) : (Instr.storeAt t (.pointer (some ⟨b, o, none⟩)) v).run P w = .ok () (w.setCells b o v.cells.toList) := by
 have := run_storeCells_cells (P := P) b o v.cells.toList 0 w (fun j hj => ?_) (fun j hj => ?_) (fun u hu => ?_)
 ·simp only [Instr.storeAt, Instr.sureAddr, storeVar, Sem.run_bind, Sem.run_pure, Result.andThen_ok, PT.runSize ht, hs];simpa using this
 ·simp only [Array.length_toList] at hj;rw [cell_getD hb (by omega)]; rfl
 ·simp only [Array.length_toList] at hj;have := hf (o + 0 + j) (by omega);simp only [World.frozen?, hb];simp only [Nat.not_lt, not_and] at this
  by_cases hh : fz.1 ≤ o + 0 + j
  ·have := this hh;simp only [Bool.and_eq_false_iff, decide_eq_false_iff_not]; right; omega
  simp only [Bool.and_eq_false_iff, decide_eq_false_iff_not]; left; omega
 obtain ⟨i, hi⟩ := List.getElem?_of_mem hu;have hlt := (List.getElem?_eq_some_iff.1 hi).1;have := h1 i (by simpa using hlt);rw [Array.getD_eq_getD_getElem?, ← Array.getElem?_toList, hi] at this;exact this
theorem toList_getD (v : Array Value) (i : Nat) : v.toList.getD i undef = v.getD i undef := by simp [Array.getD_eq_getD_getElem?, List.getD]
theorem h_store {id k tt : Nat} {cs vs : List AV} (ht : PT.ty P t = some ts) (hx : s.ev x = .ptr id k) (hc : s.chunk id = some (.cells tt cs)) (hy : (s.ev y).cells? = some vs) (hl : vs.length = ts.size) (hk : Nat.ble (k + vs.length) cs.length = true) :
  NOp P [id] s ⟨dst, .store t x y, ty, pos, af, gd⟩ f ⟨.dead, [(id, some (.cells tt (setL cs k vs)))]⟩ := by
 refine ⟨fun s' ha C U U' a w m hR hU hU' hd K Q hK => ?_⟩;have hxr := hR.ev x;rw [ha.2.1 x (by simp [Op.operands]), hx] at hxr;have hyr := hR.ev y;rw [ha.2.1 y (by simp [Op.operands])] at hyr;have hc' : s'.chunk id = some (.cells tt cs) := by rw [ha.2.2 id (by simp)]; exact hc
 obtain ⟨g1, g2, g3⟩ := cells_rep hyr hy;have hk : k + vs.length ≤ cs.length := by simpa using hk
 generalize hxv : a.eval x = xv at hxr;cases hxr with
 | ptr hp =>
  rename_i b cap;have hC := hR.chunkAt hc' hp;cases hC with
  | cells hb hs he h1 =>
   rename_i arr;have hrun := run_storeAt (P := P) (o := k) ht hb (fun k _ => by simp) (v := a.eval y) (by omega) (by omega) g3
   have hg : ∀ i, (setSeg arr k (a.eval y).cells.toList).getD i undef = if k ≤ i ∧ i < k + vs.length then (a.eval y).cells.getD (i - k) undef else arr.getD i undef := by
    intro i;rw [setSeg_get _ _ _ (by simp; omega) i];simp only [Array.length_toList, g1, toList_getD]
   have hR' := hR.turned (i := dst) (r := .dead) (v := undef) (w' := w.setCells b k (a.eval y).cells.toList) (c' := .cells tt (setL cs k vs)) hd hc' hp (fr_setCells _ w k) (fun F' hF => ⟨.dead, .cells (heap_setCells_at _ w _ k hb) (by rw [setSeg_size, setL_length]; exact hs) (fun i c hi => ?_) (fun i hi => ?_)⟩)
   ·unfold Oper.wp;simp only [execOp, Sem.run_bind, hxv, hrun, Result.andThen_ok, Sem.run_pure, Oper.upon];exact hK _ _ m (hR'.weaken rfl (fun _ => .inr rfl) (fun _ _ h => h) (fun j hj => (hU' j hj).1))
   ·rw [hg];rw [setL_get _ _ _ hk] at hi
    split
    ·rename_i hh;rw [if_pos hh] at hi;exact (g2 _ _ hi).turn (MLe.refl m) (fun k hk _ => hF k hk)
    rename_i hh;rw [if_neg hh] at hi;exact (he _ _ hi).turn (MLe.refl m) (fun k hk _ => hF k hk)
   rw [hg];rw [setSeg_size] at hi
   by_cases hh : k ≤ i ∧ i < k + vs.length
   ·rw [if_pos hh]; exact g3 _ (by omega)
   rw [if_neg hh]; exact h1 _ hi
theorem h_store_arr {id k e sz i j : Nat} {els : List (List DV)} {cs : List DV} {d : DV} (ht : PT.ty P t = some ts) (h1s : ts.size = 1) (hx : s.ev x = .ptr id k) (hc : s.chunk id = some (.arr e sz els)) (hy : DVIs d (s.ev y)) (hk : k = i * sz + j) (hi : els[i]? = some cs) (hj : j < sz) :
  NOp P [id] s ⟨dst, .store t x y, ty, pos, af, gd⟩ f ⟨.dead, [(id, some (.arr e sz (els.set i (cs.set j d))))]⟩ := by
 refine ⟨fun s' ha C U U' a w m hR hU hU' hd K Q hK => ?_⟩;have hxr := hR.ev x;rw [ha.2.1 x (by simp [Op.operands]), hx] at hxr;have hyr := hR.ev y;rw [ha.2.1 y (by simp [Op.operands])] at hyr;have hc' : s'.chunk id = some (.arr e sz els) := by rw [ha.2.2 id (by simp)]; exact hc
 have hyd : DRep (Fz C m s' w) w d (a.eval y) := by
  generalize s.ev y = z at hyr hy;cases hy with
  | same => cases hyr with | d h => exact h
  | nil => rw [hyr.val_eq.1]; exact .nil
 have hone := hyd.one
 have hcells : (a.eval y).cells = #[a.eval y] := by
  generalize a.eval y = v at hone;cases v <;> first | rfl | cases hone
 generalize hxv : a.eval x = xv at hxr;cases hxr with
 | ptr hp =>
  rename_i b cap;have hC := hR.chunkAt hc' hp;cases hC with
  | arr hb hf hs hl hm h0 hsz he =>
   rename_i arr fz;have hlt := (List.getElem?_eq_some_iff.1 hi).1;have hcs := hsz i cs hi
   have hin : i * sz + j < arr.size := by
    have : (i + 1) * sz ≤ cap * sz := Nat.mul_le_mul_right _ (by omega);rw [Nat.succ_mul] at this;omega
   have hrun := run_storeAt (P := P) (o := k) ht hb hf (v := a.eval y) (by rw [hcells, h1s]; rfl) (by omega) (fun i hi => by rw [hcells] at hi ⊢; simp at hi; subst hi; exact hone)
   have hg : ∀ q, (setSeg arr k (a.eval y).cells.toList).getD q undef = if q = k then a.eval y else arr.getD q undef := by
    intro q;rw [setSeg_get _ _ _ (by rw [hcells]; simp; omega) q, hcells]
    by_cases hq : q = k
    ·subst hq; simp
    rw [if_neg (by simp; omega), if_neg hq]
   have hR' := hR.turned (i := dst) (r := .dead) (v := undef) (w' := w.setCells b k (a.eval y).cells.toList) (c' := .arr e sz (els.set i (cs.set j d))) hd hc' hp (fr_setCells _ w k) (fun F' hF => ⟨.dead, .arr (heap_setCells_at _ w _ k hb) (by rw [setSeg_size]; exact hf) (by rw [setSeg_size]; exact hs) (by simpa using hl) hm h0 (fun i' cs' hi' => ?_) (fun i' cs' j' d' hi' hj' => ?_)⟩)
   ·unfold Oper.wp;simp only [execOp, Sem.run_bind, hxv, hrun, Result.andThen_ok, Sem.run_pure, Oper.upon];exact hK _ _ m (hR'.weaken rfl (fun _ => .inr rfl) (fun _ _ h => h) (fun j hj => (hU' j hj).1))
   ·by_cases hii : i = i'
    ·subst hii;rw [List.getElem?_set_self hlt] at hi';simp only [Option.some.injEq] at hi';subst hi'; simpa using hcs
    rw [List.getElem?_set_ne hii] at hi';exact hsz i' cs' hi'
   rw [hg]
   by_cases hii : i = i'
   ·subst hii;rw [List.getElem?_set_self hlt] at hi';simp only [Option.some.injEq] at hi';subst hi'
    by_cases hjj : j = j'
    ·subst hjj;rw [if_pos hk.symm];rw [List.getElem?_set_self (by omega)] at hj';simp only [Option.some.injEq] at hj';subst hj';exact hyd.turn (fun k hk _ => hF k hk)
    rw [if_neg (by omega)];rw [List.getElem?_set_ne hjj] at hj';exact (he i cs j' d' hi hj').turn (fun k hk _ => hF k hk)
   have hj2 : j' < sz := by
    rw [List.getElem?_set_ne hii] at hi';have := hsz i' cs' hi';have := (List.getElem?_eq_some_iff.1 hj').1;simpa [‹cs'.length = sz›] using this
   rw [List.getElem?_set_ne hii] at hi';rw [if_neg]
   ·exact (he i' cs' j' d' hi' hj').turn (fun k hk _ => hF k hk)
   rw [hk];intro heq;rcases Nat.lt_or_gt_of_ne hii with h | h
   ·have : (i + 1) * sz ≤ i' * sz := Nat.mul_le_mul_right _ h;rw [Nat.succ_mul] at this;omega
   have : (i' + 1) * sz ≤ i * sz := Nat.mul_le_mul_right _ h;rw [Nat.succ_mul] at this;omega
theorem h_store_arr1 {id k e : Nat} {els : List (List DV)} {d cs'0 : DV} (ht : PT.ty P t = some ts) (h1s : ts.size = 1) (hx : s.ev x = .ptr id k) (hc : s.chunk id = some (.arr e 1 els)) (hy : DVIs d (s.ev y)) (hi : els[k]? = some [cs'0]) :
  NOp P [id] s ⟨dst, .store t x y, ty, pos, af, gd⟩ f ⟨.dead, [(id, some (.arr e 1 (els.set k [d])))]⟩ := h_store_arr (i := k) (j := 0) ht h1s hx hc hy (by simp) hi (by omega)
end
section
variable {P : Program} [PT P]
variable {s : ASt} {dst : Option Nat} {ty : Nat} {pos : String} {af : Array Edge} {gd : Option (Nat × Bool)} {x y : Operand} {t f : Nat} {ts : TS}
def buildAV (fs : List (Nat × Nat)) : List (Nat × AV) → List AV → Option (List AV)
 | [], cs => some cs
 | (i, x) :: rest, cs =>
  match fs[i]?, x.cells? with
  | some (off, sz), some vs => bif Nat.beq vs.length sz && Nat.ble (off + vs.length) cs.length then buildAV fs rest (setL cs off vs) else none
  | _, _ => none
theorem foldl_setSeg (o : Nat) : ∀ (vs : List Value) (k : Nat) (cs : Array Value), (vs.zipIdx k).foldl (fun cs (c, j) => cs.setIfInBounds (o + j) c) cs = setSeg cs (o + k) vs
 | [], k, cs => rfl
 | v :: vs, k, cs => by
  rw [List.zipIdx_cons, List.foldl_cons, foldl_setSeg o vs (k + 1)];simp [setSeg, Nat.add_assoc]
theorem build_rep {m : Nat → Option (Option Nat × Nat)} {F : Nat → Prop} {w : World} {fs : List (Nat × Nat)} {place : Nat → Option (Nat × Nat)} (hp : ∀ i, place i = fs[i]?) : ∀ (ps : List (Nat × AV)) (vs : List (Nat × Value)) (cs r : List AV) (arr : Array Value),
  ps.map (·.1) = vs.map (·.1) → (∀ (i : Nat) p v, ps[i]? = some p → vs[i]? = some v → ARep m F w p.2 v.2) → buildAV fs ps cs = some r → arr.size = cs.length → (∀ (i : Nat) (c : AV), cs[i]? = some c → ARep m F w c (arr.getD i undef)) → (∀ i, i < arr.size → (arr.getD i undef).oneCell' = true) →
  ∃ out, Instr.fill place arr vs = some out ∧ out.size = r.length ∧ (∀ (i : Nat) (c : AV), r[i]? = some c → ARep m F w c (out.getD i undef)) ∧ ∀ i, i < out.size → (out.getD i undef).oneCell' = true
 | [], vs, cs, r, arr, h1, h2, h3, h4, h5, h6 => by
  simp only [buildAV, Option.some.injEq] at h3;subst h3;cases vs with
  | nil => exact ⟨arr, rfl, h4, h5, h6⟩
  | cons v vs => simp at h1
 | (i, x) :: ps, vs, cs, r, arr, h1, h2, h3, h4, h5, h6 => by
  cases vs with
  | nil => simp at h1
  | cons v vs =>
   obtain ⟨i', v⟩ := v;simp only [List.map_cons, List.cons.injEq] at h1;obtain ⟨rfl, h1⟩ := h1;simp only [buildAV] at h3;cases hf : fs[i]? with
   | none => simp [hf] at h3
   | some p =>
    obtain ⟨off, sz⟩ := p;cases hc : x.cells? with
    | none => simp [hf, hc] at h3
    | some us =>
     simp only [hf, hc] at h3;cases hb : (Nat.beq us.length sz && Nat.ble (off + us.length) cs.length) with
     | false => simp [hb] at h3
     | true =>
      simp only [hb, cond_true] at h3;simp only [Bool.and_eq_true] at hb;have hsz : us.length = sz := by simpa using hb.1
      have hle : off + us.length ≤ cs.length := by simpa using hb.2
      have hv := h2 0 _ _ rfl rfl;obtain ⟨g1, g2, g3⟩ := cells_rep hv hc
      have hg : ∀ i, (setSeg arr off v.cells.toList).getD i undef = if off ≤ i ∧ i < off + us.length then v.cells.getD (i - off) undef else arr.getD i undef := by
       intro i;rw [setSeg_get _ _ _ (by simp; simp only at g1; omega) i];simp only [Array.length_toList, toList_getD];simp only at g1;rw [g1]
      have hq := build_rep hp ps vs (setL cs off us) r (setSeg arr off v.cells.toList) h1 (fun i p u hpi hui => h2 (i + 1) p u (by simpa using hpi) (by simpa using hui)) h3 (by rw [setSeg_size, setL_length]; exact h4) (fun i c hi => ?_) (fun i hi => ?_)
      ·obtain ⟨out, q1, q2, q3, q4⟩ := hq;refine ⟨out, ?_, q2, q3, q4⟩;simp only [Instr.fill, hp, hf];simp only at g1;have e1 : ¬ (v.cells.size ≠ sz) := by omega
       have e2 : ¬ (off + v.cells.size > arr.size) := by omega
       simp only [g1, hsz, e2];rw [← hsz, ← g1];simp only [ne_eq, not_true_eq_false, decide_false, Bool.or_self, Bool.false_eq_true, if_false];have := foldl_setSeg off v.cells.toList 0 arr;rw [Nat.add_zero] at this;rw [← this] at q1;have h9 : off + v.cells.size ≤ arr.size := by omega
       simpa [← Array.toList_zipIdx, h9] using q1
      ·rw [hg];rw [setL_get _ _ _ hle] at hi
       by_cases hh : off ≤ i ∧ i < off + us.length
       ·rw [if_pos hh] at hi ⊢; exact g2 _ _ hi
       rw [if_neg hh] at hi ⊢; exact h5 _ _ hi
      rw [hg];rw [setSeg_size] at hi
      by_cases hh : off ≤ i ∧ i < off + us.length
      ·rw [if_pos hh]; exact g3 _ (by show i - off < v.cells.size; have g1' : v.cells.size = us.length := g1; omega)
      rw [if_neg hh]; exact h6 _ hi
theorem places_of {F : List Field} {fs : List (Nat × Nat)} (h : F.map (fun f => (f.offset, P.cellsOf f.type)) = fs) (hz : fs.all (fun p => !Nat.beq p.2 0) = true) : F.mapM (fun f => (P.info? f.type).map fun i => (f.offset, i.size)) = some fs := by
 induction F generalizing fs with
 | nil => simp at h; subst h; rfl
 | cons fd F ih =>
  cases fs with
  | nil => simp at h
  | cons p fs =>
   simp only [List.map_cons, List.cons.injEq] at h;obtain ⟨rfl, h⟩ := h;simp only [List.all_cons, Bool.and_eq_true] at hz;obtain ⟨i, hi, hs⟩ := info_of_cells (P := P) (t := fd.type) (by have := hz.1; simp only [Bool.not_eq_true'] at this; exact Nat.ne_of_beq_eq_false this);simp [List.mapM_cons, hi, ih h hz.2, hs]
theorem g_build {n bt : Nat} {fs : List (Nat × Nat)} {zs : List ZK} {parts : Array (Nat × Operand)} {r : List AV} (ht : PT.ty P t = some ⟨.struct fs, n, bt, zs⟩) (hz : fs.all (fun p => !Nat.beq p.2 0) = true) (hb : buildAV fs (parts.toList.map fun p => (p.1, s.ev p.2)) (zs.map ZK.av) = some r) : GOp P [] s ⟨dst, .build t parts, ty, pos, af, gd⟩ (.agg r) := by
 refine ⟨fun s' ha C U a w m hR => ?_⟩;obtain ⟨F, hu, hF⟩ := PT.struct ht;obtain ⟨i, d, z, hi, hd', hk, h1, h2, h3, h4⟩ := PT.facts ht;have hpl := places_of hF hz;have hq := build_rep (m := m) (F := Fz C m s' w) (w := w) (place := fun i => fs.toArray[i]?) (by simp) (parts.toList.map fun p => (p.1, s.ev p.2)) (parts.toList.map fun p => (p.1, a.eval p.2)) (zs.map ZK.av) r z.cells (by simp) (fun i p v hp hv => ?_) hb (by rw [h4]; simp) (fun i c hc => ?_) (fun i hi => ?_)
 ·obtain ⟨out, q1, q2, q3, q4⟩ := hq;refine ⟨.agg out, ?_, .agg q2 q3 q4⟩
  have hbt : P.built t (parts.toList.map fun p => (p.1, a.eval p.2)) = some out := by
   unfold Program.built;simp only [hi, hu, h3, hpl];exact q1
  have := run_build (P := P) w t (parts.map fun p => (p.1, a.eval p.2)) out (by simpa using hbt);simp only [execOp, Sem.run_bind];rw [show (parts.map fun (i, x) => (i, a.eval x)) = parts.map fun p => (p.1, a.eval p.2) from rfl, this];simp
 ·rw [List.getElem?_map, Option.map_eq_some_iff] at hp hv;obtain ⟨p1, e1, rfl⟩ := hp;obtain ⟨p2, e2, rfl⟩ := hv;rw [e1] at e2;obtain rfl : p1 = p2 := by simpa using e2
  have := hR.ev p1.2
  have hmem : p1.2 ∈ (Op.build t parts).operands := by
   simp only [Op.operands, List.mem_toArray, List.mem_map];exact ⟨p1, List.mem_of_getElem? e1, rfl⟩
  rw [ha.2.1 _ hmem] at this;exact this
 ·rw [List.getElem?_map, Option.map_eq_some_iff] at hc;obtain ⟨k, hk, rfl⟩ := hc;have : z.cells.getD i undef = k.val := by rw [h4]; simp [Array.getD_eq_getD_getElem?, hk]
  rw [this];exact .d (.val k.ok)
 rw [h4] at hi ⊢;have hi' : i < zs.length := by simpa using hi
 simp only [Array.getD_eq_getD_getElem?, List.getElem?_toArray, List.getElem?_map, List.getElem?_eq_getElem hi', Option.map_some, Option.getD_some];exact (ZK.ok _).one
def litAV (sz : Nat) : Nat → List (Nat × AV) → Option (List (List DV))
 | _, [] => some []
 | k, (i, x) :: rest =>
  match x.cells? with
  | some vs => match dvs vs, litAV sz (k + 1) rest with
   | some ds, some r => bif Nat.beq i k && Nat.beq ds.length sz then some (ds :: r) else none
   | _, _ => none
  | none => none
theorem lit_rep {m : Nat → Option (Option Nat × Nat)} {F : Nat → Prop} {w : World} {sz : Nat} : ∀ (ps : List (Nat × AV)) (vs : List (Nat × Value)) (k : Nat) (els : List (List DV)),
  ps.map (·.1) = vs.map (·.1) → (∀ (i : Nat) p v, ps[i]? = some p → vs[i]? = some v → ARep m F w p.2 v.2) → litAV sz k ps = some els →
  els.length = vs.length ∧ vs = ((vs.map (·.2)).zipIdx k).map (fun x => (x.2, x.1)) ∧ (∀ v, v ∈ vs.map (·.2) → v.cells.size = sz) ∧ (∀ (i : Nat) cs, els[i]? = some cs → cs.length = sz) ∧ ∀ (i : Nat) (cs : List DV) (j : Nat) (d : DV) v, els[i]? = some cs → cs[j]? = some d → (vs.map (·.2))[i]? = some v → DRep F w d (v.cells.getD j undef)
 | [], vs, k, els, h1, h2, h3 => by
  simp only [litAV, Option.some.injEq] at h3;subst h3;cases vs with
  | nil => simp
  | cons v vs => simp at h1
 | (i, x) :: ps, vs, k, els, h1, h2, h3 => by
  cases vs with
  | nil => simp at h1
  | cons v vs =>
   obtain ⟨i', v⟩ := v;simp only [List.map_cons, List.cons.injEq] at h1;obtain ⟨rfl, h1⟩ := h1;simp only [litAV] at h3;cases hc : x.cells? with
   | none => simp [hc] at h3
   | some us =>
    cases hd : dvs us with
    | none => simp [hc, hd] at h3
    | some ds =>
     cases hl : litAV sz (k + 1) ps with
     | none => simp [hc, hd, hl] at h3
     | some r =>
      simp only [hc, hd, hl] at h3;cases hb : (Nat.beq i k && Nat.beq ds.length sz) with
      | false => simp [hb] at h3
      | true =>
       simp only [hb, cond_true, Option.some.injEq] at h3;subst h3;simp only [Bool.and_eq_true] at hb;have hik : i = k := by simpa using hb.1
       have hsz : ds.length = sz := by simpa using hb.2
       subst hik;obtain ⟨q1, q2, q3, q4, q5⟩ := lit_rep ps vs (i + 1) r h1 (fun i p u hpi hui => h2 (i + 1) p u (by simpa using hpi) (by simpa using hui)) hl;have hv := h2 0 _ _ rfl rfl;obtain ⟨g1, g2, g3⟩ := cells_rep hv hc;have hus := dvs_eq hd;subst hus;simp only [List.length_map] at g1;refine ⟨by simp [q1], ?_, ?_, ?_, ?_⟩
       ·simp only [List.map_cons, List.zipIdx_cons];rw [← q2]
       ·intro u hu;simp only [List.map_cons, List.mem_cons] at hu;rcases hu with rfl | hu
        ·omega
        exact q3 u hu
       ·intro j cs hj;cases j with
        | zero => simp at hj; subst hj; exact hsz
        | succ j => exact q4 j cs (by simpa using hj)
       intro j cs j' d u hj hj' hu;cases j with
       | zero =>
        simp at hj hu;subst hj; subst hu;have := g2 j' (.d d) (by rw [List.getElem?_map, hj']; rfl);cases this with
        | d h => exact h
       | succ j => exact q5 j cs j' d u (by simpa using hj) hj' (by simpa using hu)
theorem h_lit {e n bt sz len : Nat} {zs : List ZK} {te : TS} {parts : Array (Nat × Operand)} {els : List (List DV)} (ht : PT.ty P t = some ⟨.slice e, n, bt, zs⟩) (he : PT.ty P e = some te) (hs : te.size = sz) (hz0 : te.zero.length = te.size) (h0 : Nat.beq sz 0 = false) (hb : litAV sz 0 (parts.toList.map fun p => (p.1, s.ev p.2)) = some els) (hl : els.length = len) (hsm : Nat.ble (len * sz) 16777216 = true) :
  NOp P [] s ⟨dst, .buildSlice t len parts, ty, pos, af, gd⟩ f ⟨.own f len, [(f, some (.arr e sz els))]⟩ := by
 refine NOp.value fun s' ha C U U' a w m hR hU hU' hd => ?_
 have hne : sz ≠ 0 := Nat.ne_of_beq_eq_false h0;have hsm : len * sz ≤ 16777216 := by simpa using hsm
 obtain ⟨i, d, z, hi, hd', hk, h1, h2, h3, h4⟩ := PT.facts he
 obtain ⟨q1, q2, q3, q4, q5⟩ := lit_rep (m := m) (F := Fz C m s' w) (w := w) (parts.toList.map fun p => (p.1, s.ev p.2)) (parts.toList.map fun p => (p.1, a.eval p.2)) 0 els (by simp) (fun i p v hp hv => by
  rw [List.getElem?_map, Option.map_eq_some_iff] at hp hv;obtain ⟨p1, e1, rfl⟩ := hp;obtain ⟨p2, e2, rfl⟩ := hv;rw [e1] at e2;obtain rfl : p1 = p2 := by simpa using e2
  have := hR.ev p1.2
  have hmem : p1.2 ∈ (Op.buildSlice t len parts).operands := by
   simp only [Op.operands, List.mem_toArray, List.mem_map];exact ⟨p1, List.mem_of_getElem? e1, rfl⟩
  rw [ha.2.1 _ hmem] at this
  exact this) hb
 have hlen : (parts.toList.map fun p => (p.1, a.eval p.2)).length = len := by rw [← q1, hl]
 have hml : len ≤ maxLen := by
  have : len * 1 ≤ len * sz := Nat.mul_le_mul_left _ (by omega);simp only [maxLen]; omega
 by_cases hl0 : len = 0
 ·subst hl0;have hp0 : parts.toList = [] := by simpa using hlen
  have hels : els = [] := List.eq_nil_of_length_eq_zero hl;subst hels;refine ⟨_, _, _, ?_, hR.newArr (n := 0) (cap := 0) (els := []) (vs := #[]) (fz := (0, 0)) (e := e) (sz := sz) hd (by simpa using hU 0 (by omega)) (fun j hj => by have := hU' j hj; exact ⟨this.1, by omega⟩) (by simp) (by simp) (by simp) (by simp [maxLen]) (by omega) (by simp) (by simp)⟩;have hpe : parts = #[] := by apply Array.toList_inj.1; simpa using hp0
  simp [execOp, Instr.buildSlice, run_underlying (PT.slice ht), PT.runSize he, hpe, Instr.fill, newRow, show Array.range 0 = #[] from rfl]
 generalize hX : ((Array.range (len * sz)).map (z.cells[· % z.cells.size]!)) = X;have hXs : X.size = len * sz := by rw [← hX]; simp
 obtain ⟨out, o1, o2, o3⟩ := Great.fill_dense (s := sz) (by omega) ((parts.toList.map fun p => (p.1, a.eval p.2)).map (·.2)) 0 X q3 (by rw [hXs, Nat.zero_add, List.length_map, hlen]; exact Nat.le_refl _);rw [← q2] at o1;have hrun := Go.run_buildSlice (P := P) w t e len (parts.map fun p => (p.1, a.eval p.2)) out i z (PT.slice ht) hi h3 (by rw [h1, hs]; omega) (by rw [h1, hs]; intro h; rcases Nat.mul_eq_zero.1 h with h | h <;> omega) (by rw [h1, hs, hX]; simpa using o1);refine ⟨_, _, _, ?_, hR.newArr (n := len) (cap := len) (els := els) (vs := out) (fz := (0, 0)) (e := e) (sz := sz) hd (by simpa using hU 0 (by omega)) (fun j hj => by have := hU' j hj; exact ⟨this.1, by omega⟩) (by simp) (by rw [o2, hXs]) (by omega) hml (by omega) q4 (fun i' cs j d hc hdd => ?_)⟩
 ·simp only [execOp, Sem.run_bind];rw [show (parts.map fun (i, x) => (i, a.eval x)) = parts.map fun p => (p.1, a.eval p.2) from rfl, hrun];simp
 have hi1 := (List.getElem?_eq_some_iff.1 hc).1;have hj1 : j < sz := by have := (List.getElem?_eq_some_iff.1 hdd).1; rw [q4 i' cs hc] at this; exact this
 have hi2 : i' < ((parts.toList.map fun p => (p.1, a.eval p.2)).map (·.2)).length := by rw [List.length_map, hlen]; omega
 have hv := List.getElem?_eq_getElem hi2;have h5 := q5 i' cs j d _ hc hdd hv
 have hin : i' * sz + j < len * sz := by
  have : (i' + 1) * sz ≤ len * sz := Nat.mul_le_mul_right _ (by omega);rw [Nat.succ_mul] at this; omega
 have hdiv : (i' * sz + j) / sz = i' := by
  rw [Nat.mul_comm, Nat.mul_add_div (by omega), Nat.div_eq_of_lt hj1, Nat.add_zero]
 have hmod : (i' * sz + j) % sz = j := by
  rw [Nat.mul_comm, Nat.mul_add_mod, Nat.mod_eq_of_lt hj1]
 have := o3 (i' * sz + j);rw [if_pos (by rw [Nat.zero_mul, Nat.zero_add, List.length_map, hlen]; omega), hdiv, hmod, Nat.sub_zero, hv] at this;rw [Array.getD_eq_getD_getElem?, this];simpa [Array.getD_eq_getD_getElem?] using h5
theorem h_litF {e n bt sz len : Nat} {zs : List ZK} {te : TS} {parts : Array (Nat × Operand)} {els : List (List DV)} (ht : PT.ty P t = some ⟨.slice e, n, bt, zs⟩) (he : PT.ty P e = some te) (hs : te.size = sz) (hz0 : te.zero.length = te.size) (h0 : Nat.beq sz 0 = false) (hb : litAV sz 0 (parts.toList.map fun p => (p.1, s.ev p.2)) = some els) (hl : els.length = len) (hsm : Nat.ble (len * sz) 16777216 = true) :
  NOp P [] s ⟨dst, .buildSlice t len parts, ty, pos, af, gd⟩ f ⟨.d (.view e sz els), []⟩ := by
 refine NOp.value fun s' ha C U U' a w m hR hU hU' hd => ?_
 have hne : sz ≠ 0 := Nat.ne_of_beq_eq_false h0;have hsm : len * sz ≤ 16777216 := by simpa using hsm
 obtain ⟨i, d, z, hi, hd', hk, h1, h2, h3, h4⟩ := PT.facts he
 obtain ⟨q1, q2, q3, q4, q5⟩ := lit_rep (m := m) (F := Fz C m s' w) (w := w) (parts.toList.map fun p => (p.1, s.ev p.2)) (parts.toList.map fun p => (p.1, a.eval p.2)) 0 els (by simp) (fun i p v hp hv => by
  rw [List.getElem?_map, Option.map_eq_some_iff] at hp hv;obtain ⟨p1, e1, rfl⟩ := hp;obtain ⟨p2, e2, rfl⟩ := hv;rw [e1] at e2;obtain rfl : p1 = p2 := by simpa using e2
  have := hR.ev p1.2
  have hmem : p1.2 ∈ (Op.buildSlice t len parts).operands := by
   simp only [Op.operands, List.mem_toArray, List.mem_map];exact ⟨p1, List.mem_of_getElem? e1, rfl⟩
  rw [ha.2.1 _ hmem] at this
  exact this) hb
 have hlen : (parts.toList.map fun p => (p.1, a.eval p.2)).length = len := by rw [← q1, hl]
 have hml : len ≤ maxLen := by
  have : len * 1 ≤ len * sz := Nat.mul_le_mul_left _ (by omega);simp only [maxLen]; omega
 by_cases hl0 : len = 0
 ·subst hl0;have hp0 : parts.toList = [] := by simpa using hlen
  have hels : els = [] := List.eq_nil_of_length_eq_zero hl;subst hels;refine ⟨_, _, _, ?_, (hR.fresh (r := .d (.view e sz [])) (v := .slice (some ⟨w.heap.size, 0, none⟩) 0 0) hd (.cells #[] e (0, 0)) (fun F' hF hn => .d (DRep.view (els := []) (cap := 0) (off := 0) hn (heap_alloc_new w _) (by simp) (by simp [maxLen]) (by simp) (by simp) (by simp)))).weaken rfl (fun _ => .inr rfl) (fun _ _ h => h) (fun j hj => (hU' j hj).1)⟩;have hpe : parts = #[] := by apply Array.toList_inj.1; simpa using hp0
  simp [execOp, Instr.buildSlice, run_underlying (PT.slice ht), PT.runSize he, hpe, Instr.fill, newRow, show Array.range 0 = #[] from rfl]
 generalize hX : ((Array.range (len * sz)).map (z.cells[· % z.cells.size]!)) = X;have hXs : X.size = len * sz := by rw [← hX]; simp
 obtain ⟨out, o1, o2, o3⟩ := Great.fill_dense (s := sz) (by omega) ((parts.toList.map fun p => (p.1, a.eval p.2)).map (·.2)) 0 X q3 (by rw [hXs, Nat.zero_add, List.length_map, hlen]; exact Nat.le_refl _);rw [← q2] at o1;have hrun := Go.run_buildSlice (P := P) w t e len (parts.map fun p => (p.1, a.eval p.2)) out i z (PT.slice ht) hi h3 (by rw [h1, hs]; omega) (by rw [h1, hs]; intro h; rcases Nat.mul_eq_zero.1 h with h | h <;> omega) (by rw [h1, hs, hX]; simpa using o1);have hdv : ∀ (i' : Nat) (cs : List DV) (j : Nat) (d : DV), els[i']? = some cs → cs[j]? = some d → DRep (Fz C m s' w) w d (out.getD (i' * sz + j) undef) := ?_
 ·refine ⟨_, _, _, ?_, (hR.fresh (r := .d (.view e sz els)) (v := .slice (some ⟨w.heap.size, 0, none⟩) len len) hd (.cells out e (0, 0)) (fun F' hF hn => ?_)).weaken rfl (fun _ => .inr rfl) (fun _ _ h => h) (fun j hj => (hU' j hj).1)⟩
  ·simp only [execOp, Sem.run_bind];rw [show (parts.map fun (i, x) => (i, a.eval x)) = parts.map fun p => (p.1, a.eval p.2) from rfl, hrun];simp
  have := DRep.view (F := F') (w := w.alloc (.cells out e (0, 0))) (e := e) (sz := sz) (els := els) (b := w.heap.size) (off := 0) (cap := len) hn (heap_alloc_new w _) (by omega) hml (by rw [o2, hXs]; omega) q4 (fun i' cs j d hc hdd => by rw [Nat.zero_add]; exact (hdv i' cs j d hc hdd).turn (fun k hk _ => hF k hk));rw [hl] at this;exact .d this
 intro i' cs j d hc hdd;have hi1 := (List.getElem?_eq_some_iff.1 hc).1;have hj1 : j < sz := by have := (List.getElem?_eq_some_iff.1 hdd).1; rw [q4 i' cs hc] at this; exact this
 have hi2 : i' < ((parts.toList.map fun p => (p.1, a.eval p.2)).map (·.2)).length := by rw [List.length_map, hlen]; omega
 have hv := List.getElem?_eq_getElem hi2;have h5 := q5 i' cs j d _ hc hdd hv
 have hin : i' * sz + j < len * sz := by
  have : (i' + 1) * sz ≤ len * sz := Nat.mul_le_mul_right _ (by omega);rw [Nat.succ_mul] at this; omega
 have hdiv : (i' * sz + j) / sz = i' := by
  rw [Nat.mul_comm, Nat.mul_add_div (by omega), Nat.div_eq_of_lt hj1, Nat.add_zero]
 have hmod : (i' * sz + j) % sz = j := by
  rw [Nat.mul_comm, Nat.mul_add_mod, Nat.mod_eq_of_lt hj1]
 have := o3 (i' * sz + j);rw [if_pos (by rw [Nat.zero_mul, Nat.zero_add, List.length_map, hlen]; omega), hdiv, hmod, Nat.sub_zero, hv] at this;rw [Array.getD_eq_getD_getElem?, this];simpa [Array.getD_eq_getD_getElem?] using h5
end
section
variable {P : Program} [PT P]
variable {s : ASt} {dst : Option Nat} {ty : Nat} {pos : String} {af : Array Edge} {gd : Option (Nat × Bool)} {x y : Operand} {t f : Nat} {ts : TS}
structure Rows' (w : World) (F : Nat → Prop) (sz : Nat) (els : List (List DV)) (v : Value) (vs : List Value) : Prop where
 shape : ∃ a cap, v = .slice a els.length cap ∧ (∀ p, a = some p → ∀ j v, vs[j]? = some v → w.cell? (p.add j) = some v) ∧ (a = none → vs = [])
 len : vs.length = els.length * sz
 one : ∀ u, u ∈ vs → u.oneCell' = true
 rep : ∀ (i : Nat) (cs : List DV) (j : Nat) (d : DV), els[i]? = some cs → cs[j]? = some d → DRep F w d (vs.getD (i * sz + j) undef)
 rows : ∀ (i : Nat) cs, els[i]? = some cs → cs.length = sz
theorem rows_at {w : World} {F : Nat → Prop} {b off e sz cap : Nat} {els : List (List DV)} {arr : Array Value} {fz : Nat × Nat} (hb : w.heap[b]? = some (.cells arr e fz)) (hle : off + els.length * sz ≤ arr.size)
  (h4 : ∀ (i : Nat) (cs : List DV), els[i]? = some cs → cs.length = sz) (h5 : ∀ (i : Nat) (cs : List DV) (j : Nat) (d : DV), els[i]? = some cs → cs[j]? = some d → DRep F w d (arr.getD (off + i * sz + j) undef)) :
  Rows' w F sz els (.slice (some ⟨b, off, none⟩) els.length cap) ((arr.toList.drop off).take (els.length * sz)) := by
 obtain ⟨r1, r2, r3⟩ := range_of (off := off) (n := els.length * sz) hb hle
 have hin : ∀ (i : Nat) (cs : List DV) (j : Nat) (d : DV), els[i]? = some cs → cs[j]? = some d → i * sz + j < els.length * sz := by
  intro i cs j d hi hj;have h1 := (List.getElem?_eq_some_iff.1 hi).1;have h2 := (List.getElem?_eq_some_iff.1 hj).1;rw [h4 i cs hi] at h2;have : (i + 1) * sz ≤ els.length * sz := Nat.mul_le_mul_right _ h1;rw [Nat.succ_mul] at this; omega
 have hg : ∀ q, q < els.length * sz → ((arr.toList.drop off).take (els.length * sz)).getD q undef = arr.getD (off + q) undef := by
  intro q hq;rw [← r3 q hq];simp [Array.getD_eq_getD_getElem?, List.getD]
 refine ⟨⟨_, _, rfl, fun p hp j v hj => by cases hp; rw [addr_add]; exact r2 j v hj, fun h => by cases h⟩, r1, fun u hu => ?_, fun i cs j d hi hj => ?_, h4⟩
 ·obtain ⟨q, hq⟩ := List.getElem?_of_mem hu;have hq1 := (List.getElem?_eq_some_iff.1 hq).1;rw [r1] at hq1
  by_cases hsz : sz = 0
  ·subst hsz; simp at hq1
  have hq2 : q / sz < els.length := (Nat.div_lt_iff_lt_mul (by omega)).2 hq1;have hrow := h4 _ _ (List.getElem?_eq_getElem hq2);have hq3 : q % sz < (els[q / sz]).length := by rw [hrow]; exact Nat.mod_lt _ (by omega)
  have := h5 _ _ _ _ (List.getElem?_eq_getElem hq2) (List.getElem?_eq_getElem hq3);have e : off + q / sz * sz + q % sz = off + q := by rw [Nat.add_assoc, Nat.mul_comm, Nat.div_add_mod]
  rw [e] at this;have h6 := hg q hq1;rw [List.getD, hq] at h6;simp only [Option.getD_some] at h6;rw [h6];exact this.one
 rw [hg _ (hin i cs j d hi hj), ← Nat.add_assoc];exact h5 i cs j d hi hj
theorem rows_view {w : World} {F : Nat → Prop} {e sz : Nat} {els : List (List DV)} {v : Value} (h : DRep F w (.view e sz els) v) : ∃ vs, Rows' w F sz els v vs := by
 cases h with
 | nil => exact ⟨[], ⟨none, 0, rfl, (fun p hp => by cases hp), fun _ => rfl⟩, by simp, by simp, by simp, by simp⟩
 | empty => exact ⟨[], ⟨some _, 0, rfl, (fun p hp j v hj => by simp at hj), fun _ => rfl⟩, by simp, by simp, by simp, by simp⟩
 | view hF hb h1 h2 h3 h4 h5 =>
  exact ⟨_, rows_at hb (by have := Nat.mul_le_mul_right sz h1; omega) h4 h5⟩
theorem rows_own {w : World} {m : Nat → Option (Option Nat × Nat)} {F : Nat → Prop} {b : Option Nat} {cap : Nat} {e sz : Nat} {els : List (List DV)} (h : CRep m F w (b, cap) (.arr e sz els)) {n : Nat} (hn : n ≤ els.length) : ∃ vs, Rows' w F sz (els.take n) (.slice (b.map fun b => ⟨b, 0, none⟩) n cap) vs := by
 cases h with
 | nil h0 =>
  have : n = 0 := by simpa using hn
  subst this;exact rows_view (e := e) .nil
 | arr hb hf hs hl hm h0 hsz he =>
  have hlen : (els.take n).length = n := by simp; omega
  have h4 : ∀ (i : Nat) (cs : List DV), (els.take n)[i]? = some cs → els[i]? = some cs := by
   intro i cs hi;rw [List.getElem?_take] at hi
   split at hi
   ·exact hi
   cases hi
  have := rows_at (F := F) (els := els.take n) (sz := sz) (off := 0) (cap := cap) hb (by rw [hlen]; have := Nat.mul_le_mul_right sz (Nat.le_trans hn hl); omega) (fun i cs hi => hsz i cs (h4 i cs hi)) (fun i cs j d hi hj => by rw [Nat.zero_add]; exact he i cs j d (h4 i cs hi) hj);rw [hlen] at this;exact ⟨_, this⟩
theorem rows_part {w : World} {m : Nat → Option (Option Nat × Nat)} {F : Nat → Prop} {p : Option Nat × Nat} {e sz i n c : Nat} {els : List (List DV)} {a : Option Addr} (h : CRep m F w p (.arr e sz els)) (hn : i + n ≤ els.length) (ha : 0 < n → ∃ k, p.1 = some k ∧ a = some ⟨k, i * sz, none⟩) : ∃ vs, Rows' w F sz ((els.drop i).take n) (.slice a n c) vs := by
 rcases Nat.eq_zero_or_pos n with h0 | h0
 ·subst h0;exact ⟨[], ⟨a, c, rfl, fun p hp j v hj => by simp at hj, fun _ => rfl⟩, by simp, by simp, by simp, by simp⟩
 obtain ⟨k, hk, rfl⟩ := ha h0;cases h with
 | nil h0 => simp at hn; omega
 | arr hb hf hs hl hm h0 hsz he =>
  simp only [Option.some.injEq] at hk;subst hk;have hlen : ((els.drop i).take n).length = n := by simp; omega
  have h4 : ∀ (q : Nat) (cs : List DV), ((els.drop i).take n)[q]? = some cs → els[i + q]? = some cs := by
   intro q cs hq;rw [List.getElem?_take] at hq
   split at hq
   ·rw [List.getElem?_drop] at hq; exact hq
   cases hq
  have := rows_at (F := F) (els := (els.drop i).take n) (sz := sz) (off := i * sz) (cap := c) hb (by rw [hlen, ← Nat.add_mul]; have := Nat.mul_le_mul_right sz (Nat.le_trans hn hl); omega) (fun q cs hq => hsz _ cs (h4 q cs hq)) (fun q cs j d hq hj => by rw [← Nat.add_mul]; exact he _ cs j d (h4 q cs hq) hj);rw [hlen] at this;exact ⟨_, this⟩
inductive AppArg (s : ASt) (x : Operand) (sz : Nat) (els : List (List DV)) : List Nat → Prop
 | view {e : Nat} : s.ev x = .d (.view e sz els) → AppArg s x sz els []
 | own {id n e : Nat} {all : List (List DV)} : s.ev x = .own id n → s.chunk id = some (.arr e sz all) → n ≤ all.length → all.take n = els → AppArg s x sz els [id]
 | nil : s.ev x = .d (.val (.slice none 0 0)) → els = [] → AppArg s x sz els []
 | tight {e : Nat} : s.ev x = .tight e sz els → AppArg s x sz els []
 | part {id o i n e : Nat} {all : List (List DV)} : s.ev x = .part id o n → s.chunk id = some (.arr e sz all) → o = i * sz → i + n ≤ all.length → (all.drop i).take n = els → AppArg s x sz els [id]
theorem AppArg.rows {s' : ASt} {C : Ctx} {U : Nat → Prop} {a : Act} {w : World} {m : Nat → Option (Option Nat × Nat)} {sz : Nat} {els : List (List DV)} {ids : List Nat} (h : AppArg s x sz els ids) (hev : s'.ev x = s.ev x) (hch : ∀ id, id ∈ ids → s'.chunk id = s.chunk id) (hR : RelM C U s' a w m) : ∃ vs, Rows' w (Fz C m s' w) sz els (a.eval x) vs := by
 have hx := hR.ev x;rw [hev] at hx;cases h with
 | view h => rw [h] at hx; cases hx with | d h => exact rows_view h
 | nil h he => rw [h] at hx; obtain ⟨e1, _⟩ := hx.val_eq; subst he; rw [e1]; exact rows_view (e := 0) .nil
 | own h1 h2 h3 h4 =>
  rw [h1] at hx;generalize hv : a.eval x = v at hx;cases hx with
  | own hp =>
   subst h4;exact rows_own (hR.chunkAt (by rw [hch _ (by simp)]; exact h2) hp) h3
 | tight h =>
  rw [h] at hx;generalize hv : a.eval x = v at hx;cases hx with
  | tight h => exact rows_view h
 | part h1 h2 h3 h4 h5 =>
  rw [h1] at hx;generalize hv : a.eval x = v at hx;cases hx with
  | part hp ha =>
   subst h5;subst h3;exact rows_part (hR.chunkAt (by rw [hch _ (by simp)]; exact h2) hp) h4 ha
theorem src_of {w : World} {F : Nat → Prop} {sz tx e : Nat} {els : List (List DV)} {v : Value} {vs : List Value} (h : Rows' w F sz els v vs) (ht : P.underlying tx = some (.slice e)) : Src P sz tx v els.length vs w := by
 obtain ⟨⟨a, cap, rfl, hs, hn⟩, hl, h1, _, _⟩ := h;refine ⟨.inl ⟨e, ht⟩, fun w' => by simp [Builtin.lenOf], ?_, ?_, hl, h1⟩
 ·cases a with
  | none => rw [hn rfl]; simp [Builtin.firstCells]
  | some p =>
   exact run_firstCells_some (P := P) w sz els.length _ _ _ vs hl (hs p rfl)
 cases a with
 | none => rw [hn rfl]; simp [Builtin.firstCells]
 | some p =>
  exact run_firstCells_some (P := P) w.drew sz els.length _ _ _ vs hl (hs p rfl)
inductive AppTo (s : ASt) (x : Operand) (e sz : Nat) (els : List (List DV)) : List Nat → List (Nat × Option Chunk) → Prop
 | nil : s.ev x = .d (.val (.slice none 0 0)) → els = [] → AppTo s x e sz els [] []
 | tight : s.ev x = .tight e sz els → AppTo s x e sz els [] []
 | own {id n : Nat} : s.ev x = .own id n → s.chunk id = some (.arr e sz els) → n = els.length → AppTo s x e sz els [id] [(id, none)]
theorem grow_rows {w : World} {F : Nat → Prop} {sz e need : Nat} {a b : List (List DV)} {va vb : List Value} {v v' : Value} {z : Value} {rest : Nat} (ha : Rows' w F sz a v va) (hb : Rows' w F sz b v' vb) :
  (∀ (i : Nat) cs, (a ++ b)[i]? = some cs → cs.length = sz) ∧ ∀ (i : Nat) (cs : List DV) (j : Nat) (d : DV), (a ++ b)[i]? = some cs → cs[j]? = some d → ∀ X : Array Value, DRep F w d (((va ++ vb).toArray ++ X).getD (i * sz + j) undef) := by
 have hlen : ∀ (i : Nat) cs, (a ++ b)[i]? = some cs → cs.length = sz := by
  intro i cs hi;rcases List.mem_append.1 (List.mem_of_getElem? hi) with h | h
  ·obtain ⟨k, hk⟩ := List.getElem?_of_mem h; exact ha.rows k cs hk
  obtain ⟨k, hk⟩ := List.getElem?_of_mem h; exact hb.rows k cs hk
 refine ⟨hlen, fun i cs j d hi hj X => ?_⟩;have hj1 := (List.getElem?_eq_some_iff.1 hj).1;rw [hlen i cs hi] at hj1
 have key : ∀ k (l : List Value), k < l.length → (l.toArray ++ X).getD k undef = l.getD k undef := by
  intro k l hk;simp [Array.getD_eq_getD_getElem?, List.getD, Array.getElem?_append, hk]
 by_cases h : i < a.length
 ·rw [List.getElem?_append_left h] at hi;have h1 : (i + 1) * sz ≤ a.length * sz := Nat.mul_le_mul_right _ h;rw [Nat.succ_mul] at h1;have := ha.len;rw [key _ _ (by simp; omega)]
  have e1 : (va ++ vb).getD (i * sz + j) undef = va.getD (i * sz + j) undef := by
   simp only [List.getD, List.getElem?_append_left (show i * sz + j < va.length by omega)]
  rw [e1];exact ha.rep i cs j d hi hj
 rw [List.getElem?_append_right (by omega)] at hi;have hi1 := (List.getElem?_eq_some_iff.1 hi).1;have h1 : (i - a.length + 1) * sz ≤ b.length * sz := Nat.mul_le_mul_right _ hi1;rw [Nat.succ_mul] at h1;have h2 : i * sz = a.length * sz + (i - a.length) * sz := by rw [← Nat.add_mul]; congr 1; omega
 have := ha.len;have := hb.len;rw [key _ _ (by simp; omega)]
 have e1 : (va ++ vb).getD (i * sz + j) undef = vb.getD ((i - a.length) * sz + j) undef := by
  simp only [List.getD, List.getElem?_append_right (show va.length ≤ i * sz + j by omega)];congr 2; omega
 rw [e1];exact hb.rep _ cs j d hi hj
theorem AppTo.rows {s' : ASt} {C : Ctx} {U : Nat → Prop} {a : Act} {w : World} {m : Nat → Option (Option Nat × Nat)} {e sz : Nat} {els : List (List DV)} {ids : List Nat} {gone : List (Nat × Option Chunk)} (h : AppTo s x e sz els ids gone) (hev : s'.ev x = s.ev x) (hch : ∀ id, id ∈ ids → s'.chunk id = s.chunk id) (hR : RelM C U s' a w m) :
  ∃ vs base cap, a.eval x = .slice base els.length cap ∧ els.length ≤ cap ∧ Rows' w (Fz C m s' w) sz els (.slice base els.length cap) vs ∧
   ((gone = [] ∧ cap = els.length) ∨ ∃ id b, gone = [(id, none)] ∧ s'.chunk id = some (.arr e sz els) ∧ m id = some (b, cap) ∧ base = b.map (fun b => ⟨b, 0, none⟩)) := by
 have hx := hR.ev x;rw [hev] at hx;cases h with
 | nil h he => rw [h] at hx; obtain ⟨e1, _⟩ := hx.val_eq; subst he; obtain ⟨vs, hv⟩ := rows_view (F := Fz C m s' w) (sz := sz) (e := 0) (w := w) .nil; exact ⟨vs, none, 0, e1, by simp, hv, .inl ⟨rfl, rfl⟩⟩
 | tight h =>
  rw [h] at hx;generalize hv : a.eval x = v at hx;cases hx with
  | tight h => obtain ⟨vs, hv⟩ := rows_view h; exact ⟨vs, _, _, rfl, Nat.le_refl _, hv, .inl ⟨rfl, rfl⟩⟩
 | own h1 h2 h3 =>
  rename_i id n;rw [h1] at hx;have hc' : s'.chunk id = some (.arr e sz els) := by rw [hch _ (by simp)]; exact h2
  generalize hv : a.eval x = v at hx;cases hx with
  | own hp h0 =>
   rename_i cap b;subst h3;have hC := hR.chunkAt hc' hp;obtain ⟨vs, hr⟩ := rows_own hC (Nat.le_refl els.length);rw [List.take_length] at hr;refine ⟨vs, _, cap, rfl, ?_, hr, .inr ⟨id, b, rfl, hc', hp, rfl⟩⟩;cases hC with
   | arr _ _ _ h _ => exact h
   | nil => simp
theorem append_run {e e2 tx n bt n2 bt2 sz k : Nat} {zs zs2 : List ZK} {te : TS} {els new : List (List DV)} {ids ids2 : List Nat} {gone : List (Nat × Option Chunk)} (ht : PT.ty P t = some ⟨.slice e, n, bt, zs⟩) (htx : PT.ty P tx = some ⟨.slice e2, n2, bt2, zs2⟩) (he : PT.ty P e = some te) (hs : te.size = sz) (hz0 : te.zero.length = te.size) (h0 : Nat.beq sz 0 = false)
  (hto : AppTo s x e sz els ids gone) (harg : AppArg s y sz new ids2) (hk : els.length + new.length = k) (hml : k ≤ 1125899906842624) (hbytes : k * te.bytes ≤ 140737488355328) (hnew : gone = [] → 0 < new.length) :
  ∀ s', Agr (ids ++ ids2) ⟨dst, .call { callee := .builtin .append, args := #[x, y], argTypes := #[t, tx] }, ty, pos, af, gd⟩ s s' → ∀ C U U' a w m, RelM C U s' a w m → U f → (∀ j, U' j → U j ∧ j ≠ f) → dstOk dst s'.n = true → ∃ v w' m', (execOp a.eval ⟨dst, .call { callee := .builtin .append, args := #[x, y], argTypes := #[t, tx] }, ty, pos, af, gd⟩).run P w = .ok (.value v) w' ∧ RelM C U' (s'.app dst ⟨.own f k, (f, some (.arr e sz (els ++ new))) :: gone⟩) (a.put dst v) w' m' := by
 intro s' ha C U U' a w m hR hU0 hU1 hd;have hne : sz ≠ 0 := Nat.ne_of_beq_eq_false h0;obtain ⟨i, d, z, hi, hd', hkd, h1, h2, h3, h4⟩ := PT.facts he;obtain ⟨va, base, cap, hxv, hcap, hra, hkind⟩ := hto.rows (ha.2.1 x (by simp [Op.operands, Call.operands])) (fun id hid => ha.2.2 id (List.mem_append_left _ hid)) hR;obtain ⟨vb, hrb⟩ := harg.rows (ha.2.1 y (by simp [Op.operands, Call.operands])) (fun id hid => ha.2.2 id (List.mem_append_right _ hid)) hR;have hsrc : Src P i.size tx (a.eval y) new.length vb w := by rw [h1, hs]; exact src_of hrb (PT.slice htx)
 have hgr := grow_rows (e := e) (need := 0) (z := z) (rest := 0) hra hrb
 have hexec : ∀ v w', (Builtin.append_ #[t, tx] ty #[a.eval x, a.eval y]).run P w = .ok v w' → (execOp a.eval ⟨dst, .call { callee := .builtin .append, args := #[x, y], argTypes := #[t, tx] }, ty, pos, af, gd⟩).run P w = .ok (.value v) w' := by
  intro v w' h;simp [execOp, resolve, invoke, builtin, h]
 have hgone : ∀ j c, getL j gone ≠ some (some c) := by
  intro j c hj;rcases hkind with ⟨rfl, _⟩ | ⟨id, b, rfl, _⟩
  ·simp [getL] at hj
  obtain ⟨_, h⟩ := getL_one hj; cases h
 by_cases hfit : els.length + new.length ≤ cap
 ·-- room, or nothing to add
  rcases hkind with ⟨hg, hcl⟩ | ⟨id, b, hg, hc', hp, hb⟩
  ·have := hnew hg; omega
  subst hg;cases b with
  | none =>
   have hC := hR.chunkAt hc' hp;cases hC with
   | nil hz =>
    have hn0 : new = [] := by simpa using hfit
    subst hn0;have hv0 : vb = [] := List.eq_nil_of_length_eq_zero (by have := hrb.len; simpa using this);subst hv0;have hrun := run_append_nothing (P := P) w t tx ty e i (PT.slice ht) hi base 0 0 (Nat.le_refl _) (a.eval y) (by simpa using hsrc);obtain rfl : k = 0 := by simpa using hk.symm
    refine ⟨_, _, _, hexec _ _ (by rw [hxv]; exact hrun), hR.named (p := (none, 0)) (c := .arr e sz ([] ++ [])) hd hU0 hU1 hgone hR.fr (Nat.le_refl _) (fun b hb => nomatch hb.one_arr) (fun k _ _ => rfl) (fun F' hF => ⟨?_, .nil (by omega)⟩)⟩;rw [hb];exact .own (b := none) (newM_self _ _ _) (by simp)
  | some b =>
   have hC := hR.chunkAt hc' hp;cases hC with
   | arr hbb hff hss hl hm hz0' hszs hel =>
    rename_i arr fz;have hrun := run_append_room_src (P := P) w t tx ty e i (PT.slice ht) hi b 0 els.length cap (a.eval y) new.length vb hsrc (by omega) ?_ ?_
    ·have hbl : base = some ⟨b, 0, none⟩ := hb;rw [h1, hs, Nat.zero_add] at hrun;have hseg := setSeg_get vb arr (els.length * sz) (by have h5 := hrb.len; have h6 := Nat.mul_le_mul_right sz hfit; rw [Nat.add_mul] at h6; omega);have hfr1 : Fr [b] w (w.setCells b (els.length * sz) vb) := fr_setCells vb w _;obtain ⟨q, hq, _, hloc⟩ := hR.ch id _ hc';rw [hp] at hq;obtain rfl : (some b, cap) = q := by simpa using hq
     refine ⟨_, _, _, hexec _ _ (by rw [hxv, hbl]; exact hrun), hR.named (p := (some b, cap)) (c := .arr e sz (els ++ new)) hd hU0 hU1 hgone ?_ hfr1.size (fun b' hb' => .inr ⟨id, _, _, by simp [getL], hc', hp, hb'⟩) (fun k hk hn => hfr1.block k hk (by simpa using fun e => hn (.inl (by simp [e])))) (fun F' hF => ⟨?_, .arr (heap_setCells_at vb w _ _ hbb) (by rw [setSeg_size]; exact hff) (by rw [setSeg_size]; exact hss) (by simp only [List.length_append]; exact hfit) hm hz0' hgr.1 (fun i' cs j d' hic hjd => ?_)⟩)⟩
     ·exact hR.fr.trans_new hfr1 (fun k hk => by have e : k = b := (by simpa using hk); subst e; exact hloc k (.inl rfl))
     ·rw [← hk]; exact .own (b := some b) (newM_self _ _ _) (by simp)
     have hj1 := (List.getElem?_eq_some_iff.1 hjd).1;rw [hgr.1 i' cs hic] at hj1;rw [hseg]
     by_cases hlt : i' < els.length
     ·rw [List.getElem?_append_left hlt] at hic;have h5 : (i' + 1) * sz ≤ els.length * sz := Nat.mul_le_mul_right _ hlt;rw [Nat.succ_mul] at h5;rw [if_neg (by omega)];exact (hel i' cs j d' hic hjd).turn (fun k hk _ => hF k hk)
     rw [List.getElem?_append_right (by omega)] at hic;have hi1 := (List.getElem?_eq_some_iff.1 hic).1;have h5 : (i' - els.length + 1) * sz ≤ new.length * sz := Nat.mul_le_mul_right _ hi1;rw [Nat.succ_mul] at h5;have h6 : i' * sz = els.length * sz + (i' - els.length) * sz := by rw [← Nat.add_mul]; congr 1; omega
     have h7 := hrb.len;rw [if_pos (by omega), show i' * sz + j - els.length * sz = (i' - els.length) * sz + j by omega];exact (hrb.rep _ cs j d' hic hjd).turn (fun k hk _ => hF k hk)
    ·intro j hj;have h5 := hrb.len;have h6 := Nat.mul_le_mul_right sz hfit;rw [Nat.add_mul] at h6;rw [h1, hs, cell_getD hbb (by omega)]; rfl
    intro j hj;have h5 := hrb.len;have h6 := Nat.mul_le_mul_right sz hfit;rw [Nat.add_mul] at h6;have := hff (0 + els.length * sz + j) (by omega);simp only [World.frozen?, h1, hs, hbb];simp only [not_and, Nat.not_lt] at this
    by_cases hh : fz.1 ≤ 0 + els.length * sz + j
    ·have := this hh;simp only [Bool.and_eq_false_iff, decide_eq_false_iff_not]; right; omega
    simp only [Bool.and_eq_false_iff, decide_eq_false_iff_not]; left; omega
 -- a new block
 have hold : (Builtin.firstCells i.size els.length (.slice base els.length cap)).run P w.drew = .ok va.toArray w.drew := by
  rw [h1, hs];exact (src_of hra (PT.slice ht)).cellsD
 have hk' := hk;have hcapn := nextslicecap_le (need := els.length + new.length) (old := cap) (by omega)
 have hrun := run_append_grow_src (P := P) w t tx ty e i z (PT.slice ht) hi h3 base els.length cap va hold (a.eval y) new.length vb hsrc (by omega) (by omega) (by
  rw [h2];have : Builtin.nextslicecap (els.length + new.length) cap * te.bytes ≤ 2 * (els.length + new.length) * te.bytes := Nat.mul_le_mul_right _ hcapn;rw [hk] at this ⊢;rw [Nat.mul_assoc] at this
  omega)
 have hge := grownCap_ge w (els.length + new.length) cap e;have hzc : z.cells.size = sz := by rw [h4]; simp [hz0, hs]
 have hXs : (Builtin.zeroCells z.cells (grownCap w (els.length + new.length) cap e - (els.length + new.length))).size = (grownCap w (els.length + new.length) cap e - (els.length + new.length)) * sz := by simp [Builtin.zeroCells, hzc]
 generalize Builtin.zeroCells z.cells (grownCap w (els.length + new.length) cap e - (els.length + new.length)) = X at hrun hXs;have hfrd : Fr C.S C.w (w.drew.alloc (.cells ((va ++ vb).toArray ++ X) e)) := (hR.fr.drew).alloc _;have hsame : ∀ (o : Obj) k, k < w.heap.size → (w.drew.alloc o).heap[k]? = w.heap[k]? := fun o k hk => Below.heap_alloc w.drew o k hk
 have hhb : (w.drew.alloc (.cells ((va ++ vb).toArray ++ X) e)).heap[w.heap.size]? = some (.cells ((va ++ vb).toArray ++ X) e (0, 0)) := heap_alloc_new w.drew _;refine ⟨_, _, _, hexec _ _ (by rw [hxv]; exact hrun), hR.named (p := (some w.heap.size, grownCap w (els.length + new.length) cap e)) (c := .arr e sz (els ++ new)) hd hU0 hU1 hgone hfrd (by simp) (fun b hb => .inl (by have hb := hb.one_arr; simp only [Option.some.injEq] at hb; subst hb; simp)) (fun k hk _ => hsame _ k hk) (fun F' hF => ⟨?_, CRep.arr hhb (by simp) ?_ (by simp only [List.length_append]; exact hge) (grownCap_le_maxLen _ _ _ _ (by simp only [maxLen]; omega)) (by omega) hgr.1 (fun i' cs j d' hic hjd => ((hgr.2 i' cs j d' hic hjd X).turn (fun k hk _ => hF k hk)))⟩)⟩
 ·rw [← hk]; exact .own (b := some w.heap.size) (newM_self _ _ _) (by simp)
 have h5 := hra.len;have h6 := hrb.len;simp only [Array.size_append, List.size_toArray, List.length_append, hXs, h5, h6];rw [← Nat.add_mul, ← Nat.add_mul];congr 1; omega
theorem h_append {e e2 tx n bt n2 bt2 sz k : Nat} {zs zs2 : List ZK} {te : TS} {els new : List (List DV)} {ids ids2 : List Nat} {gone : List (Nat × Option Chunk)} (ht : PT.ty P t = some ⟨.slice e, n, bt, zs⟩) (htx : PT.ty P tx = some ⟨.slice e2, n2, bt2, zs2⟩) (he : PT.ty P e = some te) (hs : te.size = sz) (hz0 : te.zero.length = te.size) (h0 : Nat.beq sz 0 = false)
  (hto : AppTo s x e sz els ids gone) (harg : AppArg s y sz new ids2) (hk : els.length + new.length = k) (hml : k ≤ 1125899906842624) (hbytes : k * te.bytes ≤ 140737488355328) (hnew : gone = [] → 0 < new.length) :
  NOp P (ids ++ ids2) s ⟨dst, .call { callee := .builtin .append, args := #[x, y], argTypes := #[t, tx] }, ty, pos, af, gd⟩ f ⟨.own f k, (f, some (.arr e sz (els ++ new))) :: gone⟩ :=
 NOp.value fun s' ha C U U' a w m hR hU hU' hd => append_run ht htx he hs hz0 h0 hto harg hk hml hbytes hnew s' ha C U U' a w m hR (by simpa using hU 0 (by omega)) (fun j hj => by have := hU' j hj; exact ⟨this.1, by omega⟩) hd
end
def Qc (C : Ctx) (Q : Exit → ASt → Prop) (e : Exit) (a : Act) (w : World) : Prop := ∃ s, Rel C s a w ∧ Q e s
structure ACode (P : Program) (C : Ctx) (c : Code) (Q : Exit → ASt → Prop) (s : ASt) : Prop where
 run : ∀ a w, Rel C s a w → c.wp P (Qc C Q) a w
structure AL (P : Program) (C : Ctx) (ops : Array Oper) (l : List Oper) (Q : Exit → ASt → Prop) (s : ASt) : Prop where
 run : ∀ a w, Rel C s a w → wpList P ops (Qc C Q) l a w
inductive thenA (K : ASt → Prop) (Q : Exit → ASt → Prop) : Exit → ASt → Prop
 | n {s : ASt} : K s → thenA K Q .normal s
 | o {e : Exit} {s : ASt} : e ≠ .normal → Q e s → thenA K Q e s
inductive inBlockA (id : Nat) (Q : Exit → ASt → Prop) : Exit → ASt → Prop
 | y {s : ASt} : Q .normal s → inBlockA id Q (.exit id) s
 | o {e : Exit} {s : ASt} : e ≠ .exit id → Q e s → inBlockA id Q e s
def ASt.nxt (s : ASt) (d : Option Nat) (u : Upd) : ASt :=
 match d with
 | some i => { n := s.n, nx := s.nx + 8, sl := (i, u.r) :: s.sl, ch := u.ch ++ s.ch }
 | none => { n := s.n, nx := s.nx + 8, sl := s.sl, ch := u.ch ++ s.ch }
section
variable {P : Program} {C : Ctx} {Q : Exit → ASt → Prop} {s : ASt} {ops : Array Oper}
theorem Rel.weak {s' : ASt} {a : Act} {w : World} (h : Rel C s a w) (hn : s'.n = s.n) (hx : s.nx ≤ s'.nx) (hs : ∀ i, s'.get i = .dead ∨ s'.get i = s.get i) (hc : ∀ id c, s'.chunk id = some c → s.chunk id = some c) : Rel C s' a w := by
 obtain ⟨m, hm⟩ := h;exact ⟨m, hm.weaken hn hs hc (fun id hid => Nat.le_trans hx hid)⟩
theorem AL.nil (h : Q .normal s) : AL P C ops [] Q s := ⟨fun a w hR => ⟨s, hR, h⟩⟩
theorem AL.g' {ids : List Nat} {o : Oper} {rest : List Oper} {r : AV} (hw : ∀ a w, Rel C s a w → Region.wanted o (yielded ops a.tmps) = true) (hop : GOp P ids s o r) (hd : dstOk o.dst s.n = true) (h : AL P C ops rest Q (s.put o.dst r)) : AL P C ops (o :: rest) Q s := by
 refine ⟨fun a w hR' => ?_⟩;have hwt := hw a w hR';obtain ⟨m, hR⟩ := hR';refine wpList_step fun K hK => ?_
 rw [if_pos hwt];obtain ⟨v, hrun, hr⟩ := hop.run s (Agr.refl _ _ _) C _ a w m hR;unfold Oper.wp;rw [hrun];refine hK _ _ (h.run _ _ ⟨m, ?_⟩);have := hR.setSlot hd hr;cases hdst : o.dst <;> (rw [hdst] at this; exact this)
theorem AL.h' {ids : List Nat} {o : Oper} {rest : List Oper} {u : Upd} (hw : ∀ a w, Rel C s a w → Region.wanted o (yielded ops a.tmps) = true) (hop : NOp P ids s o s.nx u) (hd : dstOk o.dst s.n = true) (h : AL P C ops rest Q (s.nxt o.dst u)) : AL P C ops (o :: rest) Q s := by
 refine ⟨fun a w hR' => ?_⟩;have hwt := hw a w hR';obtain ⟨m, hR⟩ := hR';refine wpList_step fun K hK => ?_
 rw [if_pos hwt];refine hop.run s (Agr.refl _ _ _) C (fun id => s.nx ≤ id) (fun id => s.nx + 8 ≤ id) a w m hR (fun k hk => Nat.le_add_right _ _) (fun j hj => ⟨by omega, .inr hj⟩) hd K _ (fun a' w' m' hR' => hK _ _ (h.run a' w' ⟨m', hR'.weaken ?_ (fun i => .inr ?_) (fun id c hc => ?_) (fun id hid => ?_)⟩))
 ·cases o.dst <;> rfl
 ·cases o.dst <;> rfl
 ·cases hdst : o.dst <;> (rw [hdst] at hc; exact hc)
 cases hdst : o.dst <;> (rw [hdst] at hid; exact hid)
theorem wanted_none {o : Oper} (hg : o.guard = none) (a : Act) : Region.wanted o (yielded ops a.tmps) = true := by simp [Region.wanted, hg]
theorem AL.g {ids : List Nat} {o : Oper} {rest : List Oper} {r : AV} (hg : o.guard = none) (hop : GOp P ids s o r) (hd : dstOk o.dst s.n = true) (h : AL P C ops rest Q (s.put o.dst r)) : AL P C ops (o :: rest) Q s := AL.g' (fun a w _ => wanted_none hg a) hop hd h
theorem AL.h {ids : List Nat} {o : Oper} {rest : List Oper} {u : Upd} (hg : o.guard = none) (hop : NOp P ids s o s.nx u) (hd : dstOk o.dst s.n = true) (h : AL P C ops rest Q (s.nxt o.dst u)) : AL P C ops (o :: rest) Q s := AL.h' (fun a w _ => wanted_none hg a) hop hd h
theorem yielded_of {j t : Nat} {b : Bool} (ht : ((ops[j]?).bind (·.dst)) = some t) (htn : Nat.blt t s.n = true) (hs : s.get t = aT b) {a : Act} {w : World} (hR : Rel C s a w) : yielded ops a.tmps j = some b := by
 obtain ⟨m, hR⟩ := hR;have := hR.sl t;rw [hs] at this;have hv := this.val_eq.1;have hlt : t < a.tmps.size := by rw [hR.sz]; simpa using htn
 have h2 : a.tmps[t]? = some (.bool b) := by
  rw [Array.getElem?_eq_getElem hlt];rw [Array.getD_eq_getD_getElem?, Array.getElem?_eq_getElem hlt] at hv;simpa using hv
 simp [yielded, ht, h2]
theorem wanted_yes {j t : Nat} {b want : Bool} {o : Oper} (hg : o.guard = some (j, want)) (ht : ((ops[j]?).bind (·.dst)) = some t) (htn : Nat.blt t s.n = true) (hs : s.get t = aT b) (hb : b = want) (a : Act) (w : World) (hR : Rel C s a w) : Region.wanted o (yielded ops a.tmps) = true := by
 simp [Region.wanted, hg, yielded_of ht htn hs hR, hb]
theorem AL.no {j t : Nat} {b want : Bool} {o : Oper} {rest : List Oper} (hg : o.guard = some (j, want)) (ht : ((ops[j]?).bind (·.dst)) = some t) (htn : Nat.blt t s.n = true) (hs : s.get t = aT b) (hb : b = !want) (hd : dstOk o.dst s.n = true) (h : AL P C ops rest Q (s.put o.dst .und)) : AL P C ops (o :: rest) Q s := by
 refine ⟨fun a w hR' => ?_⟩;have hy := yielded_of ht htn hs hR';obtain ⟨m, hR⟩ := hR';refine wpList_step fun K hK => ?_
 have hwt : ¬ Region.wanted o (yielded ops a.tmps) = true := by simp [Region.wanted, hg, hy, hb]
 rw [if_neg hwt];refine hK _ _ (h.run _ _ ⟨m, ?_⟩);have := hR.setSlot (x := .und) (v := undef) hd .und;cases hdst : o.dst <;> (rw [hdst] at this; exact this)
theorem AL.noU {j t : Nat} {want : Bool} {o : Oper} {rest : List Oper} (hg : o.guard = some (j, want)) (ht : ((ops[j]?).bind (·.dst)) = some t) (hs : s.get t = .und) (hd : dstOk o.dst s.n = true) (h : AL P C ops rest Q (s.put o.dst .und)) : AL P C ops (o :: rest) Q s := by
 refine ⟨fun a w hR' => ?_⟩;obtain ⟨m, hR⟩ := hR';have hu := hR.sl t;rw [hs] at hu
 have hy : yielded ops a.tmps j = none := by
  generalize hv : a.tmps.getD t undef = v at hu;cases hu;unfold yielded;rw [ht];rw [Array.getD_eq_getD_getElem?] at hv;simp only [Option.bind_some];cases hq : a.tmps[t]? with
  | none => rfl
  | some v => rw [hq] at hv; simp only [Option.getD_some] at hv; subst hv; rfl
 refine wpList_step fun K hK => ?_
 have hwt : ¬ Region.wanted o (yielded ops a.tmps) = true := by simp [Region.wanted, hg, hy]
 rw [if_neg hwt];refine hK _ _ (h.run _ _ ⟨m, ?_⟩);have := hR.setSlot (x := .und) (v := undef) hd .und;cases hdst : o.dst <;> (rw [hdst] at this; exact this)
theorem AL.case {l : List Oper} {t : Nat} {p : Prop} [Decidable p] (hs : s.get t = aT (decide p)) (hT : p → AL P C ops l Q (s.put (some t) (aT true))) (hF : ¬ p → AL P C ops l Q (s.put (some t) (aT false))) : AL P C ops l Q s := by
 refine ⟨fun a w hR => ?_⟩
 have key : ∀ b, decide p = b → Rel C (s.put (some t) (aT b)) a w := by
  intro b hb;refine hR.weak rfl (Nat.le_refl _) (fun i => .inr ?_) (fun id c hc => hc);show ASt.get _ i = _;simp only [ASt.put, ASt.get, getL_cons]
  by_cases hi : i = t
  ·subst hi; rw [if_pos rfl]; rw [← hb]; exact hs.symm
  rw [if_neg hi]
 by_cases hp : p
 ·exact (hT hp).run a w (key true (by simp [hp]))
 exact (hF hp).run a w (key false (by simp [hp]))
theorem AL.caseB {l : List Oper} {t : Nat} {b : Bool} (hs : s.get t = aT b) (hT : b = true → AL P C ops l Q (s.put (some t) (aT true))) (hF : b = false → AL P C ops l Q (s.put (some t) (aT false))) : AL P C ops l Q s := by
 refine AL.case (p := b = true) (by rw [hs]; simp) hT (fun h => hF (by simpa using h))
theorem AC.region {id : Nat} {l : List Oper} (h : AL P C l.toArray l Q s) : ACode P C (.region id l.toArray false) Q s := ⟨fun a w hR => wp_region_lit (h.run a w hR)⟩
theorem AC.skip (h : Q .normal s) : ACode P C .skip Q s := ⟨fun a w hR => wp_skip ⟨s, hR, h⟩⟩
theorem AC.exit {id : Nat} (h : Q (.exit id) s) : ACode P C (.exit id) Q s := ⟨fun a w hR => wp_exit ⟨s, hR, h⟩⟩
theorem AC.ret (h : Q .ret s) : ACode P C .ret Q s := ⟨fun a w hR => wp_ret ⟨s, hR, h⟩⟩
theorem AC.seq {x y : Code} (h : ACode P C x (thenA (ACode P C y Q) Q) s) : ACode P C (.seq x y) Q s := ⟨fun a w hR =>
 wp_seq (Go.wp_mono (h.run a w hR) fun e a w ⟨s, hR, hq⟩ => by
  cases hq with
  | n hq => exact hq.run a w hR
  | o hn hq =>
   cases e with
   | normal => exact absurd rfl hn
   | _ => exact ⟨s, hR, hq⟩)⟩
theorem AC.block {id : Nat} {x : Code} (h : ACode P C x (inBlockA id Q) s) : ACode P C (.block id x) Q s := ⟨fun a w hR =>
 wp_block (Go.wp_mono (h.run a w hR) fun e a w ⟨s, hR, hq⟩ => by
  cases hq with
  | y hq =>
   simp only [Exit.inBlock, if_true];exact ⟨s, hR, hq⟩
  | o hn hq =>
   cases e with
   | exit j =>
    have hj : ¬ j = id := fun e => hn (by rw [e])
    simp only [Exit.inBlock, hj, if_false];exact ⟨s, hR, hq⟩
   | _ => exact ⟨s, hR, hq⟩)⟩
theorem Rel.cond {a : Act} {w : World} (h : Rel C s a w) {c : Operand} {b : Bool} (hc : s.ev c = aT b) : a.eval c = .bool b := by
 obtain ⟨m, hR⟩ := h;have := hR.ev c;rw [hc] at this;exact this.val_eq.1
theorem AC.condT {c : Operand} {x y : Code} (hc : s.ev c = aT true) (h : ACode P C x Q s) : ACode P C (.cond c x y) Q s := ⟨fun a w hR => wp_cond_true (hR.cond hc) (h.run a w hR)⟩
theorem AC.condF {c : Operand} {x y : Code} (hc : s.ev c = aT false) (h : ACode P C y Q s) : ACode P C (.cond c x y) Q s := ⟨fun a w hR => wp_cond_false (hR.cond hc) (h.run a w hR)⟩
theorem AC.condD {c : Operand} {x y : Code} {p : Prop} [Decidable p] (hc : s.ev c = aT (decide p)) (hT : p → ACode P C x Q s) (hF : ¬ p → ACode P C y Q s) : ACode P C (.cond c x y) Q s := ⟨fun a w hR =>
 wp_cond_split (hR.cond hc) (fun h => (hT (of_decide_eq_true h)).run a w hR) (fun h => (hF (of_decide_eq_false h)).run a w hR)⟩
theorem AC.condND {c : Operand} {x y : Code} {p : Prop} [Decidable p] (hc : s.ev c = aT (!decide p)) (hT : ¬ p → ACode P C x Q s) (hF : p → ACode P C y Q s) : ACode P C (.cond c x y) Q s := ⟨fun a w hR =>
 wp_cond_split (hR.cond hc) (fun h => (hT (by simpa using h)).run a w hR) (fun h => (hF (by simpa using h)).run a w hR)⟩
theorem AC.condB {c : Operand} {x y : Code} {b : Bool} (hc : s.ev c = aT b) (hT : b = true → ACode P C x Q s) (hF : b = false → ACode P C y Q s) : ACode P C (.cond c x y) Q s := ⟨fun a w hR =>
 wp_cond_split (hR.cond hc) (fun h => (hT h).run a w hR) (fun h => (hF h).run a w hR)⟩
structure Weak (C : Ctx) (s t : ASt) : Prop where
 run : ∀ a w, Rel C s a w → Rel C t a w
theorem Weak.refl : Weak C s s := ⟨fun _ _ h => h⟩
theorem Weak.trans {s t u : ASt} (h : Weak C s t) (k : Weak C t u) : Weak C s u := ⟨fun a w hR => k.run a w (h.run a w hR)⟩
theorem AC.weak {t : ASt} {c : Code} (h : Weak C s t) (k : ACode P C c Q t) : ACode P C c Q s := ⟨fun a w hR => k.run a w (h.run a w hR)⟩
theorem AL.weak {t : ASt} {l : List Oper} (h : Weak C s t) (k : AL P C ops l Q t) : AL P C ops l Q s := ⟨fun a w hR => k.run a w (h.run a w hR)⟩
theorem AC.mono {Q' : Exit → ASt → Prop} {c : Code} (h : ACode P C c Q s) (hq : ∀ e s, Q e s → Q' e s) : ACode P C c Q' s := ⟨fun a w hR => Go.wp_mono (h.run a w hR) fun e a w ⟨s, hR, hq'⟩ => ⟨s, hR, hq e s hq'⟩⟩
theorem AC.loop {ι : Type} {c : Code} (st : ι → ASt) (I : ι → Prop) (μ : ι → Nat) (i₀ : ι) (h₀ : Weak C s (st i₀)) (hI : I i₀)
  (round : ∀ i, I i → ACode P C c (thenA (fun s' => ∃ j, I j ∧ μ j < μ i ∧ Weak C s' (st j)) Q) (st i)) : ACode P C (.loop c) Q s := by
 have hleast : ∀ aw : Act × World, ∃ n : Nat, (∃ i, I i ∧ Rel C (st i) aw.1 aw.2) → (∃ i, μ i = n ∧ I i ∧ Rel C (st i) aw.1 aw.2) ∧ ∀ i, I i → Rel C (st i) aw.1 aw.2 → n ≤ μ i := by
  intro aw
  by_cases h : ∃ i, I i ∧ Rel C (st i) aw.1 aw.2
  ·obtain ⟨i, hi⟩ := h
   have key : ∀ n, (∃ i, μ i = n ∧ I i ∧ Rel C (st i) aw.1 aw.2) → ∃ n, (∃ i, μ i = n ∧ I i ∧ Rel C (st i) aw.1 aw.2) ∧ ∀ i, I i → Rel C (st i) aw.1 aw.2 → n ≤ μ i := by
    intro n
    induction n using Nat.strongRecOn with
    | _ n ih =>
     intro hn
     by_cases hl : ∃ i, I i ∧ Rel C (st i) aw.1 aw.2 ∧ μ i < n
     ·obtain ⟨i, h1, h2, h3⟩ := hl;exact ih (μ i) h3 ⟨i, rfl, h1, h2⟩
     exact ⟨n, hn, fun i h1 h2 => Nat.le_of_not_lt fun h3 => hl ⟨i, h1, h2, h3⟩⟩
   obtain ⟨n, hn⟩ := key (μ i) ⟨i, rfl, hi⟩;exact ⟨n, fun _ => hn⟩
  exact ⟨0, fun h' => absurd h' h⟩
 obtain ⟨M, hM⟩ := Classical.axiomOfChoice hleast;refine ⟨fun a w hR => ?_⟩;refine wp_loop (fun a w => ∃ i, I i ∧ Rel C (st i) a w) (fun a w => M (a, w)) ⟨i₀, hI, h₀.run a w hR⟩ ?_;intro a w hI';obtain ⟨⟨i, hμ, hi, hRi⟩, hmin⟩ := hM (a, w) hI';refine Go.wp_mono ((round i hi).run a w hRi) fun e a' w' ⟨s', hR', hq⟩ => ?_
 cases hq with
 | n hq =>
  obtain ⟨j, hj, hlt, hwk⟩ := hq;have hRj := hwk.run a' w' hR';have h2 := (hM (a', w') ⟨j, hj, hRj⟩).2 j hj hRj;exact ⟨⟨j, hj, hRj⟩, by omega⟩
 | o hn hq =>
  cases e with
  | normal => exact absurd rfl hn
  | _ => exact ⟨s', hR', hq⟩
end
mutual
def AV.ren (σ : Nat → Nat) : AV → AV
 | .dead => .dead
 | .und => .und
 | .d x => .d x
 | .own id n => .own (σ id) n
 | .ptr id k => .ptr (σ id) k
 | .part id o n => .part (σ id) o n
 | .mp id => .mp (σ id)
 | .tight e sz els => .tight e sz els
 | .agg cs => .agg (AV.renL σ cs)
 | .tup cs => .tup (AV.renL σ cs)
 | .clo f cs => .clo f (AV.renL σ cs)
def AV.renL (σ : Nat → Nat) : List AV → List AV
 | [] => []
 | c :: cs => c.ren σ :: AV.renL σ cs
end
theorem AV.renL_eq (σ : Nat → Nat) (l : List AV) : AV.renL σ l = l.map (AV.ren σ) := by
 induction l with
 | nil => rfl
 | cons c l ih => simp [AV.renL, ih]
def Chunk.ren (σ : Nat → Nat) : Chunk → Chunk
 | .cells t cs => .cells t (AV.renL σ cs)
 | .arr e sz els => .arr e sz els
 | .iter st pos => .iter st pos
 | .map es => .map es
 | .obj o => .obj o
 | .pred S K => .pred S K
 | .lock id p => .lock (σ id) p
theorem Chunk.foot_ren (σ : Nat → Nat) (c : Chunk) : (c.ren σ).foot = c.foot := by
 cases c <;> rfl
theorem occ_ren {σ : Nat → Nat} {p : Option Nat × Nat} {c : Chunk} {k : Nat} : occ p (c.ren σ) k ↔ occ p c k := by
 unfold occ; rw [c.foot_ren σ]
theorem ARep.ren {m m' : Nat → Option (Option Nat × Nat)} {F F' : Nat → Prop} {w : World} {σ : Nat → Nat} (hm : ∀ id p, m id = some p → m' (σ id) = some p) (hF : ∀ k, F k → F' k) {x : AV} {v : Value} (h : ARep m F w x v) : ARep m' F' w (x.ren σ) v := by
 induction h with
 | dead => exact .dead
 | und => exact .und
 | d h => exact .d (h.mono hF)
 | own h h0 => exact .own (hm _ _ h) h0
 | ptr h => exact .ptr (hm _ _ h)
 | part h h1 => exact .part (hm _ _ h) h1
 | mp h => exact .mp (hm _ _ h)
 | tight h => exact .tight (h.mono hF)
 | agg h1 _ h3 ih =>
  simp only [AV.ren, AV.renL_eq];refine .agg (by simpa using h1) (fun i c hc => ?_) h3;rw [List.getElem?_map, Option.map_eq_some_iff] at hc;obtain ⟨c', hc', rfl⟩ := hc;exact ih i c' hc'
 | tup h1 _ ih =>
  simp only [AV.ren, AV.renL_eq];refine .tup (by simpa using h1) (fun i c hc => ?_);rw [List.getElem?_map, Option.map_eq_some_iff] at hc;obtain ⟨c', hc', rfl⟩ := hc;exact ih i c' hc'
 | clo h1 _ ih =>
  simp only [AV.ren, AV.renL_eq];refine .clo (by simpa using h1) (fun i c hc => ?_);rw [List.getElem?_map, Option.map_eq_some_iff] at hc;obtain ⟨c', hc', rfl⟩ := hc;exact ih i c' hc'
theorem CRep.ren {m m' : Nat → Option (Option Nat × Nat)} {F F' : Nat → Prop} {w : World} {σ : Nat → Nat} (hm : ∀ id p, m id = some p → m' (σ id) = some p) (hF : ∀ k, F k → F' k) {p : Option Nat × Nat} {c : Chunk} (h : CRep m F w p c) : CRep m' F' w p (c.ren σ) := by
 cases h with
 | cells h1 h2 h3 h4 =>
  simp only [Chunk.ren, AV.renL_eq];refine .cells h1 (by simpa using h2) (fun i c hc => ?_) h4;rw [List.getElem?_map, Option.map_eq_some_iff] at hc;obtain ⟨c', hc', rfl⟩ := hc;exact (h3 i c' hc').ren hm hF
 | arr h1 h2 h3 h4 h5 h6 h7 h8 => exact .arr h1 h2 h3 h4 h5 h6 h7 (fun i cs j d hi hj => (h8 i cs j d hi hj).mono hF)
 | nil h => exact .nil h
 | iter h => exact .iter h
 | map h => exact .map h
 | obj h => exact .obj h
 | pred h1 h2 h3 => exact .pred h1 h2 h3
 | lock h => exact .lock (hm _ _ h)
def sig (k : Nat) (ρ : List (Nat × Nat)) (i : Nat) : Option Nat := bif Nat.blt i k then some i else getL i ρ
inductive DLead : DV → AV → Prop
 | same {x : DV} : DLead x (.d x)
 | nil {e sz : Nat} : DLead (.view e sz []) (.d (.val (.slice none 0 0)))
theorem DLead.eqI {a b : Int} {k : IntKind} (h : a = b) : DLead (.val (.int k a)) (.d (.val (.int k b))) := by subst h; exact .same
theorem DLead.eq {x y : DV} (h : x = y) : DLead x (.d y) := by subst h; exact .same
mutual
def AV.leads (σ : Nat → Option Nat) : AV → AV → Prop
 | .dead, _ => True
 | .und, y => y = .und
 | .d x, y => DLead x y
 | .own id n, y => ∃ j, σ id = some j ∧ y = .own j n
 | .ptr id n, y => ∃ j, σ id = some j ∧ y = .ptr j n
 | .part id o n, y => ∃ j, σ id = some j ∧ y = .part j o n
 | .mp id, y => ∃ j, σ id = some j ∧ y = .mp j
 | .tight e sz els, y => y = .tight e sz els
 | .agg cs, y => ∃ ds, y = .agg ds ∧ AV.leadsL σ cs ds
 | .tup cs, y => ∃ ds, y = .tup ds ∧ AV.leadsL σ cs ds
 | .clo f cs, y => ∃ ds, y = .clo f ds ∧ AV.leadsL σ cs ds
def AV.leadsL (σ : Nat → Option Nat) : List AV → List AV → Prop
 | [], l => l = []
 | c :: cs, l => ∃ d ds, l = d :: ds ∧ c.leads σ d ∧ AV.leadsL σ cs ds
end
theorem AV.leadsL_get {σ : Nat → Option Nat} : ∀ {cs ds : List AV}, AV.leadsL σ cs ds → cs.length = ds.length ∧ ∀ (i : Nat) c, cs[i]? = some c → ∃ d, ds[i]? = some d ∧ c.leads σ d
 | [], ds, h => by simp only [AV.leadsL] at h; subst h; simp
 | c :: cs, ds, h => by
  simp only [AV.leadsL] at h;obtain ⟨d, ds, rfl, h1, h2⟩ := h;obtain ⟨h3, h4⟩ := AV.leadsL_get h2;refine ⟨by simp [h3], fun i c' hc => ?_⟩;cases i with
  | zero => simp at hc; subst hc; exact ⟨d, rfl, h1⟩
  | succ i => simpa using h4 i c' (by simpa using hc)
theorem ARep.lead {m m' : Nat → Option (Option Nat × Nat)} {F F' : Nat → Prop} {w : World} {σ : Nat → Option Nat} (hm : ∀ id j p, σ id = some j → m j = some p → m' id = some p) (hF : ∀ k, F k → F' k) {y : AV} {v : Value} (h : ARep m F w y v) : ∀ x : AV, x.leads σ y → ARep m' F' w x v := by
 induction h with
 | dead => intro x hx; cases x <;> simp [AV.leads] at hx; exact .dead; cases hx
 | und => intro x hx; cases x <;> simp [AV.leads] at hx; exact .dead; exact .und; cases hx
 | d h =>
  intro x hx;cases x <;> simp [AV.leads] at hx
  ·exact .dead
  cases hx with
  | same => exact .d (h.mono hF)
  | nil => cases h; exact .d .nil
 | own h h0 => intro x hx; cases x <;> simp [AV.leads] at hx; exact .dead; cases hx; obtain ⟨j, hs, hj, hn⟩ := hx; subst hj; subst hn; exact .own (hm _ _ _ hs h) h0
 | ptr h => intro x hx; cases x <;> simp [AV.leads] at hx; exact .dead; cases hx; obtain ⟨j, hs, hj, hn⟩ := hx; subst hj; subst hn; exact .ptr (hm _ _ _ hs h)
 | part h h1 => intro x hx; cases x <;> simp [AV.leads] at hx; exact .dead; cases hx; obtain ⟨j, hs, hj, ho, hn⟩ := hx; subst hj; subst ho; subst hn; exact .part (hm _ _ _ hs h) h1
 | mp h => intro x hx; cases x <;> simp [AV.leads] at hx; exact .dead; cases hx; exact .mp (hm _ _ _ hx h)
 | tight h => intro x hx; cases x <;> simp [AV.leads] at hx; exact .dead; cases hx; obtain ⟨rfl, rfl, rfl⟩ := hx; exact .tight (h.mono hF)
 | agg h1 _ h3 ih =>
  intro x hx;cases x <;> simp [AV.leads] at hx
  ·exact .dead
  ·cases hx
  obtain ⟨h4, h5⟩ := AV.leadsL_get hx;exact .agg (by omega) (fun i c hc => by obtain ⟨d, hd, hl⟩ := h5 i c hc; exact ih i d hd c hl) h3
 | tup h1 _ ih =>
  intro x hx;cases x <;> simp [AV.leads] at hx
  ·exact .dead
  ·cases hx
  obtain ⟨h4, h5⟩ := AV.leadsL_get hx;exact .tup (by omega) (fun i c hc => by obtain ⟨d, hd, hl⟩ := h5 i c hc; exact ih i d hd c hl)
 | clo h1 _ ih =>
  intro x hx;cases x <;> simp [AV.leads] at hx
  ·exact .dead
  ·cases hx
  obtain ⟨ds, ⟨hf, hd⟩, hx⟩ := hx;subst hf; subst hd;obtain ⟨h4, h5⟩ := AV.leadsL_get hx;exact .clo (by omega) (fun i c hc => by obtain ⟨d, hd, hl⟩ := h5 i c hc; exact ih i d hd c hl)
def Chunk.leads (σ : Nat → Option Nat) : Chunk → Chunk → Prop
 | .cells t cs, c => ∃ ds, c = .cells t ds ∧ AV.leadsL σ cs ds
 | .arr e sz els, c => c = .arr e sz els
 | .iter st pos, c => c = .iter st pos
 | .map es, c => c = .map es
 | .obj o, c => c = .obj o
 | .pred S K, c => c = .pred S K
 | .lock id p, c => ∃ j, c = .lock j p ∧ σ id = some j
theorem Chunk.leads.foot {σ : Nat → Option Nat} {c d : Chunk} (h : c.leads σ d) : d.foot = c.foot := by
 cases c with
 | cells t cs => obtain ⟨ds, rfl, _⟩ := h; rfl
 | arr e sz els => obtain rfl : d = _ := h; rfl
 | iter st pos => obtain rfl : d = _ := h; rfl
 | map es => obtain rfl : d = _ := h; rfl
 | obj o => obtain rfl : d = _ := h; rfl
 | pred S K => obtain rfl : d = _ := h; rfl
 | lock id p => obtain ⟨j, rfl, _⟩ := h; rfl
theorem Chunk.leads.occ {σ : Nat → Option Nat} {c d : Chunk} (h : c.leads σ d) {p : Option Nat × Nat} {k : Nat} : YteakkoiflbaleaaGreat.occ p d k ↔ YteakkoiflbaleaaGreat.occ p c k := by
 unfold YteakkoiflbaleaaGreat.occ; rw [h.foot]
theorem CRep.lead {m m' : Nat → Option (Option Nat × Nat)} {F F' : Nat → Prop} {w : World} {σ : Nat → Option Nat} (hm : ∀ id j p, σ id = some j → m j = some p → m' id = some p) (hF : ∀ k, F k → F' k) {p : Option Nat × Nat} {c d : Chunk} (h : CRep m F w p d) (hx : c.leads σ d) : CRep m' F' w p c := by
 cases c with
 | cells t cs =>
  obtain ⟨ds, rfl, hx⟩ := hx;obtain ⟨h4, h5⟩ := AV.leadsL_get hx;cases h with
  | cells h1 h2 h3 h6 => exact .cells h1 (by omega) (fun i c hc => by obtain ⟨d, hd, hl⟩ := h5 i c hc; exact (h3 i d hd).lead hm hF c hl) h6
 | arr e sz els =>
  simp only [Chunk.leads] at hx;subst hx;cases h with
  | arr h1 h2 h3 h4 h5 h6 h7 h8 => exact .arr h1 h2 h3 h4 h5 h6 h7 (fun i cs j d hi hj => (h8 i cs j d hi hj).mono hF)
  | nil h => exact .nil h
 | iter st pos =>
  simp only [Chunk.leads] at hx;subst hx;cases h with
  | iter h => exact .iter h
 | map es =>
  simp only [Chunk.leads] at hx;subst hx;cases h with
  | map h => exact .map h
 | obj o =>
  simp only [Chunk.leads] at hx;subst hx;cases h with
  | obj h => exact .obj h
 | pred S K =>
  simp only [Chunk.leads] at hx;subst hx;cases h with
  | pred h1 h2 h3 => exact .pred h1 h2 h3
 | lock id q =>
  obtain ⟨j, rfl, hj⟩ := hx;cases h with
  | lock h => exact .lock (hm _ _ _ hj h)
section
variable {P : Program} {C : Ctx} {Q : Exit → ASt → Prop} {s : ASt} {ops : Array Oper}
def ASpec (P : Program) (f : FuncId) (args : List AV) (chs : List (Nat × Chunk)) (R : AV → List (Nat × Chunk) → Prop) : Prop :=
 ∀ (w : World) (m : Nat → Option (Option Nat × Nat)) (Fin : Nat → Prop) (vs : Array Value),
  (∀ k, Fin k → k < w.heap.size ∧ ∀ id c p, getL id chs = some c → m id = some p → ¬ occ p c k) →
  vs.size = args.length → (∀ (i : Nat) x, args[i]? = some x → ARep m Fin w x (vs.getD i undef)) →
  (∀ id c, getL id chs = some c → id < chs.length ∧ ∃ p, m id = some p ∧ CRep m Fin w p c) →
  (∀ id id' c c' p p' b, getL id chs = some c → getL id' chs = some c' → m id = some p → m id' = some p' → occ p c b → occ p' c' b → id = id') →
  (∀ id, chs.length ≤ id → m id = none) →
  Calls P f vs w fun e w' => ∃ v r chs' m' F', e = .returned v ∧ R r chs' ∧
   (∀ id p, id < chs.length → m id = some p → m' id = some p) ∧ (∀ id, chs.length + 8 ≤ id → m' id = none) ∧
   (∀ k, F' k ↔ (Fin k ∨ (∃ id c p, getL id chs = some c ∧ m id = some p ∧ occ p c k) ∨ w.heap.size ≤ k) ∧ k < w'.heap.size ∧ ∀ id c p, getL id chs' = some c → m' id = some p → ¬ occ p c k) ∧
   (w'.os = w.os ∧ w'.tape = w.tape ∧ w'.output = w.output ∧ w.heap.size ≤ w'.heap.size ∧ ∀ k, k < w.heap.size → (∀ id c p, getL id chs = some c → m id = some p → ¬ occ p c k) → w'.heap[k]? = w.heap[k]?) ∧
   ARep m' F' w' r v ∧
   (∀ id c, getL id chs' = some c → ∃ p, m' id = some p ∧ CRep m' F' w' p c ∧ ∀ b, occ p c b → w.heap.size ≤ b ∨ ∃ id0 c0 p0, getL id0 chs = some c0 ∧ m id0 = some p0 ∧ occ p0 c0 b) ∧
   (∀ id id' c c' p p' b, getL id chs' = some c → getL id' chs' = some c' → m' id = some p → m' id' = some p' → occ p c b → occ p' c' b → id = id')
def chL : List (Nat × Chunk) → List (Nat × Option Chunk)
 | [] => []
 | (i, c) :: t => (i, some c) :: chL t
theorem getL_chL (id : Nat) : ∀ l : List (Nat × Chunk), (getL id (chL l)).getD none = getL id l
 | [] => rfl
 | (i, c) :: t => by
  simp only [chL, getL_cons]
  split
  ·rfl
  exact getL_chL id t
def slL : Nat → List AV → List (Nat × AV)
 | _, [] => []
 | i, x :: l => (i, x) :: slL (i + 1) l
theorem getL_slL : ∀ (l : List AV) (k i : Nat), getL i (slL k l) = if k ≤ i then l[i - k]? else none
 | [], k, i => by simp [slL, getL]
 | x :: l, k, i => by
  simp only [slL, getL_cons, getL_slL l]
  by_cases h1 : i = k
  ·subst h1; simp
  rw [if_neg h1]
  by_cases h2 : k ≤ i
  ·rw [if_pos (show k + 1 ≤ i by omega), if_pos h2, show i - k = (i - (k + 1)) + 1 by omega]; simp
  rw [if_neg (show ¬ k + 1 ≤ i by omega), if_neg h2]
def entry (n : Nat) (args : List AV) (chs : List (Nat × Chunk)) : ASt := ⟨n, chs.length, slL 0 args, chL chs⟩
def resOne (P : Program) [PT P] (s : ASt) : ResultVar → Option AV
 | .tmp t => some (s.get t)
 | .cell t ty =>
  match s.get t with
  | .ptr id 0 =>
   match s.chunk id, PT.ty P ty with
   | some (.cells _ cs), some ts =>
    bif ts.kind.isRow then (bif Nat.beq cs.length ts.size then some (.agg cs) else none) else cs.head?
   | _, _ => none
  | _ => none
def resL (P : Program) [PT P] (s : ASt) : List ResultVar → Option (List AV)
 | [] => some []
 | r :: l =>
  match resOne P s r, resL P s l with
  | some x, some xs => some (x :: xs)
  | _, _ => none
def resAV (P : Program) [PT P] (s : ASt) (l : List ResultVar) : Option AV :=
 match resL P s l with
 | some [x] => some x
 | some xs => some (.tup xs)
 | none => none
structure RetQ (P : Program) [PT P] (fn : Func) (k : Nat) (R : AV → List (Nat × Chunk) → Prop) (s : ASt) : Prop where
 out : ∃ x r chs' ρ, resAV P s fn.results.toList = some x ∧ R r chs' ∧ r.leads (sig k ρ) x ∧ (∀ id c, getL id chs' = some c → ∃ j d, sig k ρ id = some j ∧ s.chunk j = some d ∧ c.leads (sig k ρ) d) ∧ (∀ id, k + 8 ≤ id → sig k ρ id = none) ∧ (∀ id id' j, (∃ c, getL id chs' = some c) → (∃ c, getL id' chs' = some c) → sig k ρ id = some j → sig k ρ id' = some j → id = id')
inductive BodyQ (P : Program) [PT P] (fn : Func) (k : Nat) (R : AV → List (Nat × Chunk) → Prop) : Exit → ASt → Prop
 | r {s : ASt} : RetQ P fn k R s → BodyQ P fn k R .ret s
 | n {s : ASt} : RetQ P fn k R s → BodyQ P fn k R .normal s
end
section
variable {P : Program} [PT P] {C : Ctx} {Q : Exit → ASt → Prop} {s : ASt} {ops : Array Oper}
variable {U : Nat → Prop} {a : Act} {w : World} {m : Nat → Option (Option Nat × Nat)}
def resRun (P : Program) (tmps : Array Value) : ResultVar → Sem Value
 | .tmp t => pure (tmps.getD t undef)
 | .cell a t => do loadVar t (← asAddr (tmps.getD a undef))
theorem resOne_run (hR : RelM C U s a w m) {r : ResultVar} {x : AV} (h : resOne P s r = some x) : ∃ v, (resRun P a.tmps r).run P w = .ok v w ∧ ARep m (Fz C m s w) w x v := by
 cases r with
 | tmp t =>
  simp only [resOne, Option.some.injEq] at h;subst h;exact ⟨_, rfl, hR.sl t⟩
 | cell t ty =>
  simp only [resOne] at h;have hs := hR.sl t
  split at h
  ·rename_i id hg;rw [hg] at hs
   split at h
   ·rename_i tt cs ts hc hty;generalize hv : a.tmps.getD t undef = v at hs;cases hs with
    | ptr hp =>
     have hC := hR.chunkAt hc hp;cases hC with
     | cells hb hsz he h1 =>
      rename_i b cap arr;cases hrow : ts.kind.isRow with
      | true =>
       rw [hrow] at h;simp only [cond_true] at h;cases hl : Nat.beq cs.length ts.size with
       | false => simp [hl] at h
       | true =>
        simp only [hl, cond_true, Option.some.injEq] at h;subst h;have hl' : cs.length = ts.size := by simpa using hl
        obtain ⟨d, hd, hdr⟩ := PT.row hty hrow
        have hrange : w.rangeAt b 0 arr.toList := fun j v hj => by
         rw [Nat.zero_add]; simp only [Array.getElem?_toList] at hj; simp [World.cell?, hb, hj]
        have := run_loadVar_mid (P := P) w b 0 ty arr.toList d hrange hd hdr (by rw [PT.info hty]; simp [hsz, hl']);exact ⟨.agg arr, by simp only [resRun, hv, asAddr, Sem.run_bind, Sem.run_pure, Result.andThen_ok, this], .agg hsz he h1⟩
      | false =>
       rw [hrow] at h;simp only [cond_false] at h;cases cs with
       | nil => simp at h
       | cons c cs =>
        simp only [List.head?_cons, Option.some.injEq] at h;subst h;have hcell := cell_getD (i := 0) hb (by rw [hsz]; simp);refine ⟨arr.getD 0 undef, ?_, he 0 c rfl⟩;simp [resRun, hv, asAddr, loadVar, PT.notRow hty hrow w, load, Sem.run, hcell]
   cases h
  cases h
theorem resL_run (hR : RelM C U s a w m) : ∀ {l : List ResultVar} {xs : List AV}, resL P s l = some xs → ∃ vs : List Value, (l.mapM (resRun P a.tmps)).run P w = .ok vs w ∧ vs.length = xs.length ∧ ∀ (i : Nat) x, xs[i]? = some x → ARep m (Fz C m s w) w x (vs.getD i undef)
 | [], xs, h => by
  simp only [resL, Option.some.injEq] at h;subst h;exact ⟨[], by simp, rfl, by simp⟩
 | r :: l, xs, h => by
  simp only [resL] at h;cases h1 : resOne P s r with
  | none => simp [h1] at h
  | some x =>
   cases h2 : resL P s l with
   | none => simp [h1, h2] at h
   | some xs' =>
    simp only [h1, h2, Option.some.injEq] at h;subst h;obtain ⟨v, e1, e2⟩ := resOne_run hR h1;obtain ⟨vs, e3, e4, e5⟩ := resL_run hR h2;refine ⟨v :: vs, by simp [List.mapM_cons, e1, e3], by simp [e4], fun i y hy => ?_⟩;cases i with
    | zero => simp at hy; subst hy; exact e2
    | succ i => simpa using e5 i y (by simpa using hy)
theorem results_run (hR : RelM C U s a w m) {fn : Func} {x : AV} (h : resAV P s fn.results.toList = some x) : ∃ v, (results fn a.tmps).run P w = .ok v w ∧ ARep m (Fz C m s w) w x v := by
 unfold resAV at h
 have key : ∀ xs, resL P s fn.results.toList = some xs → ∃ vs : Array Value, (fn.results.mapM (resRun P a.tmps)).run P w = .ok vs w ∧ vs.size = xs.length ∧ ∀ (i : Nat) x, xs[i]? = some x → ARep m (Fz C m s w) w x (vs.getD i undef) := by
  intro xs hx;obtain ⟨vs, e1, e2, e3⟩ := resL_run hR hx;refine ⟨vs.toArray, ?_, by simpa using e2, fun i x hx => ?_⟩
  ·rw [Array.mapM_eq_mapM_toList];show Sem.run P (List.mapM (resRun P a.tmps) fn.results.toList >>= fun x => pure x.toArray) w = _;simp [Sem.run_bind, e1]
  have := e3 i x hx;simpa [Array.getD_eq_getD_getElem?, List.getD] using this
 have hdef : (results fn a.tmps) = (fn.results.mapM (resRun P a.tmps)) >>= fun vs => pure (if h : vs.size = 1 then vs[0] else .tuple vs) := by
  have hfun : (resRun P a.tmps) = (fun r => match r with
    | .tmp t => pure (a.tmps.getD t undef)
    | .cell b t => do loadVar t (← asAddr (a.tmps.getD b undef))) := by funext r; cases r <;> rfl
  rw [hfun]
  rfl
 rw [hdef]
 split at h
 ·rename_i y hy;simp only [Option.some.injEq] at h;subst h;obtain ⟨vs, e1, e2, e3⟩ := key _ hy;have hs : vs.size = 1 := by simpa using e2
  refine ⟨vs[0], by simp [Sem.run_bind, e1, hs], ?_⟩;have := e3 0 y rfl;simpa [Array.getD_eq_getD_getElem?, hs] using this
 ·rename_i xs hne hy;simp only [Option.some.injEq] at h;subst h;obtain ⟨vs, e1, e2, e3⟩ := key _ hy
  have hs : ¬ vs.size = 1 := by
   intro h1;rw [e2] at h1
   match xs, h1 with
   | [y], _ => exact hne y rfl
  exact ⟨.tuple vs, by simp [Sem.run_bind, e1, hs], .tup e2 e3⟩
 cases h
theorem ASpec.of {f : FuncId} {fn : Func} {c : Code} {args : List AV} {chs : List (Nat × Chunk)} {R : AV → List (Nat × Chunk) → Prop} (hf : P.funcs[f]? = some fn) (hb : fn.body = some c) (hn : Nat.ble args.length fn.ntmps = true)
  (h : ∀ C : Ctx, C.k = chs.length → ACode P C c (BodyQ P fn chs.length R) (entry fn.ntmps args chs)) : ASpec P f args chs R := by
 intro w m Fin vs hFin hsz hargs hchs hinj hun;have hn : args.length ≤ fn.ntmps := by simpa using hn
 have hkey : ∀ (l : List (Nat × Chunk)) id, (∃ c, (id, c) ∈ l) → ∃ c, getL id l = some c := by
  intro l id ⟨c, hc⟩
  induction l with
  | nil => cases hc
  | cons q l ih =>
   obtain ⟨j, d⟩ := q;rw [getL_cons]
   by_cases hij : id = j
   ·exact ⟨d, by rw [if_pos hij]⟩
   rw [if_neg hij];rcases List.mem_cons.1 hc with h | h
   ·simp only [Prod.mk.injEq] at h; exact absurd h.1 hij
   exact ih h
 have hmem : ∀ (l : List (Nat × Chunk)) id c, getL id l = some c → (id, c) ∈ l := by
  intro l id c hc
  induction l with
  | nil => simp [getL] at hc
  | cons q l ih =>
   obtain ⟨j, d⟩ := q;rw [getL_cons] at hc
   split at hc
   ·rename_i e; simp only [Option.some.injEq] at hc; subst e; subst hc; simp
   exact List.mem_cons_of_mem _ (ih hc)
 obtain ⟨S, hS⟩ : ∃ S : List Nat, ∀ b, b ∈ S ↔ ∃ id c p, getL id chs = some c ∧ m id = some p ∧ occ p c b := by
  classical
  refine ⟨(List.range w.heap.size).filter fun b => decide (∃ id c p, getL id chs = some c ∧ m id = some p ∧ occ p c b), fun b => ?_⟩;rw [List.mem_filter, decide_eq_true_eq, List.mem_range];refine ⟨fun h => h.2, fun h => ⟨?_, h⟩⟩;obtain ⟨id, c, p, h1, h2, h3⟩ := h;obtain ⟨_, q, hq, hr⟩ := hchs id c h1;rw [h2] at hq;obtain rfl : p = q := by simpa using hq
  exact hr.lt h3
 have hchunk : ∀ id, (entry fn.ntmps args chs).chunk id = getL id chs := fun id => getL_chL id chs
 have hget : ∀ i, (entry fn.ntmps args chs).get i = (args[i]?).getD .dead := fun i => by
  show (getL i (slL 0 args)).getD .dead = _;rw [getL_slL]; simp
 have hR0 : RelM ⟨w, Fin, S, m, chs.length⟩ (fun id => chs.length ≤ id) (entry fn.ntmps args chs) { tmps := vs ++ Array.replicate (fn.ntmps - vs.size) undef, defers := [] } w m := by
  have hF0 : ∀ k, Fin k → Fz ⟨w, Fin, S, m, chs.length⟩ m (entry fn.ntmps args chs) w k := fun k hk => ⟨.inl hk, (hFin k hk).1, fun id c p hc hp => (hFin k hk).2 id c p (by rw [← hchunk]; exact hc) hp⟩
  refine ⟨Fr.refl _ _, fun k hk => ⟨(hFin k hk).1, fun hkS => ?_⟩, ?_, fun i => ?_, fun id c hc => ?_, fun id id' c c' p p' h1 h2 hp hp' b hb hb' => ?_, hun, rfl, MLe.refl m, hun⟩
  ·obtain ⟨id, c, p, h1, h2, h3⟩ := (hS k).1 hkS;exact (hFin k hk).2 id c p h1 h2 h3
  ·show (vs ++ Array.replicate (fn.ntmps - vs.size) undef).size = fn.ntmps;simp; omega
  ·rw [hget];cases hx : args[i]? with
   | none => exact .dead
   | some x =>
    have hi := (List.getElem?_eq_some_iff.1 hx).1
    have : (vs ++ Array.replicate (fn.ntmps - vs.size) undef).getD i undef = vs.getD i undef := by
     simp [Array.getD_eq_getD_getElem?, Array.getElem?_append, show i < vs.size by omega]
    show ARep _ _ _ x ((vs ++ Array.replicate (fn.ntmps - vs.size) undef).getD i undef);rw [this];exact (hargs i x hx).turn (MLe.refl m) (fun k hk _ => ⟨hF0 k hk, rfl⟩)
  ·rw [hchunk] at hc;obtain ⟨_, p, hp, hr⟩ := hchs id c hc;exact ⟨p, hp, hr.turn (MLe.refl m) (fun k hk _ => ⟨hF0 k hk, rfl⟩) (fun _ _ => rfl), fun b hb => .inl ((hS b).2 ⟨id, c, p, hc, hp, hb⟩)⟩
  rw [hchunk] at h1 h2;exact hinj id id' c c' p p' b h1 h2 hp hp' hb hb'
 refine calls_of_wp hf hb (Go.wp_mono ((h ⟨w, Fin, S, m, chs.length⟩ rfl).run _ w ⟨m, hR0⟩) ?_);rintro e a w' ⟨s, ⟨mm, hR⟩, hq⟩
 have main : RetQ P fn chs.length R s → a.defers = [] ∧ ∃ v, (results fn a.tmps).run P w' = .ok v w' ∧ ∃ v1 r chs' m' F', Ending.returned v = .returned v1 ∧ R r chs' ∧
   (∀ id p, id < chs.length → m id = some p → m' id = some p) ∧ (∀ id, chs.length + 8 ≤ id → m' id = none) ∧
   (∀ k, F' k ↔ (Fin k ∨ (∃ id c p, getL id chs = some c ∧ m id = some p ∧ occ p c k) ∨ w.heap.size ≤ k) ∧ k < w'.heap.size ∧ ∀ id c p, getL id chs' = some c → m' id = some p → ¬ occ p c k) ∧
   (w'.os = w.os ∧ w'.tape = w.tape ∧ w'.output = w.output ∧ w.heap.size ≤ w'.heap.size ∧ ∀ k, k < w.heap.size → (∀ id c p, getL id chs = some c → m id = some p → ¬ occ p c k) → w'.heap[k]? = w.heap[k]?) ∧
   ARep m' F' w' r v1 ∧
   (∀ id c, getL id chs' = some c → ∃ p, m' id = some p ∧ CRep m' F' w' p c ∧ ∀ b, occ p c b → w.heap.size ≤ b ∨ ∃ id0 c0 p0, getL id0 chs = some c0 ∧ m id0 = some p0 ∧ occ p0 c0 b) ∧
   (∀ id id' c c' p p' b, getL id chs' = some c → getL id' chs' = some c' → m' id = some p → m' id' = some p' → occ p c b → occ p' c' b → id = id') := by
  rintro ⟨⟨x, r, chs', ρ, hx, hRr, hlead, hch', hsig, hsinj⟩⟩;obtain ⟨v, hv, hvr⟩ := results_run hR hx;refine ⟨hR.defers, v, hv, v, r, chs', fun id => (sig chs.length ρ id).bind mm, fun k => (Fin k ∨ (∃ id c p, getL id chs = some c ∧ m id = some p ∧ occ p c k) ∨ w.heap.size ≤ k) ∧ k < w'.heap.size ∧ ∀ id c p, getL id chs' = some c → (sig chs.length ρ id).bind mm = some p → ¬ occ p c k, rfl, hRr, ?_, ?_, fun k => Iff.rfl, ?_, ?_, ?_, ?_⟩
  ·intro id p hid hp
   have : sig chs.length ρ id = some id := by
    unfold sig;have : Nat.blt id chs.length = true := by simpa using hid
    rw [this]; rfl
   simp only [this, Option.bind_some];exact hR.m0 id p hp
  ·intro id hid;simp only [hsig id hid, Option.bind_none]
  ·refine ⟨hR.fr.os, hR.fr.tape, hR.fr.output, hR.fr.size, fun k hk hn => hR.fr.block k hk (fun hkS => ?_)⟩;obtain ⟨id, c, p, h1, h2, h3⟩ := (hS k).1 hkS;exact hn id c p h1 h2 h3
  all_goals
   have hm : ∀ id j p, sig chs.length ρ id = some j → mm j = some p → (fun id => (sig chs.length ρ id).bind mm) id = some p := fun id j p h1 h2 => by simp [h1, h2]
   have hF : ∀ k, Fz ⟨w, Fin, S, m, chs.length⟩ mm s w' k → ((Fin k ∨ (∃ id c p, getL id chs = some c ∧ m id = some p ∧ occ p c k) ∨ w.heap.size ≤ k) ∧ k < w'.heap.size ∧ ∀ id c p, getL id chs' = some c → (sig chs.length ρ id).bind mm = some p → ¬ occ p c k) := by
    intro k hk;refine ⟨hk.1.imp id (fun h => h.imp (fun h => (hS k).1 h) id), hk.2.1, fun id c p hc hp => ?_⟩;obtain ⟨j, d, h1, h2, h3⟩ := hch' id c hc;simp only [h1, Option.bind_some] at hp;exact fun ho => hk.2.2 j d p h2 hp (h3.occ.2 ho)
  ·exact hvr.lead hm hF r hlead
  ·intro id c hc;obtain ⟨j, d, h1, h2, h3⟩ := hch' id c hc;obtain ⟨p, hp, hr, hl⟩ := hR.ch j d h2;refine ⟨p, hm id j p h1 hp, hr.lead hm hF h3, fun b hb => ?_⟩;rcases hl b (h3.occ.2 hb) with h | h
   ·obtain ⟨id0, c0, p0, g1, g2, g3⟩ := (hS b).1 h;exact .inr ⟨id0, c0, p0, g1, g2, g3⟩
   exact .inl h
  intro id id' c c' p p' b h1 h2 hp hp' hb hb';obtain ⟨j, d, g1, g2, g3⟩ := hch' id c h1;obtain ⟨j', d', g1', g2', g3'⟩ := hch' id' c' h2;simp only [g1, g1', Option.bind_some] at hp hp';have := hR.inj j j' d d' p p' g2 g2' hp hp' b (g3.occ.2 hb) (g3'.occ.2 hb');subst this;exact hsinj id id' j ⟨c, h1⟩ ⟨c', h2⟩ g1 g1'
 cases hq with
 | r hq => obtain ⟨h1, v, h2, h3⟩ := main hq; exact ⟨h1, v, h2, h3⟩
 | n hq => obtain ⟨h1, v, h2, h3⟩ := main hq; exact ⟨h1, v, h2, h3⟩
end
structure NOpR (P : Program) (ids : List Nat) (s : ASt) (o : Oper) (f : Nat) (Us : Upd → Prop) : Prop where
 run : ∀ s', Agr ids o s s' → ∀ C U U' a w m, RelM C U s' a w m → (∀ k, k < 8 → U (f + k)) → (∀ j, U' j → U j ∧ (j < f ∨ f + 8 ≤ j)) → dstOk o.dst s'.n = true → ∀ K Q, (∀ u, Us u → ∀ a' w' m', RelM C U' (s'.app o.dst u) a' w' m' → K a' w') → o.wp P a w K Q
def sigC (cs : List Nat) (i : Nat) : Option Nat := cs[i]?
def tauC (cs : List Nat) (f i : Nat) : Nat := (cs[i]?).getD (f + (i - cs.length))
def mapC (cs : List Nat) (f : Nat) : List (Nat × Chunk) → List (Nat × Option Chunk)
 | [] => []
 | (i, c) :: t => (tauC cs f i, some (c.ren (tauC cs f))) :: mapC cs f t
def noneC : List Nat → List (Nat × Option Chunk)
 | [] => []
 | i :: t => (i, none) :: noneC t
def callU (cs : List Nat) (f : Nat) (r : AV) (chs : List (Nat × Chunk)) : Upd := ⟨r.ren (tauC cs f), mapC cs f chs ++ noneC cs⟩
theorem getL_mapC {cs : List Nat} {f id : Nat} {o : Option Chunk} : ∀ {l : List (Nat × Chunk)}, getL id (mapC cs f l) = some o → ∃ i c, getL i l = some c ∧ tauC cs f i = id ∧ o = some (c.ren (tauC cs f))
 | [], h => by simp [mapC, getL] at h
 | (j, d) :: l, h => by
  simp only [mapC, getL_cons] at h
  split at h
  ·rename_i e;simp only [Option.some.injEq] at h;exact ⟨j, d, by simp [getL_cons], e.symm, h.symm⟩
  rename_i e;obtain ⟨i, c, h1, h2, h3⟩ := getL_mapC h;refine ⟨i, c, ?_, h2, h3⟩;rw [getL_cons, if_neg]
  ·exact h1
  rintro rfl; exact e h2.symm
theorem getL_noneC {id : Nat} {o : Option Chunk} : ∀ {l : List Nat}, getL id (noneC l) = some o → id ∈ l ∧ o = none
 | [], h => by simp [noneC, getL] at h
 | j :: l, h => by
  simp only [noneC, getL_cons] at h
  split at h
  ·rename_i e; simp only [Option.some.injEq] at h; exact ⟨by simp [e], h.symm⟩
  obtain ⟨h1, h2⟩ := getL_noneC h; exact ⟨List.mem_cons_of_mem _ h1, h2⟩
theorem getL_noneC_mem {id : Nat} : ∀ {l : List Nat}, id ∈ l → ∃ o, getL id (noneC l) = some o
 | j :: l, h => by
  simp only [noneC, getL_cons]
  by_cases e : id = j
  ·exact ⟨none, by rw [if_pos e]⟩
  rw [if_neg e];exact getL_noneC_mem (by rcases List.mem_cons.1 h with h | h; exact absurd h e; exact h)
section
variable {P : Program} [PT P]
variable {s : ASt} {dst : Option Nat} {ty : Nat} {pos : String} {af : Array Edge} {gd : Option (Nat × Bool)} {f : Nat}
def Enters (P : Program) (g : FuncId) : Prop := ∀ (args : Array Value) (w : World), (callFunc g args).run P w = .ok (.enter g args) w
theorem h_callR {g : FuncId} {caps ys ars : List AV} {fx : Operand} {xs : Array Operand} {ats : Array TypeId} {chs : List (Nat × Chunk)} {R : AV → List (Nat × Chunk) → Prop} {cs : List Nat} (hen : Enters P g) (hf : s.ev fx = .clo g caps) (hys : xs.toList.map s.ev ++ caps = ys)
  (hspec : ASpec P g ars chs R) (hlead : AV.leadsL (sigC cs) ars ys) (hlen : chs.length = cs.length) (hch : ∀ (id : Nat) c, getL id chs = some c → ∃ j d, cs[id]? = some j ∧ s.chunk j = some d ∧ c.leads (sigC cs) d)
  (hall : ∀ (id j : Nat), cs[id]? = some j → ∃ d, s.chunk j = some d) (hnd : ∀ (i i' j : Nat), cs[i]? = some j → cs[i']? = some j → i = i') :
  NOpR P cs s ⟨dst, .call { callee := .value fx, args := xs, argTypes := ats }, ty, pos, af, gd⟩ f (fun u => ∃ r chs', R r chs' ∧ u = callU cs f r chs') := by
 refine ⟨fun s' ha C U U' a w m hR hU hU' hd K Q hK => ?_⟩;have hfx := hR.ev fx;rw [ha.2.1 fx (by simp [Op.operands, Call.operands]), hf] at hfx;have hchunk : ∀ j, j ∈ cs → s'.chunk j = s.chunk j := fun j hj => ha.2.2 j hj
 have hblk : ∀ j c p b, s'.chunk j = some c → m j = some p → occ p c b → b < w.heap.size := by
  intro j c p b h1 h2 h3;obtain ⟨q, hq, hr, _⟩ := hR.ch j c h1;rw [h2] at hq;obtain rfl : p = q := by simpa using hq
  exact hr.lt h3
 generalize hfv : a.eval fx = fv at hfx;cases hfx with
 | clo hc1 hc2 =>
  rename_i cv
  have hrun : (execOp a.eval ⟨dst, .call { callee := .value fx, args := xs, argTypes := ats }, ty, pos, af, gd⟩).run P w = .ok (.enter g (xs.map a.eval ++ cv)) w := by
   simp [execOp, resolve, hfv, Deferred.ofValue, invoke, hen (xs.map a.eval ++ cv) w]
  obtain ⟨hl1, hl2⟩ := AV.leadsL_get hlead
  let mc : Nat → Option (Option Nat × Nat) := fun i => (cs[i]?).bind m
  have hmc : ∀ i j, cs[i]? = some j → mc i = m j := fun i j h => by simp [mc, h]
  have harg : ∀ (i : Nat) y, ys[i]? = some y → ARep m (Fz C m s' w) w y ((xs.map a.eval ++ cv).getD i undef) := by
   intro i y hy;rw [← hys] at hy
   by_cases hi : i < xs.size
   ·rw [List.getElem?_append_left (by simpa using hi), List.getElem?_map, Option.map_eq_some_iff] at hy;obtain ⟨x, hx, rfl⟩ := hy;have hx' : xs[i]? = some x := by simpa using hx
    have := hR.ev x;rw [ha.2.1 x (by simp only [Op.operands, Call.operands, Array.mem_append]; exact .inr (Array.mem_of_getElem? hx'))] at this
    have e : (xs.map a.eval ++ cv).getD i undef = a.eval x := by
     have hxi : xs[i] = x := (Array.getElem?_eq_some_iff.1 hx').2;simp [Array.getD_eq_getD_getElem?, Array.getElem?_append, hi, hxi]
    rw [e]; exact this
   rw [List.getElem?_append_right (by simpa using Nat.le_of_not_lt hi)] at hy;have := hc2 _ y hy
   have e : (xs.map a.eval ++ cv).getD i undef = cv.getD (i - xs.size) undef := by
    simp [Array.getD_eq_getD_getElem?, Array.getElem?_append, hi]
   rw [e]; simpa using this
  have hcall := hspec w mc (Fz C m s' w) (xs.map a.eval ++ cv) ?_ ?_ ?_ ?_ ?_ ?_
  ·unfold Oper.wp;rw [hrun];simp only [Oper.upon];refine Calls.mono hcall ?_;rintro e w' ⟨v, r, chs', m1, F1, rfl, hRr, hp1, hn1, hF1, ⟨f1, f2, f3, f4, f5⟩, hv, hc', hi'⟩;have hmf : ∀ k, k < 8 → m (f + k) = none := fun k hk => hR.un _ (hU k hk)
   let m2 : Nat → Option (Option Nat × Nat) := fun j => if f ≤ j ∧ j < f + 8 then m1 (cs.length + (j - f)) else m j
   have hle : MLe m m2 := by
    intro j p hp
    have : ¬ (f ≤ j ∧ j < f + 8) := fun h => by
     have := hmf (j - f) (by omega);rw [show f + (j - f) = j by omega, hp] at this;cases this
    simp [m2, this, hp]
   have hm12 : ∀ id p, m1 id = some p → m2 (tauC cs f id) = some p := by
    intro id p hp
    by_cases hid : id < cs.length
    ·have hj : cs[id]? = some cs[id] := List.getElem?_eq_getElem hid;obtain ⟨d, hd⟩ := hall id _ hj;rw [← hchunk _ (List.getElem_mem hid)] at hd;obtain ⟨q, hq, _⟩ := hR.ch _ d hd;have h1 := hp1 id q (by omega) (by rw [hmc id _ hj]; exact hq);rw [hp] at h1;obtain rfl : p = q := by simpa using h1
     have : tauC cs f id = cs[id] := by simp [tauC, hj]
     rw [this];exact hle _ _ hq
    have h8 : id < cs.length + 8 := by
     rcases Nat.lt_or_ge id (cs.length + 8) with h | h
     ·exact h
     have := hn1 id (by omega); rw [hp] at this; cases this
    have : tauC cs f id = f + (id - cs.length) := by simp [tauC, List.getElem?_eq_none (Nat.le_of_not_lt hid)]
    rw [this];have hin : f ≤ f + (id - cs.length) ∧ f + (id - cs.length) < f + 8 := by omega
    simp only [m2, hin, and_self, if_true];rw [show cs.length + (f + (id - cs.length) - f) = id by omega];exact hp
   have hold1 : ∀ k, k < w.heap.size → (∀ j c p, j ∈ cs → s'.chunk j = some c → m j = some p → ¬ occ p c k) → w'.heap[k]? = w.heap[k]? := by
    intro k hk hn;refine f5 k hk (fun id c p h1 h2 h3 => ?_);obtain ⟨j, d, g1, g2, g3⟩ := hch id c h1;rw [hmc id j g1] at h2;exact hn j d p (List.mem_of_getElem? g1) (by rw [hchunk j (List.mem_of_getElem? g1)]; exact g2) h2 (g3.occ.2 h3)
   have hgone : ∀ id c, getL id (callU cs f r chs').ch = some (some c) → ∃ i c0, getL i chs' = some c0 ∧ tauC cs f i = id ∧ c = c0.ren (tauC cs f) := by
    intro id c h;simp only [callU, getL_append] at h;cases hm : getL id (mapC cs f chs') with
    | some o =>
     rw [hm] at h;simp only [Option.some_or, Option.some.injEq] at h;subst h;obtain ⟨i, c0, h1, h2, h3⟩ := getL_mapC hm;exact ⟨i, c0, h1, h2, by simpa using h3⟩
    | none =>
     rw [hm] at h;simp only [Option.none_or] at h;have := (getL_noneC h).2;cases this
   have hnot : ∀ id, getL id (callU cs f r chs').ch = none → id ∉ cs := by
    intro id h hmem;simp only [callU, getL_append] at h;obtain ⟨o, ho⟩ := getL_noneC_mem hmem;rw [ho] at h;cases hm : getL id (mapC cs f chs') <;> simp [hm] at h
   have hnewblk : ∀ i c0 p b, getL i chs' = some c0 → m1 i = some p → occ p c0 b → w.heap.size ≤ b ∨ ∃ j c p0, j ∈ cs ∧ s'.chunk j = some c ∧ m j = some p0 ∧ occ p0 c b := by
    intro i c0 p b h1 h2 h3;obtain ⟨q, hq, _, hl⟩ := hc' i c0 h1;rw [h2] at hq;obtain rfl : p = q := by simpa using hq
    rcases hl b h3 with h | ⟨id0, c1, p0, g1, g2, g3⟩
    ·exact .inl h
    obtain ⟨j, d, q1, q2, q3⟩ := hch id0 c1 g1;rw [hmc id0 j q1] at g2;exact .inr ⟨j, d, p0, List.mem_of_getElem? q1, by rw [hchunk j (List.mem_of_getElem? q1)]; exact q2, g2, q3.occ.2 g3⟩
   have hm2 : ∀ i c0, getL i chs' = some c0 → ∀ p, m2 (tauC cs f i) = some p → m1 i = some p := by
    intro i c0 h1 p hp;obtain ⟨q, hq, _⟩ := hc' i c0 h1;have := hm12 i q hq;rw [hp] at this;rw [hq, this]
   refine hK _ ⟨r, chs', hRr, rfl⟩ _ _ m2 (hR.step hd hle (fun j hj => ?_) ?_ f4 (fun k hk => ⟨fun id c p h1 h2 h3 => ?_, hold1 k hk.2.1 (fun j c p _ h1 h2 => hk.2.2 j c p h1 h2)⟩) (fun id c p b h0 h1 h2 h3 => ?_) (fun F' hF hF2 => ?_) (fun id id' c c' p p' b h1 h2 hp hp' hb hb' => ?_))
   ·have := hU' j hj;have h2 : ¬ (f ≤ j ∧ j < f + 8) := by omega
    simp only [m2, h2, if_false];exact hR.un j this.1
   ·refine ⟨f1.trans hR.fr.os, f2.trans hR.fr.tape, f3.trans hR.fr.output, Nat.le_trans hR.fr.size f4, fun k hk hn => ?_⟩;rw [hold1 k (Nat.lt_of_lt_of_le hk hR.fr.size) (fun j c p _ h1 h2 h3 => ?_)]
    ·exact hR.fr.block k hk hn
    obtain ⟨q, hq, _, hl⟩ := hR.ch j c h1;rw [h2] at hq;obtain rfl : p = q := by simpa using hq
    rcases hl k h3 with h | h
    ·exact hn h
    omega
   ·obtain ⟨i, c0, g1, rfl, rfl⟩ := hgone id c h1;rcases hnewblk i c0 p k g1 (hm2 i c0 g1 p h2) (occ_ren.1 h3) with h | ⟨j, c1, p0, _, q1, q2, q3⟩
    ·have := hk.2.1; omega
    exact hk.2.2 j c1 p0 q1 q2 q3
   ·refine hold1 b (hblk id c p b h1 h2 h3) (fun j c1 p1 hj g1 g2 g3 => ?_);have := hR.inj id j c c1 p p1 h1 g1 h2 g2 b h3 g3;subst this;exact hnot id h0 hj
   ·have hFF : ∀ k, F1 k → F' k := by
     intro k hk;obtain ⟨k1, k2, k3⟩ := (hF1 k).1 hk;refine hF2 k ?_ k2 (fun id c p h1 h2 h3 => ?_)
     ·rcases k1 with h | ⟨id, c, p, h1, h2, h3⟩ | h
      ·exact h.1
      ·obtain ⟨j, d, g1, g2, g3⟩ := hch id c h1;rw [hmc id j g1] at h2;obtain ⟨q, hq, _, hl⟩ := hR.ch j d (by rw [hchunk j (List.mem_of_getElem? g1)]; exact g2);rw [h2] at hq;obtain rfl : p = q := by simpa using hq
       exact .inr (hl k (g3.occ.2 h3))
      exact .inr (.inr (Nat.le_trans hR.fr.size h))
     rw [ASt.chunk_app] at h1;cases hg : getL id (callU cs f r chs').ch with
     | some o =>
      rw [hg] at h1;simp only at h1;subst h1;obtain ⟨i, c0, g1, rfl, rfl⟩ := hgone id c hg;exact k3 i c0 p g1 (hm2 i c0 g1 p h2) (occ_ren.1 h3)
     | none =>
      rw [hg] at h1;simp only at h1;obtain ⟨q, hq, _⟩ := hR.ch id c h1;have := hle id q hq;rw [h2] at this;obtain rfl : p = q := by simpa using this
      rcases k1 with h | ⟨id1, c1, p1, t1, t2, t3⟩ | h
      ·exact h.2.2 id c p h1 hq h3
      ·obtain ⟨j, d, g1, g2, g3⟩ := hch id1 c1 t1;rw [hmc id1 j g1] at t2;have := hR.inj id j c d p p1 h1 (by rw [hchunk j (List.mem_of_getElem? g1)]; exact g2) hq t2 k h3 (g3.occ.2 t3);subst this;exact hnot id hg (List.mem_of_getElem? g1)
      have := hblk id c p k h1 hq h3; omega
    refine ⟨hv.ren hm12 hFF, fun id c h => ?_⟩;obtain ⟨i, c0, g1, rfl, rfl⟩ := hgone id c h;obtain ⟨p, q1, q2, q3⟩ := hc' i c0 g1;refine ⟨p, hm12 i p q1, q2.ren hm12 hFF, fun b hb => ?_⟩;rcases hnewblk i c0 p b g1 q1 (occ_ren.1 hb) with h | ⟨j, c1, p0, _, t1, t2, t3⟩
    ·exact .inr (Nat.le_trans hR.fr.size h)
    obtain ⟨q, hq, _, hl⟩ := hR.ch j c1 t1;rw [t2] at hq;obtain rfl : p0 = q := by simpa using hq
    exact hl b t3
   obtain ⟨i, c0, g1, rfl, rfl⟩ := hgone id c h1;have hp1' := hm2 i c0 g1 p hp;rw [ASt.chunk_app] at h2;cases hg : getL id' (callU cs f r chs').ch with
   | some o =>
    rw [hg] at h2;simp only at h2;subst h2;obtain ⟨i', c0', g1', rfl, rfl⟩ := hgone id' c' hg;have := hi' i i' c0 c0' p p' b g1 g1' hp1' (hm2 i' c0' g1' p' hp') (occ_ren.1 hb) (occ_ren.1 hb');rw [this]
   | none =>
    rw [hg] at h2;simp only at h2;obtain ⟨q, hq, _⟩ := hR.ch id' c' h2;have := hle id' q hq;rw [hp'] at this;obtain rfl : p' = q := by simpa using this
    have hlt := hblk id' c' p' b h2 hq hb';rcases hnewblk i c0 p b g1 hp1' (occ_ren.1 hb) with h | ⟨j, c1, p0, t0, t1, t2, t3⟩
    ·omega
    have := hR.inj id' j c' c1 p' p0 h2 t1 hq t2 b hb' t3;subst this;exact absurd t0 (hnot id' hg)
  ·intro k hk;refine ⟨hk.2.1, fun id c p h1 h2 => ?_⟩;obtain ⟨j, d, g1, g2, g3⟩ := hch id c h1;rw [hmc id j g1] at h2;exact fun ho => hk.2.2 j d p (by rw [hchunk j (List.mem_of_getElem? g1)]; exact g2) h2 (g3.occ.2 ho)
  ·have : ys.length = xs.size + caps.length := by rw [← hys]; simp
   simp only [Array.size_append, Array.size_map];omega
  ·intro i x hx;obtain ⟨y, hy, hxy⟩ := hl2 i x hx;exact (harg i y hy).lead (fun id j p h1 h2 => by rw [hmc id j h1]; exact h2) (fun _ h => h) x hxy
  ·intro id c hc;obtain ⟨j, d, g1, g2, g3⟩ := hch id c hc;have hj := List.mem_of_getElem? g1;obtain ⟨p, hp, hr, _⟩ := hR.ch j d (by rw [hchunk j hj]; exact g2);refine ⟨by rw [hlen]; exact (List.getElem?_eq_some_iff.1 g1).1, p, by rw [hmc id j g1]; exact hp, hr.lead (fun id j p h1 h2 => by rw [hmc id j h1]; exact h2) (fun _ h => h) g3⟩
  ·intro id id' c c' p p' b h1 h2 hp hp' hb hb';obtain ⟨j, d, g1, g2, g3⟩ := hch id c h1;obtain ⟨j', d', g1', g2', g3'⟩ := hch id' c' h2;rw [hmc id j g1] at hp;rw [hmc id' j' g1'] at hp';have := hR.inj j j' d d' p p' (by rw [hchunk j (List.mem_of_getElem? g1)]; exact g2) (by rw [hchunk j' (List.mem_of_getElem? g1')]; exact g2') hp hp' b (g3.occ.2 hb) (g3'.occ.2 hb');subst this;exact hnd id id' j g1 g1'
  intro id hid;simp [mc, List.getElem?_eq_none (show cs.length ≤ id by omega)]
end
def leadsS (σ : Nat → Option Nat) (s : ASt) : List (Nat × AV) → Prop
 | [] => True
 | (i, x) :: l => x.leads σ (s.get i) ∧ leadsS σ s l
def leadsC (σ : Nat → Option Nat) (s : ASt) : List (Nat × Option Chunk) → Prop
 | [] => True
 | (_, none) :: l => leadsC σ s l
 | (id, some c) :: l => (∃ j d, σ id = some j ∧ s.chunk j = some d ∧ c.leads σ d) ∧ leadsC σ s l
def keysC : List (Nat × Option Chunk) → List Nat
 | [] => []
 | (_, none) :: l => keysC l
 | (id, some _) :: l => id :: keysC l
theorem leadsS_get {σ : Nat → Option Nat} {s : ASt} : ∀ {l : List (Nat × AV)}, leadsS σ s l → ∀ i, ((getL i l).getD .dead).leads σ (s.get i)
 | [], _, i => by simp [getL, AV.leads]
 | (j, x) :: l, h, i => by
  rw [getL_cons]
  split
  ·rename_i e; subst e; exact h.1
  exact leadsS_get h.2 i
theorem leadsC_get {σ : Nat → Option Nat} {s : ASt} : ∀ {l : List (Nat × Option Chunk)}, leadsC σ s l → ∀ id c, (getL id l).getD none = some c → (∃ j d, σ id = some j ∧ s.chunk j = some d ∧ c.leads σ d) ∧ id ∈ keysC l
 | [], _, id, c, hc => by simp [getL] at hc
 | (j, none) :: l, h, id, c, hc => by
  rw [getL_cons] at hc
  split at hc
  ·simp at hc
  exact leadsC_get (l := l) h id c hc
 | (j, some d) :: l, h, id, c, hc => by
  rw [getL_cons] at hc
  split at hc
  ·rename_i e;subst e;simp only [Option.getD_some, Option.some.injEq] at hc;subst hc;exact ⟨h.1, by simp [keysC]⟩
  have := leadsC_get h.2 id c hc;exact ⟨this.1, List.mem_cons_of_mem _ this.2⟩
def apartL (σ : Nat → Option Nat) : List Nat → Bool
 | [] => true
 | i :: l => l.all (fun j => bif Nat.beq i j then true else bif (match σ i, σ j with | some a, some b => Nat.beq a b | _, _ => false) then false else true) && apartL σ l
theorem apartL_inj {σ : Nat → Option Nat} : ∀ {l : List Nat}, apartL σ l = true → ∀ i j k, i ∈ l → j ∈ l → σ i = some k → σ j = some k → i = j
 | x :: l, h, i, j, k, hi, hj, h1, h2 => by
  simp only [apartL, Bool.and_eq_true, List.all_eq_true] at h
  have key : ∀ y, y ∈ l → σ x = some k → σ y = some k → x = y := by
   intro y hy e1 e2;have := h.1 y hy
   by_cases hxy : Nat.beq x y = true
   ·simpa using hxy
   simp only [Bool.not_eq_true] at hxy;simp [hxy, e1, e2] at this
  rcases List.mem_cons.1 hi with rfl | hi' <;> rcases List.mem_cons.1 hj with rfl | hj'
  ·rfl
  ·exact key j hj' h1 h2
  ·exact (key i hi' h2 h1).symm
  exact apartL_inj h.2 i j k hi' hj' h1 h2
section
variable {P : Program} [PT P] {C : Ctx} {Q : Exit → ASt → Prop} {s : ASt} {ops : Array Oper}
theorem Weak.ren {t : ASt} (k : Nat) (ρ : List (Nat × Nat)) (hk : C.k = k) (hn : t.n = s.n) (hs : leadsS (sig k ρ) s t.sl) (hc : leadsC (sig k ρ) s t.ch) (ha : apartL (sig k ρ) (keysC t.ch) = true) (hx : ρ.all (fun p => Nat.blt p.1 t.nx) = true) (hkx : Nat.ble k t.nx = true) : Weak C s t := by
  refine ⟨?_⟩;rintro a w ⟨m, hR⟩;have hm : ∀ id j p, sig k ρ id = some j → m j = some p → (fun id => (sig k ρ id).bind m) id = some p := fun id j p h1 h2 => by simp [h1, h2]
  have hkx : k ≤ t.nx := by simpa using hkx
  have hF : ∀ q, Fz C m s w q → Fz C (fun id => (sig k ρ id).bind m) t w q := by
    intro q hq;refine ⟨hq.1, hq.2.1, fun id c p h1 h2 => ?_⟩;obtain ⟨⟨j, d, g1, g2, g3⟩, _⟩ := leadsC_get hc id c h1;simp only [g1, Option.bind_some] at h2;exact fun ho => hq.2.2 j d p g2 h2 (g3.occ.2 ho)
  refine ⟨fun id => (sig k ρ id).bind m, hR.fr, hR.fin, by rw [hn]; exact hR.sz, fun i => (hR.sl i).lead hm hF _ (leadsS_get hs i), fun id c h1 => ?_, fun id id' c c' p p' h1 h2 hp hp' b hb hb' => ?_, fun id hid => ?_, hR.defers, fun id p hp => ?_, hR.m0k⟩
  · obtain ⟨⟨j, d, g1, g2, g3⟩, _⟩ := leadsC_get hc id c h1;obtain ⟨p, hp, hr, hl⟩ := hR.ch j d g2;exact ⟨p, hm id j p g1 hp, hr.lead hm hF g3, fun b hb => hl b (g3.occ.2 hb)⟩
  · obtain ⟨⟨j, d, g1, g2, g4⟩, g3⟩ := leadsC_get hc id c h1;obtain ⟨⟨j', d', g1', g2', g4'⟩, g3'⟩ := leadsC_get hc id' c' h2;simp only [g1, g1', Option.bind_some] at hp hp';have := hR.inj j j' d d' p p' g2 g2' hp hp' b (g4.occ.2 hb) (g4'.occ.2 hb');subst this;exact apartL_inj ha id id' j g3 g3' g1 g1'
  · show (sig k ρ id).bind m = none
    have h1 : Nat.blt id k = false := by
      cases h : Nat.blt id k with
      | true => have : id < k := by simpa using h
                omega
      | false => rfl
    have key : ∀ l : List (Nat × Nat), l.all (fun p => Nat.blt p.1 t.nx) = true → getL id l = none := by
      intro l
      induction l with
      | nil => intro _; rfl
      | cons p l ih =>
        obtain ⟨j, x⟩ := p;intro h;simp only [List.all_cons, Bool.and_eq_true] at h;have hj : j < t.nx := by simpa using h.1
        rw [getL_cons, if_neg (by omega)];exact ih h.2
    simp [sig, h1, key ρ hx]
  show (sig k ρ id).bind m = some p
  have hid : id < C.k := by
    rcases Nat.lt_or_ge id C.k with h | h
    · exact h
    have := hR.m0k id h; rw [hp] at this; cases this
  have : sig k ρ id = some id := by
    unfold sig;have : Nat.blt id k = true := by simpa [← hk] using hid
    rw [this]; rfl
  simp only [this, Option.bind_some];exact hR.m0 id p hp
theorem zw {t : ASt} {k : Nat} (ρ : List (Nat × Nat)) (hk : C.k = k) (a : leadsS (sig k ρ) s t.sl := by repeat (first | exact True.intro | refine And.intro ?_ ?_ | exact DLead.same | exact DLead.eqI (by omega) | exact DLead.eqI (by dsimp only; omega) | exact DLead.nil | exact rfl | refine ⟨_, _, rfl, rfl, ?_⟩ | refine ⟨_, rfl, ?_⟩ | refine ⟨_, _, rfl, ?_, ?_⟩)) (b : leadsC (sig k ρ) s t.ch := by repeat (first | exact True.intro | refine And.intro ?_ ?_ | exact DLead.same | exact DLead.eqI (by omega) | exact DLead.eqI (by dsimp only; omega) | exact DLead.nil | exact rfl | refine ⟨_, _, rfl, rfl, ?_⟩ | refine ⟨_, rfl, ?_⟩ | refine ⟨_, _, rfl, ?_, ?_⟩)) (hn : t.n = s.n := by exact rfl) (ha : apartL (sig k ρ) (keysC t.ch) = true := by exact rfl) (hx : ρ.all (fun p => Nat.blt p.1 t.nx) = true := by exact rfl) (hkx : Nat.ble k t.nx = true := by exact rfl) : Weak C s t := Weak.ren k ρ hk hn a b ha hx hkx
theorem Weak.freeze {i id n e sz : Nat} {els els' : List (List DV)} (hs : s.get i = .own id n) (hc : s.chunk id = some (.arr e sz els)) (hn : n ≤ els.length) (he : els.take n = els') : Weak C s { s with sl := (i, .d (.view e sz els')) :: s.sl, ch := (id, none) :: s.ch } := by
 subst he;refine ⟨?_⟩;rintro a w ⟨m, hR⟩
 have hch : ∀ j c, (getL j ((id, none) :: s.ch)).getD none = some c → j ≠ id ∧ s.chunk j = some c := by
  intro j c h;rw [getL_cons] at h
  split at h
  ·simp at h
  rename_i e; exact ⟨e, h⟩
 have hF : ∀ q, Fz C m s w q → Fz C m { s with sl := (i, .d (.view e sz (els.take n))) :: s.sl, ch := (id, none) :: s.ch } w q := fun q hq => ⟨hq.1, hq.2.1, fun j c p h1 h2 => hq.2.2 j c p (hch j c h1).2 h2⟩
 refine ⟨m, hR.fr, hR.fin, hR.sz, fun j => ?_, fun j c h1 => ?_, fun j j' c c' p p' h1 h2 hp hp' b hb hb' => hR.inj j j' c c' p p' (hch j c h1).2 (hch j' c' h2).2 hp hp' b hb hb', hR.un, hR.defers, hR.m0, hR.m0k⟩
 ·show ARep _ _ _ ((getL j ((i, .d (.view e sz (els.take n))) :: s.sl)).getD .dead) _;rw [getL_cons]
  by_cases hj : j = i
  ·subst hj;rw [if_pos rfl];have hv := hR.sl j;rw [hs] at hv;generalize a.tmps.getD j undef = v at hv;simp only [Option.getD_some];cases hv with
   | own hp h0 =>
    rename_i cap b;have hC := hR.chunkAt hc hp;cases hC with
    | nil h =>
     have : n = 0 := by simpa using hn
     subst this;exact .d .nil
    | arr hb hf hsz hl hm h0' hrow hel =>
     rename_i b arr fz;have hlen : (els.take n).length = n := by simp; omega
     have hsub : ∀ (i : Nat) cs, (els.take n)[i]? = some cs → els[i]? = some cs := by
      intro i cs hi;rw [List.getElem?_take] at hi
      split at hi
      ·exact hi
      cases hi
     obtain ⟨q, hq, hr, hloc⟩ := hR.ch id _ hc;rw [hp] at hq;obtain rfl : (some b, cap) = q := by simpa using hq
     have hFb : Fz C m { s with sl := (j, .d (.view e sz (els.take n))) :: s.sl, ch := (id, none) :: s.ch } w b := by
      refine ⟨.inr (hloc b (.inl rfl)), lt_of_block hb, fun j' c p h1 h2 h3 => ?_⟩;obtain ⟨hne, h4⟩ := hch j' c h1;exact hne (hR.inj j' id c _ p _ h4 hc h2 hp b h3 (.inl rfl))
     have := DRep.view (F := Fz C m { s with sl := (j, .d (.view e sz (els.take n))) :: s.sl, ch := (id, none) :: s.ch } w) (e := e) (sz := sz) (els := els.take n) (off := 0) (cap := cap) hFb hb (by omega) hm (by omega) (fun i cs hi => hrow i cs (hsub i cs hi)) (fun i cs j d hi hj => by rw [Nat.zero_add]; exact (hel i cs j d (hsub i cs hi) hj).mono hF);rw [hlen] at this;exact .d this
  rw [if_neg hj];exact (hR.sl j).turn (MLe.refl m) (fun k hk _ => ⟨hF k hk, rfl⟩)
 obtain ⟨_, h2⟩ := hch j c h1;obtain ⟨p, hp, hr, hl⟩ := hR.ch j c h2;exact ⟨p, hp, hr.turn (MLe.refl m) (fun k hk _ => ⟨hF k hk, rfl⟩) (fun _ _ => rfl), hl⟩
theorem Weak.nilOwn {i e sz : Nat} (hs : s.get i = .d (.val (.slice none 0 0))) (h0 : 0 < sz) : Weak C s { n := s.n, nx := s.nx + 8, sl := (i, .own s.nx 0) :: s.sl, ch := (s.nx, some (.arr e sz [])) :: s.ch } := by
 refine ⟨?_⟩;rintro a w ⟨m, hR⟩;have hid : m s.nx = none := hR.un _ (Nat.le_refl _);have hle := newM_le m s.nx (none, 0) hid
 have hch : ∀ j c, (getL j ((s.nx, some (.arr e sz [])) :: s.ch)).getD none = some c → (j = s.nx ∧ c = .arr e sz []) ∨ (j ≠ s.nx ∧ s.chunk j = some c) := by
  intro j c h;rw [getL_cons] at h
  split at h
  ·rename_i e; simp at h; exact .inl ⟨e, h.symm⟩
  rename_i e; exact .inr ⟨e, h⟩
 have hF : ∀ q, Fz C m s w q → Fz C (newM m s.nx (none, 0)) { n := s.n, nx := s.nx + 8, sl := (i, .own s.nx 0) :: s.sl, ch := (s.nx, some (.arr e sz [])) :: s.ch } w q := by
  intro q hq;refine ⟨hq.1, hq.2.1, fun j c p h1 h2 h3 => ?_⟩;rcases hch j c h1 with ⟨rfl, rfl⟩ | ⟨hne, h⟩
  ·rw [newM_self] at h2; simp only [Option.some.injEq] at h2; subst h2; cases h3.one_arr
  simp only [newM, hne, if_false] at h2;exact hq.2.2 j c p h h2 h3
 refine ⟨newM m s.nx (none, 0), hR.fr, hR.fin, hR.sz, fun j => ?_, fun j c h1 => ?_, fun j j' c c' p p' h1 h2 hp hp' b hb hb' => ?_, fun j hj => ?_, hR.defers, fun id p hp => hle id p (hR.m0 id p hp), hR.m0k⟩
 ·show ARep _ _ _ ((getL j ((i, .own s.nx 0) :: s.sl)).getD .dead) _;rw [getL_cons]
  by_cases hj : j = i
  ·subst hj;rw [if_pos rfl];have hv := hR.sl j;rw [hs] at hv;rw [hv.val_eq.1];exact .own (b := none) (newM_self _ _ _) (by simp)
  rw [if_neg hj];exact (hR.sl j).turn hle (fun k hk _ => ⟨hF k hk, rfl⟩)
 ·rcases hch j c h1 with ⟨rfl, rfl⟩ | ⟨hne, h⟩
  ·exact ⟨_, newM_self _ _ _, .nil h0, fun b hb => by cases hb.one_arr⟩
  obtain ⟨p, hp, hr, hl⟩ := hR.ch j c h;exact ⟨p, hle _ _ hp, hr.turn hle (fun k hk _ => ⟨hF k hk, rfl⟩) (fun _ _ => rfl), hl⟩
 ·rcases hch j c h1 with ⟨rfl, rfl⟩ | ⟨hne, h⟩
  ·rw [newM_self] at hp; simp only [Option.some.injEq] at hp; subst hp; cases hb.one_arr
  rcases hch j' c' h2 with ⟨rfl, rfl⟩ | ⟨hne', h'⟩
  ·rw [newM_self] at hp'; simp only [Option.some.injEq] at hp'; subst hp'; cases hb'.one_arr
  simp only [newM, hne, hne', if_false] at hp hp';exact hR.inj j j' c c' p p' h h' hp hp' b hb hb'
 have hj : s.nx + 8 ≤ j := hj;have : j ≠ s.nx := by omega
 simp only [newM, this, if_false];exact hR.un j (by omega)
theorem Weak.nilOwnC {id0 k e sz tt : Nat} {cs : List AV} (hc : s.chunk id0 = some (.cells tt cs)) (hk : cs[k]? = some (.d (.val (.slice none 0 0)))) (h0 : 0 < sz) (hid0 : id0 ≠ s.nx) : Weak C s { n := s.n, nx := s.nx + 8, sl := s.sl, ch := (id0, some (.cells tt (cs.set k (.own s.nx 0)))) :: (s.nx, some (.arr e sz [])) :: s.ch } := by
 refine ⟨?_⟩;rintro a w ⟨m, hR⟩;have hid : m s.nx = none := hR.un _ (Nat.le_refl _);have hle := newM_le m s.nx (none, 0) hid
 have hch : ∀ j c, (getL j ((id0, some (.cells tt (cs.set k (.own s.nx 0)))) :: (s.nx, some (.arr e sz [])) :: s.ch)).getD none = some c → (j = id0 ∧ c = .cells tt (cs.set k (.own s.nx 0))) ∨ (j = s.nx ∧ c = .arr e sz []) ∨ (j ≠ id0 ∧ j ≠ s.nx ∧ s.chunk j = some c) := by
  intro j c h;rw [getL_cons] at h
  split at h
  ·rename_i e; simp at h; exact .inl ⟨e, h.symm⟩
  rename_i e;rw [getL_cons] at h
  split at h
  ·rename_i e'; simp at h; exact .inr (.inl ⟨e', h.symm⟩)
  rename_i e'; exact .inr (.inr ⟨e, e', h⟩)
 have hm : ∀ j p, j ≠ s.nx → newM m s.nx (none, 0) j = some p → m j = some p := fun j p hj h => by simpa [newM, hj] using h
 have hF : ∀ q, Fz C m s w q → Fz C (newM m s.nx (none, 0)) { n := s.n, nx := s.nx + 8, sl := s.sl, ch := (id0, some (.cells tt (cs.set k (.own s.nx 0)))) :: (s.nx, some (.arr e sz [])) :: s.ch } w q := by
  intro q hq;refine ⟨hq.1, hq.2.1, fun j c p h1 h2 h3 => ?_⟩;rcases hch j c h1 with ⟨rfl, rfl⟩ | ⟨rfl, rfl⟩ | ⟨_, hne, h⟩
  ·exact hq.2.2 j _ p hc (hm _ _ hid0 h2) (.inl h3.one_cells)
  ·rw [newM_self] at h2; simp only [Option.some.injEq] at h2; subst h2; cases h3.one_arr
  exact hq.2.2 j c p h (hm _ _ hne h2) h3
 refine ⟨newM m s.nx (none, 0), hR.fr, hR.fin, hR.sz, fun j => (hR.sl j).turn hle (fun k hk _ => ⟨hF k hk, rfl⟩), fun j c h1 => ?_, fun j j' c c' p p' h1 h2 hp hp' b hb hb' => ?_, fun j hj => ?_, hR.defers, fun id p hp => hle id p (hR.m0 id p hp), hR.m0k⟩
 ·rcases hch j c h1 with ⟨rfl, rfl⟩ | ⟨rfl, rfl⟩ | ⟨_, hne, h⟩
  ·obtain ⟨p, hp, hr, hl⟩ := hR.ch j _ hc;refine ⟨p, hle _ _ hp, ?_, fun b hb => hl b (.inl hb.one_cells)⟩;cases hr with
   | cells g1 g2 g3 g4 =>
    refine .cells g1 (by simpa using g2) (fun i x hx => ?_) g4
    by_cases hik : k = i
    ·subst hik;rw [List.getElem?_set_self (List.getElem?_eq_some_iff.1 hk).1] at hx;simp only [Option.some.injEq] at hx;subst hx;have := g3 k _ hk;rw [this.val_eq.1];exact .own (b := none) (newM_self _ _ _) (by simp)
    rw [List.getElem?_set_ne hik] at hx;exact (g3 i x hx).turn hle (fun k hk _ => ⟨hF k hk, rfl⟩)
  ·exact ⟨_, newM_self _ _ _, .nil h0, fun b hb => by cases hb.one_arr⟩
  obtain ⟨p, hp, hr, hl⟩ := hR.ch j c h;exact ⟨p, hle _ _ hp, hr.turn hle (fun k hk _ => ⟨hF k hk, rfl⟩) (fun _ _ => rfl), hl⟩
 ·have old : ∀ j c p, (getL j ((id0, some (.cells tt (cs.set k (.own s.nx 0)))) :: (s.nx, some (.arr e sz [])) :: s.ch)).getD none = some c → newM m s.nx (none, 0) j = some p → (∀ b, ¬ occ p c b) ∨ ∃ c0, s.chunk j = some c0 ∧ m j = some p ∧ ∀ b, occ p c b → occ p c0 b := by
   intro j c p q1 q2;rcases hch j c q1 with ⟨rfl, rfl⟩ | ⟨rfl, rfl⟩ | ⟨_, hne, h⟩
   ·exact .inr ⟨_, hc, hm _ _ hid0 q2, fun b hb => .inl hb.one_cells⟩
   ·rw [newM_self] at q2; simp only [Option.some.injEq] at q2; subst q2; exact .inl fun b hb => by cases hb.one_arr
   exact .inr ⟨_, h, hm _ _ hne q2, fun _ h => h⟩
  rcases old j c p h1 hp with h | ⟨c0, g1, g2, g3⟩
  ·exact absurd hb (h b)
  rcases old j' c' p' h2 hp' with h | ⟨c0', g1', g2', g3'⟩
  ·exact absurd hb' (h b)
  exact hR.inj j j' c0 c0' p p' g1 g1' g2 g2' b (g3 b hb) (g3' b hb')
 have hj : s.nx + 8 ≤ j := hj;have : j ≠ s.nx := by omega
 simp only [newM, this, if_false];exact hR.un j (by omega)
theorem AL.call' {ids : List Nat} {o : Oper} {rest : List Oper} {Us : Upd → Prop} (hw : ∀ a w, Rel C s a w → Region.wanted o (yielded ops a.tmps) = true) (hop : NOpR P ids s o s.nx Us) (hd : dstOk o.dst s.n = true) (h : ∀ u, Us u → AL P C ops rest Q (s.nxt o.dst u)) : AL P C ops (o :: rest) Q s := by
 refine ⟨fun a w hR' => ?_⟩;have hwt := hw a w hR';obtain ⟨m, hR⟩ := hR';refine wpList_step fun K hK => ?_
 rw [if_pos hwt];refine hop.run s (Agr.refl _ _ _) C (fun id => s.nx ≤ id) (fun id => s.nx + 8 ≤ id) a w m hR (fun k hk => Nat.le_add_right _ _) (fun j hj => ⟨by omega, .inr hj⟩) hd K _ (fun u hu a' w' m' hR' => hK _ _ ((h u hu).run a' w' ⟨m', hR'.weaken ?_ (fun i => .inr ?_) (fun id c hc => ?_) (fun id hid => ?_)⟩))
 ·cases o.dst <;> rfl
 ·cases o.dst <;> rfl
 ·cases hdst : o.dst <;> (rw [hdst] at hc; exact hc)
 cases hdst : o.dst <;> (rw [hdst] at hid; exact hid)
def Fun1 (r : AV) (chs : List (Nat × Chunk)) : AV → List (Nat × Chunk) → Prop := fun r' chs' => r' = r ∧ chs' = chs
theorem NOpR.one {ids : List Nat} {o : Oper} {f : Nat} {u : Upd} {Us : Upd → Prop} (h : NOpR P ids s o f Us) (hu : ∀ v, Us v → v = u) : NOp P ids s o f u := by
 refine ⟨fun s' ha C U U' a w m hR hU hU' hd K Q hK => ?_⟩;exact h.run s' ha C U U' a w m hR hU hU' hd K Q (fun v hv a' w' m' hR' => by rw [hu v hv] at hR'; exact hK a' w' m' hR')
end
section
variable {P : Program} [PT P] {C : Ctx} {Q : Exit → ASt → Prop} {K : ASt → Prop} {s : ASt} {ops : Array Oper}
variable {dst : Option Nat} {op : Op} {ty : Nat} {pos : String} {af : Array Edge} {rest : List Oper}
theorem AL.p {ids : List Nat} {r : AV} (hop : GOp P ids s ⟨dst, op, ty, pos, af, none⟩ r) (hd : dstOk dst s.n = true) (h : AL P C ops rest Q (s.put dst r)) : AL P C ops (⟨dst, op, ty, pos, af, none⟩ :: rest) Q s := AL.g rfl hop hd h
theorem AL.q {ids : List Nat} {u : Upd} (hop : NOp P ids s ⟨dst, op, ty, pos, af, none⟩ s.nx u) (hd : dstOk dst s.n = true) (h : AL P C ops rest Q (s.nxt dst u)) : AL P C ops (⟨dst, op, ty, pos, af, none⟩ :: rest) Q s := AL.h rfl hop hd h
theorem AL.r {ids : List Nat} {Us : Upd → Prop} (hop : NOpR P ids s ⟨dst, op, ty, pos, af, none⟩ s.nx Us) (hd : dstOk dst s.n = true) (h : ∀ u, Us u → AL P C ops rest Q (s.nxt dst u)) : AL P C ops (⟨dst, op, ty, pos, af, none⟩ :: rest) Q s := AL.call' (fun a w _ => wanted_none rfl a) hop hd h
theorem AL.yes {j t : Nat} {want : Bool} (ht : ((ops[j]?).bind (·.dst)) = some t) (htn : Nat.blt t s.n = true) (hs : s.get t = aT want) (h : AL P C ops (⟨dst, op, ty, pos, af, none⟩ :: rest) Q s) : AL P C ops (⟨dst, op, ty, pos, af, some (j, want)⟩ :: rest) Q s := by
 refine ⟨fun a w hR => ?_⟩;have hw := wanted_yes (o := ⟨dst, op, ty, pos, af, some (j, want)⟩) rfl ht htn hs rfl a w hR;have h1 := h.run a w hR;unfold wpList at h1 ⊢;rw [if_pos (by simp [Region.wanted])] at h1;rw [if_pos hw];exact h1
theorem AL.not {j t : Nat} {want b : Bool} (ht : ((ops[j]?).bind (·.dst)) = some t) (htn : Nat.blt t s.n = true) (hs : s.get t = aT b) (hb : b = !want) (hd : dstOk dst s.n = true) (h : AL P C ops rest Q (s.put dst .und)) : AL P C ops (⟨dst, op, ty, pos, af, some (j, want)⟩ :: rest) Q s :=
 AL.no rfl ht htn hs hb hd h
theorem zm {x : Operand} {y : DV} (h : AL P C ops rest Q (s.put dst (.d y))) (hx : s.ev x = .d y := by exact rfl) (hd : dstOk dst s.n = true := by exact rfl) : AL P C ops (⟨dst, .move x, ty, pos, af, none⟩ :: rest) Q s := AL.p (mv1 hx) hd h
theorem za {x : Operand} {y : DV} (h : AL P C ops rest Q (s.put dst (.d y))) (hx : s.ev x = .d y := by exact rfl) (hd : dstOk dst s.n = true := by exact rfl) : AL P C ops (⟨dst, .assign x, ty, pos, af, none⟩ :: rest) Q s := AL.p (as1 hx) hd h
theorem zy {j t : Nat} {want : Bool} (h : AL P C ops (⟨dst, op, ty, pos, af, none⟩ :: rest) Q s) (ht : ((ops[j]?).bind (·.dst)) = some t := by exact rfl) (htn : Nat.blt t s.n = true := by exact rfl) (hs : s.get t = aT want := by exact rfl) : AL P C ops (⟨dst, op, ty, pos, af, some (j, want)⟩ :: rest) Q s := AL.yes ht htn hs h
theorem zn {j t : Nat} {want b : Bool} (h : AL P C ops rest Q (s.put dst .und)) (ht : ((ops[j]?).bind (·.dst)) = some t := by exact rfl) (htn : Nat.blt t s.n = true := by exact rfl) (hs : s.get t = aT b := by exact rfl) (hb : b = !want := by exact rfl) (hd : dstOk dst s.n = true := by exact rfl) : AL P C ops (⟨dst, op, ty, pos, af, some (j, want)⟩ :: rest) Q s := AL.not ht htn hs hb hd h
theorem zc {x y : Operand} {xt yt : Nat} {k : IntKind} {a b : Int} {op : BinOp} {r : Bool} (h : AL P C ops rest Q (s.put dst (aT r))) (hx : s.ev x = .d (.val (.int k a)) := by exact rfl) (hy : s.ev y = .d (.val (.int k b)) := by exact rfl) (hop : cmpOf op a b = some r := by exact rfl) (hd : dstOk dst s.n = true := by exact rfl) : AL P C ops (⟨dst, .binOp op xt x y yt, ty, pos, af, none⟩ :: rest) Q s := AL.p (g_cmp hx hy hop) hd h
theorem zA {x y : Operand} {xt yt : Nat} {a b c : Int} {op : BinOp} (h : AL P C ops rest Q (s.put dst (.d (.val (.int .i64 c))))) (hx : s.ev x = .d (.val (.int .i64 a)) := by exact rfl) (hy : s.ev y = .d (.val (.int .i64 b)) := by exact rfl) (hop : arithOf op a b = some c := by exact rfl) (hw : IntKind.i64.wrap c = c := by exact wrap_i64 (by omega)) (hd : dstOk dst s.n = true := by exact rfl) : AL P C ops (⟨dst, .binOp op xt x y yt, ty, pos, af, none⟩ :: rest) Q s := AL.p (g_arith hx hy hop hw) hd h
theorem zr {t : Nat} {x : Operand} {ts : TS} {c : DV} {cs : List DV} (h : AL P C ops rest Q (s.put dst (.d c))) (ht : PT.ty P t = some ts := by exact rfl) (hr : ts.kind.isRow = false := by exact rfl) (hx : s.ev x = .d (.ref (c :: cs)) := by exact rfl) (hd : dstOk dst s.n = true := by exact rfl) : AL P C ops (⟨dst, .load t x, ty, pos, af, none⟩ :: rest) Q s := AL.p (g_load_ref ht hr hx) hd h
theorem zf {t : Nat} {x : Operand} {f off sz n bt : Nat} {cs cs2 : List DV} {fs : List (Nat × Nat)} {zs : List ZK} (h : AL P C ops rest Q (s.put dst (.d (.ref cs2)))) (ht : PT.ty P t = some ⟨.struct fs, n, bt, zs⟩ := by exact rfl) (hx : s.ev x = .d (.ref cs) := by exact rfl) (hf : fs[f]? = some (off, sz) := by exact rfl) (hz : Nat.beq sz 0 = false := by exact rfl) (hc : cs.drop off = cs2 := by exact rfl) (hl : Nat.ble off cs.length = true := by exact rfl) (hd : dstOk dst s.n = true := by exact rfl) : AL P C ops (⟨dst, .fieldAddr t x f, ty, pos, af, none⟩ :: rest) Q s := AL.p (g_fa_ref ht hx hf hz hc hl) hd h
theorem zF {t : Nat} {x : Operand} {id k k2 f off sz n bt : Nat} {fs : List (Nat × Nat)} {zs : List ZK} (h : AL P C ops rest Q (s.put dst (.ptr id k2))) (ht : PT.ty P t = some ⟨.struct fs, n, bt, zs⟩ := by exact rfl) (hx : s.ev x = .ptr id k := by exact rfl) (hf : fs[f]? = some (off, sz) := by exact rfl) (hz : Nat.beq sz 0 = false := by exact rfl) (hk : k + off = k2 := by exact rfl) (hd : dstOk dst s.n = true := by exact rfl) : AL P C ops (⟨dst, .fieldAddr t x f, ty, pos, af, none⟩ :: rest) Q s := AL.p (g_fa_ptr ht hx hf hz hk) hd h
theorem zl {t : Nat} {x : Operand} {ts : TS} {id k tt : Nat} {cs : List AV} {c : AV} (h : AL P C ops rest Q (s.put dst c)) (ht : PT.ty P t = some ts := by exact rfl) (hr : ts.kind.isRow = false := by exact rfl) (hx : s.ev x = .ptr id k := by exact rfl) (hc : s.chunk id = some (.cells tt cs) := by exact rfl) (hk : cs[k]? = some c := by exact rfl) (hd : dstOk dst s.n = true := by exact rfl) : AL P C ops (⟨dst, .load t x, ty, pos, af, none⟩ :: rest) Q s := AL.p (g_load_ptr ht hr hx hc hk) hd h
theorem zs {t : Nat} {x y : Operand} {ts : TS} {id k tt : Nat} {cs vs : List AV} (h : AL P C ops rest Q (s.nxt dst ⟨.dead, [(id, some (.cells tt (setL cs k vs)))]⟩)) (ht : PT.ty P t = some ts := by exact rfl) (hx : s.ev x = .ptr id k := by exact rfl) (hc : s.chunk id = some (.cells tt cs) := by exact rfl) (hy : (s.ev y).cells? = some vs := by exact rfl) (hl : vs.length = ts.size := by exact rfl) (hk : Nat.ble (k + vs.length) cs.length = true := by exact rfl) (hd : dstOk dst s.n = true := by exact rfl) : AL P C ops (⟨dst, .store t x y, ty, pos, af, none⟩ :: rest) Q s := AL.q (h_store ht hx hc hy hl hk) hd h
theorem zQ {c a b : Operand} {r : DV} (h : AL P C ops rest Q (s.put dst (.d r))) (hc : s.ev c = aT true := by exact rfl) (ha : s.ev a = .d r := by exact rfl) (hd : dstOk dst s.n = true := by exact rfl) : AL P C ops (⟨dst, .pick c a b, ty, pos, af, none⟩ :: rest) Q s := AL.p (g_pickT hc ha) hd h
theorem zP {c a b : Operand} {r : DV} (h : AL P C ops rest Q (s.put dst (.d r))) (hc : s.ev c = aT false := by exact rfl) (ha : s.ev b = .d r := by exact rfl) (hd : dstOk dst s.n = true := by exact rfl) : AL P C ops (⟨dst, .pick c a b, ty, pos, af, none⟩ :: rest) Q s := AL.p (g_pickF hc ha) hd h
theorem kB {x : Operand} {id k : Nat} (h : AL P C ops rest Q (s.put dst (.own id k))) (hx : s.ev x = .own id k := by exact rfl) (hd : dstOk dst s.n = true := by exact rfl) : AL P C ops (⟨dst, .move x, ty, pos, af, none⟩ :: rest) Q s := AL.p (mv2 hx) hd h
theorem kC {x : Operand} {xt : Nat} {b : Bool} (h : AL P C ops rest Q (s.put dst (aT (!b)))) (hx : s.ev x = aT b := by exact rfl) (hd : dstOk dst s.n = true := by exact rfl) : AL P C ops (⟨dst, .unOp .not xt x, ty, pos, af, none⟩ :: rest) Q s := AL.p (g_not hx) hd h
theorem kD {t : Nat} {x : Operand} {cs : List AV} {ds : List DV} (h : AL P C ops rest Q (s.nxt dst ⟨.d (.ref ds), []⟩)) (h1 : (s.ev x).cells? = some cs := by exact rfl) (h2 : dvs cs = some ds := by exact rfl) (hd : dstOk dst s.n = true := by exact rfl) : AL P C ops (⟨dst, .box t x, ty, pos, af, none⟩ :: rest) Q s := AL.q (h_boxF h1 h2) hd h
theorem kE {t : Nat} {ts : TS} (h : AL P C ops rest Q (s.nxt dst ⟨.ptr s.nx 0, [(s.nx, some (.cells t (ts.zero.map ZK.av)))]⟩)) (ht : PT.ty P t = some ts := by exact rfl) (hd : dstOk dst s.n = true := by exact rfl) : AL P C ops (⟨dst, .alloc t, ty, pos, af, none⟩ :: rest) Q s := AL.q (h_alloc ht) hd h
theorem kG {t : Nat} {x : Operand} {ts : TS} {cs : List DV} (h : AL P C ops rest Q (s.put dst (.agg ((cs.take ts.size).map .d)))) (ht : PT.ty P t = some ts := by exact rfl) (hr : ts.kind.isRow = true := by exact rfl) (hx : s.ev x = .d (.ref cs) := by exact rfl) (hle : Nat.ble ts.size cs.length = true := by exact rfl) (hd : dstOk dst s.n = true := by exact rfl) : AL P C ops (⟨dst, .load t x, ty, pos, af, none⟩ :: rest) Q s := AL.p (g_load_refN ht hr hx hle) hd h
theorem kH {t n bt e e' sz k : Nat} {x : Operand} {zs : List ZK} {els : List (List DV)} (h : AL P C ops rest Q (s.put dst (aI (k : Int)))) (ht : PT.ty P t = some ⟨.slice e, n, bt, zs⟩ := by exact rfl) (hx : s.ev x = .d (.view e' sz els) := by exact rfl) (hk : els.length = k := by exact List.length_map _) (hd : dstOk dst s.n = true := by exact rfl) : AL P C ops (⟨dst, .call { callee := .builtin .len, args := #[x], argTypes := #[t] }, ty, pos, af, none⟩ :: rest) Q s := AL.p (g_len_view ht hx hk) hd h
theorem kI (k : Nat) {t n bt e e' sz : Nat} {x : Operand} {zs : List ZK} {els : List (List DV)} (hk : els.length = k) (h : AL P C ops rest Q (s.put dst (aI (k : Int)))) (ht : PT.ty P t = some ⟨.slice e, n, bt, zs⟩ := by exact rfl) (hx : s.ev x = .d (.view e' sz els) := by exact rfl) (hd : dstOk dst s.n = true := by exact rfl) : AL P C ops (⟨dst, .call { callee := .builtin .len, args := #[x], argTypes := #[t] }, ty, pos, af, none⟩ :: rest) Q s := AL.p (g_len_view ht hx hk) hd h
theorem AL.notU {j t : Nat} {want : Bool} (ht : ((ops[j]?).bind (·.dst)) = some t) (hs : s.get t = .und) (hd : dstOk dst s.n = true) (h : AL P C ops rest Q (s.put dst .und)) : AL P C ops (⟨dst, op, ty, pos, af, some (j, want)⟩ :: rest) Q s :=
 AL.noU rfl ht hs hd h
theorem AL.caseG {j t : Nat} {want : Bool} {p : Prop} [Decidable p] (ht : ((ops[j]?).bind (·.dst)) = some t) (hs : s.get t = aT (decide p)) (hT : p → AL P C ops (⟨dst, op, ty, pos, af, some (j, want)⟩ :: rest) Q (s.put (some t) (aT true))) (hF : ¬ p → AL P C ops (⟨dst, op, ty, pos, af, some (j, want)⟩ :: rest) Q (s.put (some t) (aT false))) : AL P C ops (⟨dst, op, ty, pos, af, some (j, want)⟩ :: rest) Q s := AL.case hs hT hF
theorem AL.caseGN {j t : Nat} {want : Bool} {p : Prop} [Decidable p] (ht : ((ops[j]?).bind (·.dst)) = some t) (hs : s.get t = aT (!decide p)) (hT : ¬ p → AL P C ops (⟨dst, op, ty, pos, af, some (j, want)⟩ :: rest) Q (s.put (some t) (aT true))) (hF : p → AL P C ops (⟨dst, op, ty, pos, af, some (j, want)⟩ :: rest) Q (s.put (some t) (aT false))) : AL P C ops (⟨dst, op, ty, pos, af, some (j, want)⟩ :: rest) Q s := AL.caseB hs (fun h => hT (by simpa using h)) (fun h => hF (by simpa using h))
theorem AL.caseGB {j t : Nat} {want b : Bool} (ht : ((ops[j]?).bind (·.dst)) = some t) (hs : s.get t = aT b) (hT : b = true → AL P C ops (⟨dst, op, ty, pos, af, some (j, want)⟩ :: rest) Q (s.put (some t) (aT true))) (hF : b = false → AL P C ops (⟨dst, op, ty, pos, af, some (j, want)⟩ :: rest) Q (s.put (some t) (aT false))) : AL P C ops (⟨dst, op, ty, pos, af, some (j, want)⟩ :: rest) Q s := AL.caseB hs hT hF
theorem th_n (h : K s) : thenA K Q .normal s := .n h
theorem th_r (h : Q .ret s) : thenA K Q .ret s := .o (by simp) h
theorem th_e {id : Nat} (h : Q (.exit id) s) : thenA K Q (.exit id) s := .o (by simp) h
theorem ib_n {id : Nat} (h : Q .normal s) : inBlockA id Q .normal s := .o (by simp) h
theorem ib_r {id : Nat} (h : Q .ret s) : inBlockA id Q .ret s := .o (by simp) h
theorem ib_y {id : Nat} (h : Q .normal s) : inBlockA id Q (.exit id) s := .y h
def Pure1 (r : AV) : AV → List (Nat × Chunk) → Prop := fun r' chs' => r' = r ∧ chs' = []
theorem bq_r {fn : Func} {k : Nat} {R : AV → List (Nat × Chunk) → Prop} (h : RetQ P fn k R s) : BodyQ P fn k R .ret s := .r h
theorem bq_n {fn : Func} {k : Nat} {R : AV → List (Nat × Chunk) → Prop} (h : RetQ P fn k R s) : BodyQ P fn k R .normal s := .n h
theorem ret0 {fn : Func} {k : Nat} {x r : AV} (hx : resAV P s fn.results.toList = some x) (h : r.leads (sig k []) x) : RetQ P fn k (Pure1 r) s :=
  ⟨⟨x, r, [], [], hx, ⟨rfl, rfl⟩, h, fun id c hc => by simp [getL] at hc, fun id hid => by
    have : Nat.blt id k = false := by cases hb : Nat.blt id k with
      | true => have : id < k := by simpa using hb
                omega
      | false => rfl
    simp [sig, this, getL], fun id id' j h1 => by simp [getL] at h1⟩⟩
theorem ret1 {fn : Func} {k : Nat} {x r : DV} (hx : resAV P s fn.results.toList = some (.d x)) (h : x = r) : RetQ P fn k (Pure1 (.d r)) s := ret0 hx (by subst h; exact .same)
theorem ret2 {fn : Func} {k : Nat} {x r x2 r2 : DV} (hx : resAV P s fn.results.toList = some (.tup [.d x, .d x2])) (h : x = r) (h2 : x2 = r2) : RetQ P fn k (Pure1 (.tup [.d r, .d r2])) s :=
 ret0 hx (by subst h; subst h2; exact ⟨_, rfl, _, _, rfl, .same, _, _, rfl, .same, rfl⟩)
theorem h_pure {g : FuncId} {caps ys ars : List AV} {fx : Operand} {xs : Array Operand} {ats : Array TypeId} {r : AV} {f : Nat} {gd : Option (Nat × Bool)} (hen : Enters P g) (hf : s.ev fx = .clo g caps) (hys : xs.toList.map s.ev ++ caps = ys)
  (hlead : AV.leadsL (sigC []) ars ys) (hspec : ASpec P g ars [] (Pure1 r)) (hr : r.ren (tauC [] f) = r) :
  NOp P [] s ⟨dst, .call { callee := .value fx, args := xs, argTypes := ats }, ty, pos, af, gd⟩ f ⟨r, []⟩ :=
 NOpR.one (h_callR (cs := []) hen hf hys hspec hlead rfl (fun id c h => by simp [getL] at h) (fun id j h => by simp at h) (fun i i' j h => by simp at h)) (by
  rintro v ⟨r', chs', ⟨rfl, rfl⟩, rfl⟩
  simp [callU, mapC, noneC, hr])
def nodupB : List Nat → Bool
 | [] => true
 | x :: l => l.all (fun y => !Nat.beq x y) && nodupB l
theorem nodupB_inj : ∀ {l : List Nat}, nodupB l = true → ∀ (i i' j : Nat), l[i]? = some j → l[i']? = some j → i = i'
 | x :: l, h, i, i', j, h1, h2 => by
  simp only [nodupB, Bool.and_eq_true, List.all_eq_true, Bool.not_eq_true'] at h;cases i with
  | zero =>
   cases i' with
   | zero => rfl
   | succ i' =>
    simp at h1 h2; subst h1;have := h.1 x (List.mem_of_getElem? h2);simp at this
  | succ i =>
   cases i' with
   | zero =>
    simp at h1 h2; subst h2;have := h.1 x (List.mem_of_getElem? h1);simp at this
   | succ i' => rw [nodupB_inj h.2 i i' j (by simpa using h1) (by simpa using h2)]
theorem keys_range {chs : List (Nat × Chunk)} {ks : List Nat} (h : chs.map (·.1) = ks) {i : Nat} (hi : i ∈ ks) : ∃ c, getL i chs = some c := by
 subst h
 induction chs with
 | nil => simp at hi
 | cons p l ih =>
  obtain ⟨j, x⟩ := p;rw [getL_cons]
  by_cases hij : i = j
  ·exact ⟨x, by rw [if_pos hij]⟩
  rw [if_neg hij]; exact ih (by simp at hi; rcases hi with h | h; exact absurd h hij; simpa using h)
theorem h_fun {g : FuncId} {caps ys ars : List AV} {fx : Operand} {xs : Array Operand} {ats : Array TypeId} {chs chs0 : List (Nat × Chunk)} {r0 : AV} {cs : List Nat} {u : Upd} {f : Nat} {gd : Option (Nat × Bool)} (hen : Enters P g) (hf : s.ev fx = .clo g caps) (hys : xs.toList.map s.ev ++ caps = ys)
  (hlead : AV.leadsL (sigC cs) ars ys) (hch : leadsC (sigC cs) s (chL chs)) (hspec : ASpec P g ars chs (Fun1 r0 chs0)) (hkeys : chs.map (·.1) = List.range cs.length) (hlen : chs.length = cs.length) (hnd : nodupB cs = true) (hu : callU cs f r0 chs0 = u) :
  NOp P cs s ⟨dst, .call { callee := .value fx, args := xs, argTypes := ats }, ty, pos, af, gd⟩ f u :=
 NOpR.one (h_callR (cs := cs) hen hf hys hspec hlead hlen (fun id c h => by
  obtain ⟨⟨j, d, h1, h2, h3⟩, _⟩ := leadsC_get hch id c (by rw [getL_chL]; exact h)
  exact ⟨j, d, h1, h2, h3⟩) (fun id j h => by
  obtain ⟨c, hc⟩ := keys_range hkeys (i := id) (List.mem_range.2 (List.getElem?_eq_some_iff.1 h).1);obtain ⟨⟨j', d, h1, h2, _⟩, _⟩ := leadsC_get hch id c (by rw [getL_chL]; exact hc);have h1' : cs[id]? = some j' := h1;rw [h] at h1';obtain rfl : j = j' := by simpa using h1'
  exact ⟨d, h2⟩) (fun i i' j => nodupB_inj hnd i i' j)) (by
  rintro v ⟨r', chs', ⟨rfl, rfl⟩, rfl⟩
  exact hu)
theorem kV {g : FuncId} {caps ys ars : List AV} {fx : Operand} {xs : Array Operand} {ats : Array TypeId} {r : AV} (hen : Enters P g) (hspec : ASpec P g ars [] (Pure1 r)) (h : AL P C ops rest Q (s.nxt dst ⟨r, []⟩)) (hf : s.ev fx = .clo g caps := by exact rfl) (hys : xs.toList.map s.ev ++ caps = ys := by exact rfl) (hl : AV.leadsL (sigC []) ars ys := by repeat (first | exact rfl | exact DLead.same | exact DLead.nil | refine ⟨_, _, rfl, ?_, ?_⟩ | refine ⟨_, rfl, ?_⟩ | exact ⟨_, rfl, rfl⟩)) (hr : r.ren (tauC [] s.nx) = r := by exact rfl) (hd : dstOk dst s.n = true := by exact rfl) : AL P C ops (⟨dst, .call { callee := .value fx, args := xs, argTypes := ats }, ty, pos, af, none⟩ :: rest) Q s := AL.q (h_pure hen hf hys hl hspec hr) hd h
theorem kU {g : FuncId} {caps ys ars : List AV} {fx : Operand} {xs : Array Operand} {ats : Array TypeId} {chs chs0 : List (Nat × Chunk)} {r0 : AV} {u : Upd} (cs : List Nat) (hen : Enters P g) (hspec : ASpec P g ars chs (Fun1 r0 chs0)) (h : AL P C ops rest Q (s.nxt dst u)) (hf : s.ev fx = .clo g caps := by exact rfl) (hys : xs.toList.map s.ev ++ caps = ys := by exact rfl) (hl : AV.leadsL (sigC cs) ars ys := by repeat (first | exact rfl | exact DLead.same | exact DLead.nil | refine ⟨_, _, rfl, ?_, ?_⟩ | refine ⟨_, rfl, ?_⟩ | exact ⟨_, rfl, rfl⟩)) (hc : leadsC (sigC cs) s (chL chs) := by repeat (first | exact True.intro | refine And.intro ?_ ?_ | exact DLead.same | exact DLead.eqI (by omega) | exact DLead.eqI (by dsimp only; omega) | exact DLead.nil | exact rfl | refine ⟨_, _, rfl, rfl, ?_⟩ | refine ⟨_, rfl, ?_⟩ | refine ⟨_, _, rfl, ?_, ?_⟩)) (h1 : chs.map (·.1) = List.range cs.length := by exact rfl) (h2 : chs.length = cs.length := by exact rfl) (h3 : nodupB cs = true := by exact rfl) (h4 : callU cs s.nx r0 chs0 = u := by exact rfl) (hd : dstOk dst s.n = true := by exact rfl) : AL P C ops (⟨dst, .call { callee := .value fx, args := xs, argTypes := ats }, ty, pos, af, none⟩ :: rest) Q s := AL.q (h_fun hen hf hys hl hc hspec h1 h2 h3 h4) hd h
theorem enters_of {g : FuncId} {fn : Func} {c : Code} (hf : P.funcs[g]? = some fn) (hb : fn.body = some c) (hn : (fn.name == "runtime.NumGoroutine") = false) : Enters P g := by
 intro args w;have h1 : fn.name ≠ "runtime.NumGoroutine" := by simpa using hn
 simp [callFunc, hf, h1, hb]
end
def tyTab : List (Nat × TS) := [
 (1, ⟨.func, 1, 8, [.func]⟩),
 (2, ⟨.int .i64, 1, 8, [.int .i64]⟩),
 (3, ⟨.int .i64, 1, 8, [.int .i64]⟩),
 (4, ⟨.bool, 1, 1, [.bool]⟩),
 (5, ⟨.int .u8, 1, 1, [.int .u8]⟩),
 (6, ⟨.int .u8, 1, 1, [.int .u8]⟩),
 (7, ⟨.struct [(0, 1), (1, 1), (2, 1), (3, 1)], 4, 24, [.int .i64, .int .i64, .bool, .int .u8]⟩),
 (8, ⟨.struct [(0, 1), (1, 1), (2, 1), (3, 1)], 4, 24, [.int .i64, .int .i64, .bool, .int .u8]⟩),
 (9, ⟨.string, 1, 16, [.str]⟩),
 (10, ⟨.string, 1, 16, [.str]⟩),
 (11, ⟨.string, 1, 16, [.str]⟩),
 (12, ⟨.int .u64, 1, 8, [.int .u64]⟩),
 (13, ⟨.struct [(0, 1), (1, 1)], 2, 24, [.str, .int .u64]⟩),
 (14, ⟨.struct [(0, 1), (1, 1)], 2, 24, [.str, .int .u64]⟩),
 (15, ⟨.pointer 170, 1, 8, [.ptr]⟩),
 (16, ⟨.pointer 173, 1, 8, [.ptr]⟩),
 (17, ⟨.pointer 180, 1, 8, [.ptr]⟩),
 (18, ⟨.struct [(0, 1)], 1, 8, [.ptr]⟩),
 (19, ⟨.struct [(0, 1)], 1, 8, [.ptr]⟩),
 (20, ⟨.other, 1, 16, [.iface]⟩),
 (21, ⟨.int .i32, 1, 4, [.int .i32]⟩),
 (22, ⟨.slice 77, 1, 24, [.slice]⟩),
 (23, ⟨.slice 81, 1, 24, [.slice]⟩),
 (24, ⟨.struct [(0, 1), (1, 1), (2, 1), (3, 1)], 4, 72, [.slice, .int .i64, .slice, .str]⟩),
 (25, ⟨.struct [(0, 1), (1, 1), (2, 1), (3, 1)], 4, 72, [.slice, .int .i64, .slice, .str]⟩),
 (26, ⟨.func, 1, 8, [.func]⟩),
 (27, ⟨.slice 96, 1, 24, [.slice]⟩),
 (28, ⟨.struct [(0, 1), (1, 1)], 2, 32, [.int .i64, .slice]⟩),
 (29, ⟨.struct [(0, 1), (1, 1)], 2, 32, [.int .i64, .slice]⟩),
 (30, ⟨.slice 91, 1, 24, [.slice]⟩),
 (31, ⟨.slice 63, 1, 24, [.slice]⟩),
 (32, ⟨.struct [(0, 2), (2, 1), (3, 1), (4, 1)], 5, 96, [.int .i64, .slice, .slice, .slice, .str]⟩),
 (33, ⟨.struct [(0, 2), (2, 1), (3, 1), (4, 1)], 5, 96, [.int .i64, .slice, .slice, .slice, .str]⟩),
 (35, ⟨.func, 1, 8, [.func]⟩),
 (36, ⟨.slice 54, 1, 24, [.slice]⟩),
 (37, ⟨.struct [(0, 1), (1, 1), (2, 1), (3, 1)], 4, 72, [.slice, .int .i64, .slice, .str]⟩),
 (38, ⟨.struct [(0, 1), (1, 1), (2, 1), (3, 1)], 4, 72, [.slice, .int .i64, .slice, .str]⟩),
 (39, ⟨.func, 1, 8, [.func]⟩),
 (40, ⟨.func, 1, 8, [.func]⟩),
 (41, ⟨.func, 1, 8, [.func]⟩),
 (42, ⟨.func, 1, 8, [.func]⟩),
 (43, ⟨.func, 1, 8, [.func]⟩),
 (44, ⟨.func, 1, 8, [.func]⟩),
 (45, ⟨.func, 1, 8, [.func]⟩),
 (46, ⟨.func, 1, 8, [.func]⟩),
 (47, ⟨.func, 1, 8, [.func]⟩),
 (48, ⟨.pointer 50, 1, 8, [.ptr]⟩),
 (49, ⟨.struct [(0, 5)], 5, 96, [.int .i64, .slice, .slice, .slice, .str]⟩),
 (50, ⟨.struct [(0, 5)], 5, 96, [.int .i64, .slice, .slice, .slice, .str]⟩),
 (51, ⟨.slice 3, 1, 24, [.slice]⟩),
 (52, ⟨.func, 1, 8, [.func]⟩),
 (53, ⟨.struct [(0, 1), (1, 1), (2, 1), (3, 1)], 4, 64, [.int .i64, .slice, .slice, .int .i64]⟩),
 (54, ⟨.struct [(0, 1), (1, 1), (2, 1), (3, 1)], 4, 64, [.int .i64, .slice, .slice, .int .i64]⟩),
 (55, ⟨.func, 1, 8, [.func]⟩),
 (56, ⟨.func, 1, 8, [.func]⟩),
 (57, ⟨.func, 1, 8, [.func]⟩),
 (58, ⟨.func, 1, 8, [.func]⟩),
 (59, ⟨.pointer 61, 1, 8, [.ptr]⟩),
 (60, ⟨.struct [(0, 1), (1, 1), (2, 1)], 3, 56, [.int .i64, .slice, .slice]⟩),
 (61, ⟨.struct [(0, 1), (1, 1), (2, 1)], 3, 56, [.int .i64, .slice, .slice]⟩),
 (62, ⟨.struct [(0, 1), (1, 1)], 2, 16, [.int .i64, .bool]⟩),
 (63, ⟨.struct [(0, 1), (1, 1)], 2, 16, [.int .i64, .bool]⟩),
 (64, ⟨.func, 1, 8, [.func]⟩),
 (65, ⟨.func, 1, 8, [.func]⟩),
 (66, ⟨.func, 1, 8, [.func]⟩),
 (67, ⟨.func, 1, 8, [.func]⟩),
 (68, ⟨.func, 1, 8, [.func]⟩),
 (69, ⟨.func, 1, 8, [.func]⟩),
 (70, ⟨.func, 1, 8, [.func]⟩),
 (71, ⟨.func, 1, 8, [.func]⟩),
 (72, ⟨.func, 1, 8, [.func]⟩),
 (73, ⟨.func, 1, 8, [.func]⟩),
 (74, ⟨.func, 1, 8, [.func]⟩),
 (75, ⟨.func, 1, 8, [.func]⟩),
 (76, ⟨.struct [(0, 1), (1, 1)], 2, 24, [.str, .int .i64]⟩),
 (77, ⟨.struct [(0, 1), (1, 1)], 2, 24, [.str, .int .i64]⟩),
 (78, ⟨.func, 1, 8, [.func]⟩),
 (79, ⟨.slice 141, 1, 24, [.slice]⟩),
 (80, ⟨.struct [(0, 1), (1, 1), (2, 1), (3, 1)], 4, 64, [.int .i64, .slice, .slice, .int .i64]⟩),
 (81, ⟨.struct [(0, 1), (1, 1), (2, 1), (3, 1)], 4, 64, [.int .i64, .slice, .slice, .int .i64]⟩),
 (82, ⟨.slice 9, 1, 24, [.slice]⟩),
 (84, ⟨.func, 1, 8, [.func]⟩),
 (85, ⟨.func, 1, 8, [.func]⟩),
 (86, ⟨.func, 1, 8, [.func]⟩),
 (87, ⟨.func, 1, 8, [.func]⟩),
 (88, ⟨.func, 1, 8, [.func]⟩),
 (89, ⟨.func, 1, 8, [.func]⟩),
 (90, ⟨.func, 1, 8, [.func]⟩),
 (91, ⟨.struct [(0, 1), (1, 1)], 2, 24, [.str, .int .i64]⟩),
 (92, ⟨.func, 1, 8, [.func]⟩),
 (93, ⟨.func, 1, 8, [.func]⟩),
 (94, ⟨.func, 1, 8, [.func]⟩),
 (95, ⟨.struct [(0, 1), (1, 1)], 2, 48, [.slice, .slice]⟩),
 (96, ⟨.struct [(0, 1), (1, 1)], 2, 48, [.slice, .slice]⟩),
 (97, ⟨.func, 1, 8, [.func]⟩),
 (98, ⟨.func, 1, 8, [.func]⟩),
 (99, ⟨.func, 1, 8, [.func]⟩),
 (100, ⟨.func, 1, 8, [.func]⟩),
 (101, ⟨.func, 1, 8, [.func]⟩),
 (102, ⟨.func, 1, 8, [.func]⟩),
 (103, ⟨.func, 1, 8, [.func]⟩),
 (104, ⟨.func, 1, 8, [.func]⟩),
 (105, ⟨.func, 1, 8, [.func]⟩),
 (106, ⟨.func, 1, 8, [.func]⟩),
 (107, ⟨.func, 1, 8, [.func]⟩),
 (108, ⟨.func, 1, 8, [.func]⟩),
 (109, ⟨.func, 1, 8, [.func]⟩),
 (111, ⟨.func, 1, 8, [.func]⟩),
 (112, ⟨.func, 1, 8, [.func]⟩),
 (113, ⟨.func, 1, 8, [.func]⟩),
 (114, ⟨.func, 1, 8, [.func]⟩),
 (115, ⟨.func, 1, 8, [.func]⟩),
 (116, ⟨.func, 1, 8, [.func]⟩),
 (117, ⟨.func, 1, 8, [.func]⟩),
 (118, ⟨.func, 1, 8, [.func]⟩),
 (119, ⟨.int .u64, 1, 8, [.int .u64]⟩),
 (121, ⟨.func, 1, 8, [.func]⟩),
 (122, ⟨.func, 1, 8, [.func]⟩),
 (123, ⟨.pointer 126, 1, 8, [.ptr]⟩),
 (124, ⟨.slice 5, 1, 24, [.slice]⟩),
 (125, ⟨.struct [(0, 1), (1, 1)], 2, 32, [.ptr, .slice]⟩),
 (126, ⟨.struct [(0, 1), (1, 1)], 2, 32, [.ptr, .slice]⟩),
 (127, ⟨.func, 1, 8, [.func]⟩),
 (128, ⟨.other, 1, 16, [.iface]⟩),
 (129, ⟨.other, 1, 16, [.iface]⟩),
 (131, ⟨.func, 1, 8, [.func]⟩),
 (132, ⟨.func, 1, 8, [.func]⟩),
 (133, ⟨.func, 1, 8, [.func]⟩),
 (134, ⟨.func, 1, 8, [.func]⟩),
 (135, ⟨.func, 1, 8, [.func]⟩),
 (136, ⟨.func, 1, 8, [.func]⟩),
 (137, ⟨.func, 1, 8, [.func]⟩),
 (138, ⟨.func, 1, 8, [.func]⟩),
 (139, ⟨.func, 1, 8, [.func]⟩),
 (140, ⟨.func, 1, 8, [.func]⟩),
 (141, ⟨.struct [(0, 1), (1, 1)], 2, 16, [.int .i64, .bool]⟩),
 (142, ⟨.func, 1, 8, [.func]⟩),
 (143, ⟨.func, 1, 8, [.func]⟩),
 (144, ⟨.func, 1, 8, [.func]⟩),
 (145, ⟨.func, 1, 8, [.func]⟩),
 (146, ⟨.func, 1, 8, [.func]⟩),
 (147, ⟨.func, 1, 8, [.func]⟩),
 (148, ⟨.int .u32, 1, 4, [.int .u32]⟩),
 (150, ⟨.func, 1, 8, [.func]⟩),
 (151, ⟨.int .u64, 1, 8, [.int .u64]⟩),
 (153, ⟨.func, 1, 8, [.func]⟩),
 (154, ⟨.pointer 5, 1, 8, [.ptr]⟩),
 (155, ⟨.func, 1, 8, [.func]⟩),
 (156, ⟨.func, 1, 8, [.func]⟩),
 (157, ⟨.func, 1, 8, [.func]⟩),
 (158, ⟨.func, 1, 8, [.func]⟩),
 (159, ⟨.func, 1, 8, [.func]⟩),
 (160, ⟨.func, 1, 8, [.func]⟩),
 (162, ⟨.func, 1, 8, [.func]⟩),
 (163, ⟨.func, 1, 8, [.func]⟩),
 (164, ⟨.slice 31, 1, 24, [.slice]⟩),
 (165, ⟨.func, 1, 8, [.func]⟩),
 (166, ⟨.func, 1, 8, [.func]⟩),
 (167, ⟨.func, 1, 8, [.func]⟩),
 (168, ⟨.func, 1, 8, [.func]⟩),
 (169, ⟨.struct [(0, 1), (1, 1), (2, 1), (3, 1)], 4, 40, [.ptr, .ptr, .ptr, .str]⟩),
 (170, ⟨.struct [(0, 1), (1, 1), (2, 1), (3, 1)], 4, 40, [.ptr, .ptr, .ptr, .str]⟩),
 (171, ⟨.row, 0, 0, []⟩),
 (174, ⟨.int .u8, 1, 1, [.int .u8]⟩),
 (175, ⟨.int .u8, 1, 1, [.int .u8]⟩),
 (176, ⟨.func, 1, 8, [.func]⟩),
 (177, ⟨.int .i32, 1, 4, [.int .i32]⟩),
 (178, ⟨.int .i32, 1, 4, [.int .i32]⟩),
 (179, ⟨.struct [(0, 1), (1, 1), (2, 1), (3, 1), (4, 1), (5, 1), (6, 1), (7, 1), (8, 1), (9, 1), (10, 1)], 11, 48, [.int .u64, .int .u64, .int .u32, .int .u8, .int .u8, .int .u8, .int .u8, .func, .ptr, .int .i32, .int .i32]⟩),
 (180, ⟨.struct [(0, 1), (1, 1), (2, 1), (3, 1), (4, 1), (5, 1), (6, 1), (7, 1), (8, 1), (9, 1), (10, 1)], 11, 48, [.int .u64, .int .u64, .int .u32, .int .u8, .int .u8, .int .u8, .int .u8, .func, .ptr, .int .i32, .int .i32]⟩)]
theorem tyTab_ok : tyTab.all (fun p => decide (tsOf Tryz.prog p.1 = some p.2)) = true := by kernel_rfl
instance : PT Tryz.prog := ⟨tyTab, tyTab_ok⟩
theorem mixed_ok : Tryz.prog.follows .mixedOrders = true := by kernel_rfl
end Go.Proofs.YteakkoiflbaleaaGreat
