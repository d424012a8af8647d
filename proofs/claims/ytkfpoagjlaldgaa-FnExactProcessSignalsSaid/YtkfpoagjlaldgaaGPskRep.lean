/- Contracts of the functions of the program and of the reference, each proved by a walk through its code. -/
import Derived.Test.YtkfpoagjlaldgaaGPskKit
import Derived.Maps.AppendAt
import Derived.OwnWalk
import Derived.Deep.MidRow
import Derived.Laws.ResultCell
set_option linter.all false
set_option maxRecDepth 20000
namespace Go.Proofs.Ytkfpoagjlaldgaa
open Go.RowKit

/-- A type of data: how many cells, when cells stand for a datum (through blocks of K alone), and that this outlives what touches no such block. -/
structure Ty (α : Type) where
  size : Nat
  rep : (Nat → Prop) → World → List Value → α → Prop
  len : ∀ {K w cs x}, rep K w cs x → cs.length = size
  one : ∀ {K w cs x}, rep K w cs x → ∀ u ∈ cs, u.oneCell' = true
  frame : ∀ {K S w w' cs x}, rep K w cs x → Fr S w w' → (∀ k, k ∈ S → ¬ K k) → rep K w' cs x
  mono : ∀ {K K' : Nat → Prop} {w cs x}, rep K w cs x → (∀ k, K k → K' k) → rep K' w cs x
  bound : ∀ {K w cs x}, rep K w cs x → rep (fun k => K k ∧ k < w.heap.size) w cs x

def I64 (x : Int) : Prop := -9223372036854775808 ≤ x ∧ x ≤ 9223372036854775807

def Ty.int : Ty Int where
  size := 1
  rep _ _ cs x := cs = [.int .i64 x] ∧ I64 x
  len h := by rw [h.1]; rfl
  one h u hu := by rw [h.1] at hu; simp at hu; subst hu; rfl
  frame h _ _ := h
  mono h _ := h
  bound h := h
def Ty.u8 : Ty UInt8 where
  size := 1
  rep _ _ cs x := cs = [.int .u8 (x.toNat : Int)]
  len h := by rw [h]; rfl
  one h u hu := by rw [h] at hu; simp at hu; subst hu; rfl
  frame h _ _ := h
  mono h _ := h
  bound h := h
def Ty.u64 : Ty Nat where
  size := 1
  rep _ _ cs x := cs = [.int .u64 (x : Int)] ∧ x < 18446744073709551616
  len h := by rw [h.1]; rfl
  one h u hu := by rw [h.1] at hu; simp at hu; subst hu; rfl
  frame h _ _ := h
  mono h _ := h
  bound h := h
def Ty.bool : Ty Bool where
  size := 1
  rep _ _ cs x := cs = [.bool x]
  len h := by rw [h]; rfl
  one h u hu := by rw [h] at hu; simp at hu; subst hu; rfl
  frame h _ _ := h
  mono h _ := h
  bound h := h
def Ty.str : Ty ByteArray where
  size := 1
  rep _ _ cs x := cs = [.string x] ∧ x.size ≤ maxLen
  len h := by rw [h.1]; rfl
  one h u hu := by rw [h.1] at hu; simp at hu; subst hu; rfl
  frame h _ _ := h
  mono h _ := h
  bound h := h

section
variable {α : Type}

/-- A slice value that reads as a list: its elements lie in a block of K, from some place on. -/
def SL (K : Nat → Prop) (e : TypeId) (t : Ty α) (w : World) (v : Value) (l : List α) : Prop :=
  ∃ a cap, v = .slice a l.length cap ∧ l.length ≤ cap ∧ cap ≤ maxLen ∧ (a = none → cap = 0) ∧
    ∀ p, a = some p → p.spot = none ∧ K p.block ∧ ∃ arr fz, w.heap[p.block]? = some (.cells arr e fz) ∧ p.off + cap * t.size ≤ arr.size ∧
      ∀ i x, l[i]? = some x → t.rep K w ((arr.toList.drop (p.off + i * t.size)).take t.size) x

theorem SL.nil (K : Nat → Prop) (e : TypeId) (t : Ty α) (w : World) : SL K e t w (.slice none 0 0) [] :=
  ⟨none, 0, rfl, Nat.le_refl _, by simp, fun _ => rfl, fun p hp => by cases hp⟩

theorem SL.frame {K : Nat → Prop} {e : TypeId} {t : Ty α} {w w' : World} {v : Value} {l : List α} {S : List Nat} (h : SL K e t w v l) (f : Fr S w w') (hs : ∀ k, k ∈ S → ¬ K k) : SL K e t w' v l := by
  obtain ⟨a, cap, rfl, h1, h2, h3, h4⟩ := h
  refine ⟨a, cap, rfl, h1, h2, h3, fun p hp => ?_⟩
  obtain ⟨hn, hK, arr, fz, hh, hle, hel⟩ := h4 p hp
  exact ⟨hn, hK, arr, fz, (f.block _ (lt_of_block hh) (fun hm => hs _ hm hK)).trans hh, hle, fun i x hx => t.frame (hel i x hx) f hs⟩

theorem SL.mono {K K' : Nat → Prop} {e : TypeId} {t : Ty α} {w : World} {v : Value} {l : List α} (h : SL K e t w v l) (hk : ∀ k, K k → K' k) : SL K' e t w v l := by
  obtain ⟨a, cap, rfl, h1, h2, h3, h4⟩ := h
  refine ⟨a, cap, rfl, h1, h2, h3, fun p hp => ?_⟩
  obtain ⟨hn, hK, arr, fz, hh, hle, hel⟩ := h4 p hp
  exact ⟨hn, hk _ hK, arr, fz, hh, hle, fun i x hx => t.mono (hel i x hx) hk⟩

theorem SL.bound {K : Nat → Prop} {e : TypeId} {t : Ty α} {w : World} {v : Value} {l : List α} (h : SL K e t w v l) : SL (fun k => K k ∧ k < w.heap.size) e t w v l := by
  obtain ⟨a, cap, rfl, h1, h2, h3, h4⟩ := h
  refine ⟨a, cap, rfl, h1, h2, h3, fun p hp => ?_⟩
  obtain ⟨hn, hK, arr, fz, hh, hle, hel⟩ := h4 p hp
  exact ⟨hn, ⟨hK, lt_of_block hh⟩, arr, fz, hh, hle, fun i x hx => t.bound (hel i x hx)⟩

def Ty.slice (e : TypeId) (t : Ty α) : Ty (List α) where
  size := 1
  rep K w cs l := ∃ v, cs = [v] ∧ SL K e t w v l
  len h := by obtain ⟨v, rfl, _⟩ := h; rfl
  one h u hu := by
    obtain ⟨v, rfl, a, cap, rfl, _⟩ := h
    simp at hu; subst hu; rfl
  frame h f hs := by obtain ⟨v, rfl, h⟩ := h; exact ⟨v, rfl, h.frame f hs⟩
  mono h hk := by obtain ⟨v, rfl, h⟩ := h; exact ⟨v, rfl, h.mono hk⟩
  bound h := by obtain ⟨v, rfl, h⟩ := h; exact ⟨v, rfl, h.bound⟩

/-- What the value of a slice looks like. -/
theorem SL.form {K : Nat → Prop} {e : TypeId} {t : Ty α} {w : World} {v : Value} {l : List α} (h : SL K e t w v l) :
    ∃ a cap, v = .slice a l.length cap ∧ l.length ≤ cap ∧ cap ≤ maxLen ∧ SL K e t w (.slice a l.length cap) l := by
  obtain ⟨a, cap, rfl, h1, h2, h3, h4⟩ := h
  exact ⟨a, cap, rfl, h1, h2, a, cap, rfl, h1, h2, h3, h4⟩

/-- An element of a slice: where it lies. -/
theorem SL.get {K : Nat → Prop} {e : TypeId} {t : Ty α} {w : World} {a : Option Addr} {n cap : Nat} {l : List α} (h : SL K e t w (.slice a n cap) l) {i : Nat} {x : α} (hx : l[i]? = some x) :
    ∃ g off cs, a = some ⟨g, off, none⟩ ∧ K g ∧ n = l.length ∧ t.rep K w cs x ∧ ∀ j u, cs[j]? = some u → w.cell? ⟨g, off + i * t.size + j, none⟩ = some u := by
  obtain ⟨a', cap', hv, h1, h2, h3, h4⟩ := h
  simp only [Value.slice.injEq] at hv
  obtain ⟨rfl, rfl, rfl⟩ := hv
  have hi : i < l.length := (List.getElem?_eq_some_iff.1 hx).1
  cases a with
  | none => have := h3 rfl; omega
  | some p =>
    obtain ⟨hn, hK, arr, fz, hh, hle, hel⟩ := h4 p rfl
    obtain ⟨g, off, sp⟩ := p
    simp only at hn hK hh hle hel
    subst hn
    refine ⟨g, off, _, rfl, hK, rfl, hel i x hx, fun j u hu => ?_⟩
    rw [List.getElem?_take] at hu
    split at hu
    · simp only [List.getElem?_drop] at hu
      simp [World.cell?, hh, ← hu]
    · cases hu

/-- A slice of the call's own: it begins at the head of a block of G, alone in it; its elements lie through blocks of K other than that one. -/
def Own (G K : Nat → Prop) (e : TypeId) (t : Ty α) (w : World) (v : Value) (l : List α) : Prop :=
  ∃ xs, w.ownsRow 0 e t.size v l.length xs ∧ (∀ g, v.ownBlock = some g → G g) ∧
    ∀ i x, l[i]? = some x → t.rep (fun k => K k ∧ v.ownBlock ≠ some k) w ((xs.drop (i * t.size)).take t.size) x

theorem Own.nil (G K : Nat → Prop) (e : TypeId) (t : Ty α) (w : World) : Own G K e t w (.slice none 0 0) [] :=
  ⟨[], World.ownsRow_nil _ _ _ _, fun g hg => by simp [Value.ownBlock] at hg, fun i x hx => by simp at hx⟩

theorem Own.frame {G K : Nat → Prop} {e : TypeId} {t : Ty α} {w w' : World} {v : Value} {l : List α} {S : List Nat} (h : Own G K e t w v l) (f : Fr S w w') (hv : ∀ g, v.ownBlock = some g → g ∉ S) (hs : ∀ k, k ∈ S → ¬ (K k ∧ v.ownBlock ≠ some k)) : Own G K e t w' v l := by
  obtain ⟨xs, ho, hg, hel⟩ := h
  refine ⟨xs, ⟨ho.1, ?_⟩, hg, fun i x hx => t.frame (hel i x hx) f hs⟩
  rcases ho.2 with hn | ⟨g, cap, cur, rfl, hb, hgg, rest⟩
  · exact .inl hn
  · exact .inr ⟨g, cap, cur, rfl, hb, (f.block g (lt_of_block hgg) (hv g rfl)).trans hgg, rest⟩

theorem Own.mono {G G' K K' : Nat → Prop} {e : TypeId} {t : Ty α} {w : World} {v : Value} {l : List α} (h : Own G K e t w v l) (hG : ∀ k, G k → G' k) (hK : ∀ k, K k → K' k) : Own G' K' e t w v l := by
  obtain ⟨xs, ho, hg, hel⟩ := h
  exact ⟨xs, ho, fun g hh => hG g (hg g hh), fun i x hx => t.mono (hel i x hx) (fun k hk => ⟨hK k hk.1, hk.2⟩)⟩

theorem Own.lt {G K : Nat → Prop} {e : TypeId} {t : Ty α} {w : World} {v : Value} {l : List α} (h : Own G K e t w v l) {g : Nat} (hg : v.ownBlock = some g) : G g ∧ g < w.heap.size := by
  obtain ⟨xs, ho, hG, _⟩ := h
  exact ⟨hG g hg, (ho.lt g hg).2⟩

/-- An owned slice reads as its list. -/
theorem Own.sl {G K : Nat → Prop} {e : TypeId} {t : Ty α} {w : World} {v : Value} {l : List α} (h : Own G K e t w v l) : SL (fun k => G k ∨ K k) e t w v l := by
  obtain ⟨xs, ho, hG, hel⟩ := h
  rcases ho.2 with ⟨rfl, h0⟩ | ⟨g, cap, cur, rfl, hb, hgg, hle, hm, hsz, htake⟩
  · have : l = [] := List.eq_nil_of_length_eq_zero h0
    subst this
    exact SL.nil _ _ _ _
  · refine ⟨some ⟨g, 0, none⟩, cap, rfl, hle, hm, (fun hh => by cases hh), fun p hp => ?_⟩
    cases hp
    refine ⟨rfl, .inl (hG g rfl), cur, (0, 0), hgg, by simp [hsz], fun i x hx => ?_⟩
    have hi : i < l.length := (List.getElem?_eq_some_iff.1 hx).1
    have h1 := t.mono (hel i x hx) (K' := fun k => G k ∨ K k) (fun k hk => .inr hk.1)
    have he : ((xs.drop (i * t.size)).take t.size) = ((cur.toList.drop (0 + i * t.size)).take t.size) := by
      rw [← htake, Nat.zero_add, List.drop_take, List.take_take]
      congr 1
      have : (i + 1) * t.size ≤ l.length * t.size := Nat.mul_le_mul_right _ hi
      rw [Nat.succ_mul] at this
      omega
    rw [← he]
    exact h1

/-- What an append of one element leaves of an owned slice. -/
theorem Own.snoc {G K : Nat → Prop} {e : TypeId} {t : Ty α} {w w' : World} {v v' : Value} {l : List α} {xs news : List Value} {x : α}
    (ho : w.ownsRow 0 e t.size v l.length xs) (hG : ∀ g, v.ownBlock = some g → G g) (hel : ∀ i x, l[i]? = some x → t.rep (fun k => K k ∧ v.ownBlock ≠ some k) w ((xs.drop (i * t.size)).take t.size) x)
    (hx : t.rep (fun k => K k ∧ v.ownBlock ≠ some k) w news x)
    (ho' : w'.ownsRow 0 e t.size v' (l.length + 1) (xs ++ news)) (hgr : w.grownBy w' v.ownBlock) (hat : v'.ownBlock = v.ownBlock ∨ v'.ownBlock = some w.heap.size) (hN : G w.heap.size) :
    Own G K e t w' v' (l ++ [x]) := by
  have f : Fr v.ownBlock.toList w w' := Fr.of_grown hgr (fun k hk => by simp [hk])
  have hs : ∀ k, k ∈ v.ownBlock.toList → ¬ (K k ∧ v.ownBlock ≠ some k) := fun k hk h => h.2 (by simpa using hk)
  have hturn : ∀ {cs y}, t.rep (fun k => K k ∧ v.ownBlock ≠ some k) w cs y → t.rep (fun k => K k ∧ v'.ownBlock ≠ some k) w' cs y := by
    intro cs y hy
    have h1 := t.bound hy
    have h2 := t.frame h1 f (fun k hk h => hs k hk h.1)
    refine t.mono h2 (fun k hk => ⟨hk.1.1, ?_⟩)
    rcases hat with h | h
    · rw [h]; exact hk.1.2
    · rw [h]; intro hc; simp at hc; omega
  refine ⟨xs ++ news, by simpa using ho', ?_, fun i y hy => ?_⟩
  · intro g hg
    rcases hat with h | h
    · exact hG g (h ▸ hg)
    · rw [h] at hg; simp at hg; subst hg; exact hN
  · have hxs : xs.length = l.length * t.size := ho.1
    have hnl := t.len hx
    by_cases hi : i < l.length
    · rw [List.getElem?_append_left hi] at hy
      have hle : (i + 1) * t.size ≤ l.length * t.size := Nat.mul_le_mul_right _ hi
      rw [Nat.succ_mul] at hle
      have : (((xs ++ news).drop (i * t.size)).take t.size) = ((xs.drop (i * t.size)).take t.size) := by
        rw [List.drop_append_of_le_length (by omega), List.take_append_of_le_length (by simp; omega)]
      rw [this]
      exact hturn (hel i y hy)
    · have hil : i = l.length := by
        have := (List.getElem?_eq_some_iff.1 hy).1
        simp at this; omega
      subst hil
      simp at hy
      subst hy
      have : (((xs ++ news).drop (l.length * t.size)).take t.size) = news := by
        rw [← hxs, List.drop_left, ← hnl, List.take_length]
      rw [this]
      exact hturn hx

/-- What an append asks of a slice type t over elements e. -/
def AppInfo (P : Program) (t e size bytes : Nat) : Prop :=
  P.underlying t = some (.slice e) ∧ ∃ i z, P.info? e = some i ∧ i.zero = some z ∧ i.size = size ∧ i.bytes = bytes ∧ z.cells.size = size ∧ 0 < size
theorem appInfo {P : Program} {t e size bytes : Nat} {z : Value} (ht : P.underlying t = some (.slice e)) (h : (P.info? e).map (fun i => (i.zero, i.size, i.bytes)) = some (some z, size, bytes)) (hz : z.cells.size = size) (hs : 0 < size) : AppInfo P t e size bytes := by
  obtain ⟨i, hi, h0, h1, h2⟩ := info_parts h
  exact ⟨ht, i, z, hi, h0, h1, h2, hz, hs⟩

theorem Own.form {G K : Nat → Prop} {e : TypeId} {t : Ty α} {w : World} {v : Value} {l : List α} (h : Own G K e t w v l) : ∃ a cap, v = .slice a l.length cap := by
  obtain ⟨xs, ho, _, _⟩ := h
  rcases ho.2 with ⟨rfl, h0⟩ | ⟨g, cap, cur, rfl, _⟩
  · exact ⟨none, 0, by rw [h0]⟩
  · exact ⟨_, _, rfl⟩

theorem wp_append_Own {P : Program} {w : World} {o : Oper} {a : Act} {C : Act → World → Prop} {Q : Exit → Act → World → Prop} (s x : Operand) (t : TypeId)
    (ho : o.op = .call { callee := .builtin .append, args := #[s, x], argTypes := #[t, t] })
    {G K : Nat → Prop} {e bytes : Nat} {T : Ty α} (hi : AppInfo P t e T.size bytes) {v : Value} {l : List α} {y : α} (hs : a.eval s = v) (hown : Own G K e T w v l)
    {tb c e' : Nat} {fz : Nat × Nat} {cs : List Value} (hx : a.eval x = .slice (some ⟨tb, 0, none⟩) 1 c) (hb : w.heap[tb]? = some (.cells cs.toArray e' fz))
    (hy : T.rep (fun k => K k ∧ v.ownBlock ≠ some k) w cs y)
    (h : ∀ p cap w', Own G K e T w' (.slice p (l.length + 1) cap) (l ++ [y]) → Fr v.ownBlock.toList w w' → ((Value.slice p (l.length + 1) cap).ownBlock = v.ownBlock ∨ (Value.slice p (l.length + 1) cap).ownBlock = some w.heap.size) → C (a.put o.dst (.slice p (l.length + 1) cap)) w')
    (hN : G w.heap.size) (h63 : l.length + 1 ≤ maxLen) (hbytes : (l.length + 1) * bytes ≤ 140737488355328) : o.wp P a w C Q := by
  obtain ⟨ht, i, z, hi, hz0, hz1, hz2, hz3, hz4⟩ := hi
  obtain ⟨xs, hr, hG, hel⟩ := hown
  have hnews : ∀ j u, cs[j]? = some u → w.cell? ((⟨tb, 0, none⟩ : Addr).add j) = some u := by
    intro j u hu
    have hadd : (⟨tb, 0, none⟩ : Addr).add j = ⟨tb, j, none⟩ := by unfold Addr.add; split <;> simp_all
    rw [hadd]
    simp [World.cell?, hb, hu]
  obtain ⟨v', w', hrun, ho', hgr, _, hat⟩ := run_append_own_at (P := P) w 0 t o.type e i z T.size bytes ht hi hz0 hz1 hz2 hz3 hz4 v l.length xs hr ⟨tb, 0, none⟩ 1 c cs (by rw [T.len hy]; omega) hnews (T.one hy) h63 hbytes (Nat.zero_le _)
  have hO := Own.snoc hr hG hel hy ho' hgr hat hN
  obtain ⟨p, cap, rfl⟩ := hO.form
  simp only [List.length_append, List.length_cons, List.length_nil, Nat.zero_add] at *
  unfold Oper.wp execOp
  simp only [ho, resolve, invoke, builtin, Sem.run_bind, Sem.run_pure, Result.andThen_ok, List.map_toArray, List.map_cons, List.map_nil, hs, hx, hrun]
  exact h p cap w' hO (Fr.of_grown hgr (fun k hk => by simp [hk])) hat

/-- append of one element, laid in a block of its own just before, to an owned slice. -/
theorem wpList_append_Own {P : Program} {w : World} {ops : Array Oper} {rest : List Oper} {o : Oper} {a : Act} {Q : Exit → Act → World → Prop} (hgd : o.guard = none) (s x : Operand) (t : TypeId)
    (ho : o.op = .call { callee := .builtin .append, args := #[s, x], argTypes := #[t, t] })
    {G K : Nat → Prop} {e bytes : Nat} {T : Ty α} (hi : AppInfo P t e T.size bytes) {v : Value} {l : List α} {y : α} (hs : a.eval s = v) (hown : Own G K e T w v l)
    {tb c e' : Nat} {fz : Nat × Nat} {cs : List Value} (hx : a.eval x = .slice (some ⟨tb, 0, none⟩) 1 c) (hb : w.heap[tb]? = some (.cells cs.toArray e' fz))
    (hy : T.rep (fun k => K k ∧ v.ownBlock ≠ some k) w cs y)
    (h : ∀ p cap w', Own G K e T w' (.slice p (l.length + 1) cap) (l ++ [y]) → Fr v.ownBlock.toList w w' → ((Value.slice p (l.length + 1) cap).ownBlock = v.ownBlock ∨ (Value.slice p (l.length + 1) cap).ownBlock = some w.heap.size) → wpList P ops Q rest (a.put o.dst (.slice p (l.length + 1) cap)) w')
    (hN : G w.heap.size) (h63 : l.length + 1 ≤ maxLen) (hbytes : (l.length + 1) * bytes ≤ 140737488355328) : wpList P ops Q (o :: rest) a w :=
  wpList_plain hgd fun _ hK => wp_append_Own s x t ho hi hs hown hx hb hy (fun p cap w' h1 h2 h3 => hK _ _ (h p cap w' h1 h2 h3)) hN h63 hbytes

/-- .. at a step of a region that draws its order. -/
theorem step_append_Own {P : Program} {w : World} {ops : Array Oper} {o : Oper} {a : Act} {C : Act → World → Prop} {Q : Exit → Act → World → Prop} {E : Prop} (hgd : o.guard = none) (s x : Operand) (t : TypeId)
    (ho : o.op = .call { callee := .builtin .append, args := #[s, x], argTypes := #[t, t] })
    {G K : Nat → Prop} {e bytes : Nat} {T : Ty α} (hi : AppInfo P t e T.size bytes) {v : Value} {l : List α} {y : α} (hs : a.eval s = v) (hown : Own G K e T w v l)
    {tb c e' : Nat} {fz : Nat × Nat} {cs : List Value} (hx : a.eval x = .slice (some ⟨tb, 0, none⟩) 1 c) (hb : w.heap[tb]? = some (.cells cs.toArray e' fz))
    (hy : T.rep (fun k => K k ∧ v.ownBlock ≠ some k) w cs y) (hN : G w.heap.size) (h63 : l.length + 1 ≤ maxLen) (hbytes : (l.length + 1) * bytes ≤ 140737488355328)
    (h : ∀ p cap w', Own G K e T w' (.slice p (l.length + 1) cap) (l ++ [y]) → Fr v.ownBlock.toList w w' → ((Value.slice p (l.length + 1) cap).ownBlock = v.ownBlock ∨ (Value.slice p (l.length + 1) cap).ownBlock = some w.heap.size) → C (a.put o.dst (.slice p (l.length + 1) cap)) w') :
    if Region.wanted o (yielded ops a.tmps) = true then Oper.wp P o a w C Q else E := by
  have hw : Region.wanted o (yielded ops a.tmps) = true := by simp [Region.wanted, hgd]
  rw [if_pos hw]
  exact wp_append_Own s x t ho hi hs hown hx hb hy h hN h63 hbytes

/-- A slice of one element, just made. -/
theorem Own.single {G K : Nat → Prop} {e : TypeId} {T : Ty α} {w : World} {g : Nat} {cs : List Value} {y : α} (hb : w.heap[g]? = some (.cells cs.toArray e (0, 0))) (hG : G g)
    (hy : T.rep (fun k => K k ∧ k ≠ g) w cs y) : Own G K e T w (.slice (some ⟨g, 0, none⟩) 1 1) [y] := by
  have hl := T.len hy
  refine ⟨cs, ⟨by simp [hl], .inr ⟨g, 1, cs.toArray, rfl, Nat.zero_le _, hb, by simp, by simp [maxLen], by simp [hl], by simp [← hl]⟩⟩, fun g' hg => ?_, fun i x hx => ?_⟩
  · simp [Value.ownBlock] at hg; subst hg; exact hG
  · match i, hx with
    | 0, hx =>
      simp at hx; subst hx
      simp only [Nat.zero_mul, List.drop_zero, ← hl, List.take_length]
      exact T.mono hy (fun k hk => ⟨hk.1, by simp [Value.ownBlock]; exact fun h => hk.2 h.symm⟩)
    | i + 1, hx => simp at hx

theorem Own.old {B : Nat} {e : TypeId} {T : Ty α} {w w' : World} {v : Value} {l : List α} {S : List Nat} (h : Own (fun k => B ≤ k) (fun k => B ≤ k) e T w v l) (f : Fr S w w') (hS : ∀ k, k ∈ S → k < B) :
    Own (fun k => B ≤ k) (fun k => B ≤ k) e T w' v l :=
  h.frame f (fun g hg hm => by have := (h.lt hg).1; have := hS g hm; omega) (fun k hk hh => by have := hh.1; have := hS k hk; omega)
theorem Own.slB {B : Nat} {e : TypeId} {T : Ty α} {w : World} {v : Value} {l : List α} (h : Own (fun k => B ≤ k) (fun k => B ≤ k) e T w v l) : SL (fun k => B ≤ k) e T w v l :=
  h.sl.mono (fun k hk => hk.elim id id)
/-- A datum made since the owned slice's last change does not lie in its block. -/
theorem Own.apart {B : Nat} {e : TypeId} {T : Ty α} {w w1 w2 : World} {v : Value} {l : List α} {β : Type} {U : Ty β} {cs : List Value} {y : β} (h : Own (fun k => B ≤ k) (fun k => B ≤ k) e T w v l)
    (hs : w.heap.size ≤ w1.heap.size) (hB : B ≤ w1.heap.size) (hy : U.rep (fun k => w1.heap.size ≤ k) w2 cs y) (o : Obj) : U.rep (fun k => B ≤ k ∧ v.ownBlock ≠ some k) (w2.alloc o) cs y :=
  U.mono (U.frame hy ((Fr.refl [] w2).alloc o) (by simp)) (fun k hk => ⟨by omega, fun hv => by have := (h.lt hv).2; omega⟩)
/-- The frame behind an append to a slice of the call's own. -/
theorem Own.fr {B : Nat} {e : TypeId} {T : Ty α} {w w1 w2 : World} {v : Value} {l : List α} {S : List Nat} (h : Own (fun k => w.heap.size ≤ k) (fun k => B ≤ k) e T w1 v l) (f : Fr S w w1) (g : Fr v.ownBlock.toList w1 w2) : Fr S w w2 :=
  f.trans_new g (fun i hi => .inr (h.lt (by simpa using hi)).1)
theorem Own.blk {B : Nat} {e : TypeId} {T : Ty α} {w w1 w2 : World} {v : Value} {l : List α} {b : Nat} {t : TypeId} {cs : List Value} (h : Own (fun k => B ≤ k) (fun k => B ≤ k) e T w v l) (hb : Blk w1 b t cs) (hlt : b < B) (g : Fr v.ownBlock.toList w1 w2) : Blk w2 b t cs :=
  hb.fr g (fun hm => by have := (h.lt (by simpa using hm)).1; omega)
end

/-- A struct type of n cells. -/
def AggInfo (P : Program) (ty n : Nat) : Prop := (∃ d, P.underlying ty = some d ∧ d.isRow = true) ∧ (P.info? ty).map (·.size) = some n
theorem Blk.range {w : World} {b : Nat} {t : TypeId} {cs : List Value} (h : Blk w b t cs) : w.rangeAt b 0 cs := fun j v hv => by rw [Nat.zero_add]; exact h.cell j hv
theorem run_loadVar_agg {P : Program} {w : World} {b o ty : Nat} {cs : List Value} (hc : w.rangeAt b o cs) (hA : AggInfo P ty cs.length) : (loadVar ty ⟨b, o, none⟩).run P w = .ok (.agg cs.toArray) w := by
  obtain ⟨⟨d, h1, h2⟩, h3⟩ := hA
  exact run_loadVar_mid w b o ty cs d hc h1 h2 h3
/-- The end of a function whose one result is a struct in memory. -/
theorem body_cell {P : Program} {fn : Func} {R : Ending → World → Prop} {a : Act} {w : World} {p ty g e : Nat} {cs : List Value} (h : fn.results = #[.cell p ty]) (hp : a.tmps.getD p undef = .pointer (some ⟨g, 0, none⟩))
    (hB : Blk w g e cs) (hA : AggInfo P ty cs.length) (hd : a.defers = []) (hR : R (.returned (.agg cs.toArray)) w) : bodyPost P fn R .ret a w := by
  refine bodyPost_ret (v := .agg cs.toArray) ?_ hd hR
  have hp' : a.tmps[p]?.getD undef = .pointer (some ⟨g, 0, none⟩) := by simpa [Array.getD_eq_getD_getElem?] using hp
  simp [results, h, hp', asAddr, run_loadVar_agg hB.range hA]
end Go.Proofs.Ytkfpoagjlaldgaa

