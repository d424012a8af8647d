/- Contracts of the functions of the program and of the reference, each proved by a walk through its code. -/
import Derived.WalkKit
import Derived.WalkSpells
import Derived.WalkLawsBesides
import Derived.Deep.Draws
import Derived.Lib.Hide
import Derived.Maps.AppendAt
import Derived.OwnWalk
import Derived.Deep.MidRow
import Derived.Laws.ResultCell
import Derived.Deep.Upon
import Derived.Great.FillDense
import Derived.Laws.Tables
import Derived.Laws.BytesArg
import Derived.Laws.MakeOwn
import Derived.Great.BuildSlice
import Derived.ArgAppend
import Derived.Deep.AppendSrc
import Derived.Test.YtnklhbfdfddigaaDoorProg
import Derived.KernelRfl
import Derived.Orders
import Derived.Laws.IdiomStrings
import Derived.Lib.AppendZerosOnto
import Derived.ProofKit
import Derived.OpenShut
import Derived.Laws.StructEq
import Derived.ChangeKeysEq
import Derived.Shelf.Strconv.Itoa0
import Derived.Shelf.Strconv.Itoa1
import Derived.Shelf.LaysM
import Derived.Shelf.Strconv.Itoa2
import Derived.Shelf.Strconv.Itoa3
import Derived.Shelf.Slices.Turned
import Derived.Test.YtnklhbfdfddigaaDoorRows
import Derived.Test.YtnklhbfdfddigaaDoorGNm2
set_option linter.all false
set_option maxRecDepth 20000
namespace Go.Proofs.YtnklhbfdfddigaaDoor
open Go.RowKit

/-- Data in blocks of its own: a value that reads so through just these blocks, no two parts through one. -/
inductive TRep (w : World) : (Nat → Prop) → DV → Value → Prop
  | val {S : Nat → Prop} {v : Value} : (∀ k, ¬ S k) → okV v → TRep w S (.val v) v
  | nil {S : Nat → Prop} {e sz : Nat} : (∀ k, ¬ S k) → TRep w S (.view e sz []) (.slice none 0 0)
  | view {S : Nat → Prop} {e sz : Nat} {els : List (List DV)} {b cap : Nat} {vs : Array Value} {fz : Nat × Nat} (Ts : Nat → Nat → Prop) : w.heap[b]? = some (.cells vs e fz) → (∀ (i : Nat), i < vs.size → ¬ (fz.1 ≤ i ∧ i < fz.2)) → vs.size = cap * sz → els.length ≤ cap → cap ≤ maxLen → 0 < sz →
      (∀ (i : Nat) (cs : List DV), els[i]? = some cs → cs.length = sz) → (∀ (i : Nat) (cs : List DV) (j : Nat) (d : DV), els[i]? = some cs → cs[j]? = some d → TRep w (Ts (i * sz + j)) d (vs.getD (i * sz + j) undef)) →
      (∀ c, ¬ Ts c b) → (∀ c c' k, Ts c k → Ts c' k → c = c') → (∀ k, S k ↔ k = b ∨ ∃ c, c < els.length * sz ∧ Ts c k) → TRep w S (.view e sz els) (.slice (some ⟨b, 0, none⟩) els.length cap)
theorem TRep.lt {w : World} {S : Nat → Prop} {x : DV} {v : Value} (h : TRep w S x v) : ∀ k, S k → k < w.heap.size := by
  induction h with
  | val h _ => intro k h'; exact absurd h' (h k)
  | nil h => intro k h'; exact absurd h' (h k)
  | @view S e sz els b cap vs fz Ts hb _ _ _ _ hz hr _ _ _ hS ih =>
    intro k hk
    rcases (hS k).1 hk with rfl | ⟨c, hc, hk⟩
    · exact lt_of_block hb
    · have h1 : c / sz < els.length := Nat.div_lt_of_lt_mul (by rw [Nat.mul_comm]; exact hc)
      have h2 : c % sz < sz := Nat.mod_lt _ hz
      have e1 := List.getElem?_eq_getElem h1
      have h3 := hr _ _ e1
      have e2 : c / sz * sz + c % sz = c := Nat.div_add_mod' c sz
      have := ih _ _ _ _ e1 (List.getElem?_eq_getElem (by rw [h3]; exact h2)) k
      rw [e2] at this
      exact this hk
theorem TRep.turn {w w' : World} {S : Nat → Prop} {x : DV} {v : Value} (h : TRep w S x v) : (∀ k, S k → w'.heap[k]? = w.heap[k]?) → TRep w' S x v := by
  induction h with
  | val h0 h => intro _; exact .val h0 h
  | nil h0 => intro _; exact .nil h0
  | @view S e sz els b cap vs fz Ts hb h1 h2 h3 h4 h5 h6 h7 h8 h9 h10 ih =>
    intro hk
    refine .view Ts ((hk _ ((h10 _).2 (.inl rfl))).trans hb) h1 h2 h3 h4 h5 h6 (fun i cs j d hi hj => ih i cs j d hi hj (fun k hk' => hk k ((h10 k).2 (.inr ⟨_, ?_, hk'⟩)))) h8 h9 h10
    have hi1 := (List.getElem?_eq_some_iff.1 hi).1
    have hj1 := (List.getElem?_eq_some_iff.1 hj).1
    rw [h6 i cs hi] at hj1
    have h := Nat.mul_le_mul_right sz hi1
    rw [Nat.succ_mul] at h
    omega
theorem TRep.data {w : World} {S : Nat → Prop} {x : DV} {v : Value} (h : TRep w S x v) : DRep S w x v := by
  induction h with
  | val _ h => exact .val h
  | nil _ => exact .nil
  | @view S e sz els b cap vs fz Ts hb h1 h2 h3 h4 h5 h6 h7 h8 h9 h10 ih =>
    refine .view ((h10 _).2 (.inl rfl)) hb h3 h4 (by rw [Nat.zero_add, h2]; exact Nat.le_refl _) h6 (fun i cs j d hi hj => ?_)
    rw [Nat.zero_add]
    refine (ih i cs j d hi hj).mono fun k hk => (h10 k).2 (.inr ⟨_, ?_, hk⟩)
    have hi1 := (List.getElem?_eq_some_iff.1 hi).1
    have hj1 := (List.getElem?_eq_some_iff.1 hj).1
    rw [h6 i cs hi] at hj1
    have h := Nat.mul_le_mul_right sz hi1
    rw [Nat.succ_mul] at h
    omega
theorem TRep.congr {w : World} {S S' : Nat → Prop} {x : DV} {v : Value} (h : TRep w S x v) (he : ∀ k, S k ↔ S' k) : TRep w S' x v := by
  have : S = S' := funext fun k => propext (he k)
  subst this; exact h
/-- .. and so does a list of values, each in blocks of its own. -/
def TL (w : World) (S : Nat → Prop) (L : List DV) (V : List Value) : Prop :=
  ∃ Ts : Nat → Nat → Prop, V.length = L.length ∧ (∀ i d v, L[i]? = some d → V[i]? = some v → TRep w (Ts i) d v) ∧ (∀ i j k, Ts i k → Ts j k → i = j) ∧ ∀ k, S k ↔ ∃ i, i < L.length ∧ Ts i k
theorem TL.turn {w w' : World} {S : Nat → Prop} {L : List DV} {V : List Value} (h : TL w S L V) (hk : ∀ k, S k → w'.heap[k]? = w.heap[k]?) : TL w' S L V := by
  obtain ⟨Ts, h1, h2, h3, h4⟩ := h
  exact ⟨Ts, h1, fun i d v hd hv => (h2 i d v hd hv).turn fun k hk' => hk k ((h4 k).2 ⟨i, (List.getElem?_eq_some_iff.1 hd).1, hk'⟩), h3, h4⟩
theorem TL.lt {w : World} {S : Nat → Prop} {L : List DV} {V : List Value} (h : TL w S L V) (k : Nat) (hk : S k) : k < w.heap.size := by
  obtain ⟨Ts, h1, h2, h3, h4⟩ := h
  obtain ⟨i, hi, hk'⟩ := (h4 k).1 hk
  exact (h2 i _ _ (List.getElem?_eq_getElem hi) (List.getElem?_eq_getElem (by omega))).lt k hk'
theorem TL.data {w : World} {S : Nat → Prop} {L : List DV} {V : List Value} (h : TL w S L V) (i : Nat) {d : DV} {v : Value} (hd : L[i]? = some d) (hv : V[i]? = some v) : DRep S w d v := by
  obtain ⟨Ts, h1, h2, h3, h4⟩ := h
  exact (h2 i d v hd hv).data.mono fun k hk => (h4 k).2 ⟨i, (List.getElem?_eq_some_iff.1 hd).1, hk⟩
theorem TL.len {w : World} {S : Nat → Prop} {L : List DV} {V : List Value} (h : TL w S L V) : V.length = L.length := h.choose_spec.1
theorem TL.nil (w : World) : TL w (fun _ => False) [] [] := ⟨fun _ _ => False, rfl, fun i d v h => by simp at h, fun _ _ _ h => h.elim, fun k => ⟨fun h => h.elim, fun ⟨_, h, _⟩ => by simp at h⟩⟩
theorem TL.one {w : World} {S : Nat → Prop} {d : DV} {v : Value} (h : TRep w S d v) : TL w S [d] [v] := by
  refine ⟨fun i k => i = 0 ∧ S k, rfl, fun i d' v' hd hv => ?_, fun i j k h1 h2 => h1.1.trans h2.1.symm, fun k => ⟨fun h => ⟨0, by simp, rfl, h⟩, fun ⟨_, _, h⟩ => h.2⟩⟩
  cases i with
  | zero =>
    simp at hd hv; subst hd; subst hv
    exact h.congr fun k => by simp
  | succ i => simp at hd
theorem TL.app {w : World} {S S' : Nat → Prop} {L L' : List DV} {V V' : List Value} (h : TL w S L V) (h' : TL w S' L' V') (hd : ∀ k, S k → ¬ S' k) : TL w (fun k => S k ∨ S' k) (L ++ L') (V ++ V') := by
  obtain ⟨Ts, h1, h2, h3, h4⟩ := h
  obtain ⟨Ts', g1, g2, g3, g4⟩ := h'
  refine ⟨fun i k => (i < L.length ∧ Ts i k) ∨ (L.length ≤ i ∧ i < L.length + L'.length ∧ Ts' (i - L.length) k), by simp [h1, g1], fun i d v hd' hv => ?_, fun i j k hi hj => ?_, fun k => ⟨fun h => ?_, fun h => ?_⟩⟩
  · by_cases hi : i < L.length
    · rw [List.getElem?_append_left hi] at hd'
      rw [List.getElem?_append_left (by omega)] at hv
      exact (h2 i d v hd' hv).congr fun k => by simp [hi, Nat.not_le.2 hi]
    · have hlt := (List.getElem?_eq_some_iff.1 hd').1
      rw [List.length_append] at hlt
      rw [List.getElem?_append_right (by omega)] at hd' hv
      rw [h1] at hv
      exact (g2 _ d v hd' hv).congr fun k => by simp [hi, hlt, Nat.le_of_not_lt hi]
  · rcases hi with ⟨a1, a2⟩ | ⟨a1, a2, a3⟩ <;> rcases hj with ⟨b1, b2⟩ | ⟨b1, b2, b3⟩
    · exact h3 i j k a2 b2
    · exact absurd ((g4 k).2 ⟨_, by omega, b3⟩) (hd k ((h4 k).2 ⟨i, a1, a2⟩))
    · exact absurd ((g4 k).2 ⟨_, by omega, a3⟩) (hd k ((h4 k).2 ⟨j, b1, b2⟩))
    · have := g3 _ _ k a3 b3; omega
  · rcases h with h | h
    · obtain ⟨i, hi, hk⟩ := (h4 k).1 h
      exact ⟨i, by rw [List.length_append]; omega, .inl ⟨hi, hk⟩⟩
    · obtain ⟨i, hi, hk⟩ := (g4 k).1 h
      refine ⟨L.length + i, by rw [List.length_append]; omega, .inr ⟨by omega, by omega, ?_⟩⟩
      rw [show L.length + i - L.length = i by omega]; exact hk
  · obtain ⟨i, _, ⟨a1, a2⟩ | ⟨a1, a2, a3⟩⟩ := h
    · exact .inl ((h4 k).2 ⟨i, a1, a2⟩)
    · exact .inr ((g4 k).2 ⟨_, by omega, a3⟩)
theorem TL.cons {w : World} {S S' : Nat → Prop} {d : DV} {v : Value} {L : List DV} {V : List Value} (h : TRep w S d v) (h' : TL w S' L V) (hd : ∀ k, S k → ¬ S' k) : TL w (fun k => S k ∨ S' k) (d :: L) (v :: V) := (TL.one h).app h' hd
/-- All but one. -/
def TX (w : World) (S : Nat → Prop) (c : Nat) (L : List DV) (V : List Value) : Prop :=
  ∃ Ts : Nat → Nat → Prop, V.length = L.length ∧ (∀ i d v, i ≠ c → L[i]? = some d → V[i]? = some v → TRep w (Ts i) d v) ∧ (∀ i j k, Ts i k → Ts j k → i = j) ∧ (∀ k, ¬ Ts c k) ∧ ∀ k, S k ↔ ∃ i, i < L.length ∧ Ts i k
theorem TX.turn {w w' : World} {S : Nat → Prop} {c : Nat} {L : List DV} {V : List Value} (h : TX w S c L V) (hk : ∀ k, S k → w'.heap[k]? = w.heap[k]?) : TX w' S c L V := by
  obtain ⟨Ts, h1, h2, h3, h4, h5⟩ := h
  exact ⟨Ts, h1, fun i d v hi hd hv => (h2 i d v hi hd hv).turn fun k hk' => hk k ((h5 k).2 ⟨i, (List.getElem?_eq_some_iff.1 hd).1, hk'⟩), h3, h4, h5⟩
theorem TL.split {w : World} {S : Nat → Prop} {L : List DV} {V : List Value} (h : TL w S L V) {c : Nat} {d : DV} {v : Value} (hd : L[c]? = some d) (hv : V[c]? = some v) : ∃ S1 S2, TRep w S1 d v ∧ TX w S2 c L V ∧ (∀ k, S1 k → ¬ S2 k) ∧ ∀ k, S k ↔ S1 k ∨ S2 k := by
  obtain ⟨Ts, h1, h2, h3, h4⟩ := h
  have hlt := (List.getElem?_eq_some_iff.1 hd).1
  refine ⟨Ts c, fun k => ∃ i, i < L.length ∧ i ≠ c ∧ Ts i k, h2 c d v hd hv, ⟨fun i k => i ≠ c ∧ Ts i k, h1, fun i d v hi hd hv => ?_, fun i j k hi hj => h3 i j k hi.2 hj.2, fun k hk => hk.1 rfl, fun k => Iff.rfl⟩, fun k hk ⟨i, _, hi, hk'⟩ => hi (h3 i c k hk' hk), fun k => ⟨fun hk => ?_, fun hk => ?_⟩⟩
  · exact (h2 i d v hd hv).congr fun k => by simp [hi]
  · obtain ⟨i, hi, hk⟩ := (h4 k).1 hk
    by_cases hic : i = c
    · subst hic; exact .inl hk
    · exact .inr ⟨i, hi, hic, hk⟩
  · rcases hk with hk | ⟨i, hi, _, hk⟩
    · exact (h4 k).2 ⟨c, hlt, hk⟩
    · exact (h4 k).2 ⟨i, hi, hk⟩
theorem TX.join {w : World} {S1 S2 : Nat → Prop} {c : Nat} {L : List DV} {V : List Value} {d : DV} {v : Value} (h : TX w S2 c L V) (h1 : TRep w S1 d v) (hc : c < L.length) (hv : V[c]? = some v) (hd : ∀ k, S1 k → ¬ S2 k) : TL w (fun k => S1 k ∨ S2 k) (L.set c d) V := by
  obtain ⟨Ts, g1, g2, g3, g4, g5⟩ := h
  refine ⟨fun i k => (i = c ∧ S1 k) ∨ (i < L.length ∧ Ts i k), by simpa using g1, fun i d' v' hd' hv' => ?_, fun i j k hi hj => ?_, fun k => ⟨fun hk => ?_, fun hk => ?_⟩⟩
  · by_cases hi : c = i
    · subst hi
      rw [List.getElem?_set_self hc] at hd'
      rw [hv] at hv'
      simp only [Option.some.injEq] at hd' hv'
      subst hd'; subst hv'
      exact h1.congr fun k => by simp [g4]
    · rw [List.getElem?_set_ne hi] at hd'
      have hl := (List.getElem?_eq_some_iff.1 hd').1
      have hi' : ¬ i = c := fun e => hi e.symm
      exact (g2 i d' v' hi' hd' hv').congr fun k => by simp [hi', hl]
  · rcases hi with ⟨a1, a2⟩ | ⟨a1, a2⟩ <;> rcases hj with ⟨b1, b2⟩ | ⟨b1, b2⟩
    · rw [a1, b1]
    · exact absurd ((g5 k).2 ⟨j, b1, b2⟩) (hd k a2)
    · exact absurd ((g5 k).2 ⟨i, a1, a2⟩) (hd k b2)
    · exact g3 i j k a2 b2
  · rcases hk with hk | hk
    · exact ⟨c, by simpa using hc, .inl ⟨rfl, hk⟩⟩
    · obtain ⟨i, hi, hk⟩ := (g5 k).1 hk
      exact ⟨i, by simpa using hi, .inr ⟨hi, hk⟩⟩
  · obtain ⟨i, _, ⟨_, hk⟩ | ⟨hi, hk⟩⟩ := hk
    · exact .inl hk
    · exact .inr ((g5 k).2 ⟨i, hi, hk⟩)
end Go.Proofs.YtnklhbfdfddigaaDoor

set_option linter.all false
set_option maxRecDepth 20000
namespace Go.Proofs.YtnklhbfdfddigaaDoor
open Go.RowKit

section
variable {P : Program} [PT P] {C : Ctx} {Q : Exit → ASt → Prop} {s : ASt} {ops : Array Oper} {U U' : Nat → Prop} {a : Act} {w : World} {m : Nat → Option (Option Nat × Nat)}

def mNew (m : Nat → Option (Option Nat × Nat)) (new : List (Nat × Chunk)) (pm : Nat → Option Nat × Nat) (j : Nat) : Option (Option Nat × Nat) :=
  match getL j new with
  | some _ => some (pm j)
  | none => m j
theorem mNew_some {new : List (Nat × Chunk)} {pm : Nat → Option Nat × Nat} {j : Nat} {c : Chunk} (h : getL j new = some c) : mNew m new pm j = some (pm j) := by simp [mNew, h]
theorem mNew_none {new : List (Nat × Chunk)} {pm : Nat → Option Nat × Nat} {j : Nat} (h : getL j new = none) : mNew m new pm j = m j := by simp [mNew, h]
theorem RelM.repack (h : RelM C U s a w m) {t : ASt} (new : List (Nat × Chunk)) (pm : Nat → Option Nat × Nat) (gone : List Nat) (hn : t.n = s.n)
    (ht : ∀ id c, t.chunk id = some c → getL id new = some c ∨ (getL id new = none ∧ id ∉ gone ∧ s.chunk id = some c))
    (hU : ∀ id c, getL id new = some c → U id ∨ m id = some (pm id))
    (hU' : ∀ j, U' j → U j ∧ getL j new = none)
    (hocc : ∀ id c b, getL id new = some c → occ (pm id) c b → ∃ j c0 q, j ∈ gone ∧ s.chunk j = some c0 ∧ m j = some q ∧ occ q c0 b)
    (hdis : ∀ id id' c c' b, getL id new = some c → getL id' new = some c' → occ (pm id) c b → occ (pm id') c' b → id = id')
    (hrep : ∀ F', (∀ k, Fz C m s w k → F' k) → ∀ id c, getL id new = some c → CRep (mNew m new pm) F' w (pm id) c)
    (hsl : MLe m (mNew m new pm) → ∀ F', (∀ k, Fz C m s w k → F' k) → ∀ i, ARep (mNew m new pm) F' w (t.get i) (a.tmps.getD i undef)) : RelM C U' t a w (mNew m new pm) := by
  have hle : MLe m (mNew m new pm) := by
    intro j p hp
    cases hg : getL j new with
    | none => rw [mNew_none hg]; exact hp
    | some c =>
      rcases hU j c hg with h1 | h1
      · rw [h.un j h1] at hp; cases hp
      · rw [hp] at h1; rw [mNew_some hg, h1]
  have hF : ∀ k, Fz C m s w k → Fz C (mNew m new pm) t w k := by
    intro k hk
    refine ⟨hk.1, hk.2.1, fun id c p h1 h2 ho => ?_⟩
    rcases ht id c h1 with g | ⟨g, _, g3⟩
    · rw [mNew_some g] at h2
      obtain rfl : pm id = p := by simpa using h2
      obtain ⟨j, c0, q, _, q2, q3, q4⟩ := hocc id c k g ho
      exact hk.2.2 j c0 q q2 q3 q4
    · rw [mNew_none g] at h2
      exact hk.2.2 id c p g3 h2 ho
  refine ⟨h.fr, h.fin, by rw [hn]; exact h.sz, hsl hle _ hF, fun id c h1 => ?_, fun id id' c c' p p' h1 h2 hp hp' b hb hb' => ?_, fun j hj => ?_, h.defers, fun id p hp => hle id p (h.m0 id p hp), h.m0k⟩
  · rcases ht id c h1 with g | ⟨g, _, g3⟩
    · refine ⟨pm id, mNew_some g, hrep _ hF id c g, fun b hb => ?_⟩
      obtain ⟨j, c0, q, _, q2, q3, q4⟩ := hocc id c b g hb
      obtain ⟨q', hq', _, hl⟩ := h.ch j c0 q2
      rw [q3] at hq'
      obtain rfl : q = q' := by simpa using hq'
      exact hl b q4
    · obtain ⟨p, hp, hr, hl⟩ := h.ch id c g3
      exact ⟨p, hle _ _ hp, hr.turn hle (fun k hk _ => ⟨hF k hk, rfl⟩) (fun _ _ => rfl), hl⟩
  · rcases ht id c h1 with g | ⟨g, g2, g3⟩ <;> rcases ht id' c' h2 with g' | ⟨g', g2', g3'⟩
    · rw [mNew_some g] at hp
      rw [mNew_some g'] at hp'
      obtain rfl : pm id = p := by simpa using hp
      obtain rfl : pm id' = p' := by simpa using hp'
      exact hdis id id' c c' b g g' hb hb'
    · rw [mNew_some g] at hp
      rw [mNew_none g'] at hp'
      obtain rfl : pm id = p := by simpa using hp
      obtain ⟨j, c0, q, q1, q2, q3, q4⟩ := hocc id c b g hb
      have := h.inj j id' c0 c' q p' q2 g3' q3 hp' b q4 hb'
      subst this
      exact absurd q1 g2'
    · rw [mNew_none g] at hp
      rw [mNew_some g'] at hp'
      obtain rfl : pm id' = p' := by simpa using hp'
      obtain ⟨j, c0, q, q1, q2, q3, q4⟩ := hocc id' c' b g' hb'
      have := h.inj j id c0 c q p q2 g3 q3 hp b q4 hb
      subst this
      exact absurd q1 g2
    · rw [mNew_none g] at hp
      rw [mNew_none g'] at hp'
      exact h.inj id id' c c' p p' g3 g3' hp hp' b hb hb'
  · obtain ⟨h1, h2⟩ := hU' j hj
    rw [mNew_none h2]
    exact h.un j h1

/-- A reading that can be said in one of several ways. -/
structure WeakR (C : Ctx) (s : ASt) (T : ASt → Prop) : Prop where
  run : ∀ a w, Rel C s a w → ∃ t, T t ∧ Rel C t a w
theorem CRep.predAt {F : Nat → Prop} {p : Option Nat × Nat} {S : Nat → Prop} {K : World → Prop} (h : CRep m F w p (.pred S K)) : p = (none, 0) ∧ K w ∧ (∀ w w', (∀ k, S k → w'.heap[k]? = w.heap[k]?) → K w → K w') ∧ ∀ k, S k → k < w.heap.size := by
  cases h with
  | pred h1 h2 h3 => exact ⟨rfl, h1, h2, h3⟩
theorem occ_pred' {S : Nat → Prop} {K : World → Prop} {k : Nat} (h : occ (none, 0) (.pred S K) k) : S k := by
  rcases h with h | h
  · cases h
  · exact h

/-- Two facts made one, under the first one's name. -/
theorem Weak.join (id1 id2 : Nat) {S1 S2 : Nat → Prop} {K1 K2 : World → Prop} (K : World → Prop) (h1 : s.chunk id1 = some (.pred S1 K1)) (h2 : s.chunk id2 = some (.pred S2 K2)) (hne : Nat.beq id1 id2 = false)
    (hK : ∀ w, K1 w → K2 w → (∀ k, S1 k → ¬ S2 k) → K w) (hcl : ∀ w w', (∀ k, S1 k ∨ S2 k → w'.heap[k]? = w.heap[k]?) → K w → K w') :
    Weak C s { n := s.n, nx := s.nx, sl := s.sl, ch := (id1, some (.pred (fun k => S1 k ∨ S2 k) K)) :: (id2, none) :: s.ch } := by
  refine ⟨?_⟩
  rintro a w ⟨m, hR⟩
  have hne : id1 ≠ id2 := Nat.ne_of_beq_eq_false hne
  obtain ⟨p1, q1, c1, l1⟩ := hR.ch id1 _ h1
  obtain ⟨p2, q2, c2, l2⟩ := hR.ch id2 _ h2
  obtain ⟨rfl, k1, cl1, lt1⟩ := c1.predAt
  obtain ⟨rfl, k2, cl2, lt2⟩ := c2.predAt
  have hd : ∀ k, S1 k → ¬ S2 k := fun k g1 g2 => hne (hR.inj id1 id2 _ _ _ _ h1 h2 q1 q2 k (.inr g1) (.inr g2))
  refine ⟨_, hR.repack (U' := fun i => s.nx ≤ i) [(id1, .pred (fun k => S1 k ∨ S2 k) K)] (fun _ => (none, 0)) [id1, id2] rfl (fun i c h => ?_) (fun i c h => .inr ?_) (fun i hi => ⟨hi, ?_⟩) (fun i c b h hb => ?_) (fun i i' c c' b h h' _ _ => ?_) (fun F' _ i c h => ?_) (fun hle F' hF i => (hR.sl i).turn hle (fun k hk _ => ⟨hF k hk, rfl⟩))⟩
  · change (getL i (_ :: _ :: _)).getD none = _ at h
    rw [getL_cons] at h
    rw [getL_cons]
    split at h
    · rename_i ei; rw [if_pos ei]; exact .inl (by simpa using h)
    · rename_i ei
      rw [if_neg ei]
      rw [getL_cons] at h
      split at h
      · cases h
      · rename_i ei'; exact .inr ⟨rfl, by simp [ei, ei'], h⟩
  · obtain ⟨rfl, _⟩ := getL_one h; exact q1
  · rw [getL_cons]
    split
    · rename_i ei; subst ei; have := hR.un i hi; rw [q1] at this; cases this
    · rfl
  · obtain ⟨rfl, rfl⟩ := getL_one h
    rcases occ_pred' hb with g | g
    · exact ⟨i, _, _, by simp, h1, q1, .inr g⟩
    · exact ⟨id2, _, _, by simp, h2, q2, .inr g⟩
  · rw [(getL_one h).1, (getL_one h').1]
  · obtain ⟨rfl, rfl⟩ := getL_one h
    exact .pred (hK w k1 k2 hd) hcl (fun k hk => hk.elim (lt1 k) (lt2 k))
/-- A fact said in other words. -/
theorem Weak.cons (id : Nat) {S : Nat → Prop} {K : World → Prop} (K' : World → Prop) (h0 : s.chunk id = some (.pred S K)) (hK : ∀ w, K w → K' w) (hcl : ∀ w w', (∀ k, S k → w'.heap[k]? = w.heap[k]?) → K' w → K' w') :
    Weak C s { n := s.n, nx := s.nx, sl := s.sl, ch := (id, some (.pred S K')) :: s.ch } := by
  refine ⟨?_⟩
  rintro a w ⟨m, hR⟩
  obtain ⟨p1, q1, c1, l1⟩ := hR.ch id _ h0
  obtain ⟨rfl, k1, cl1, lt1⟩ := c1.predAt
  refine ⟨_, hR.repack (U' := fun i => s.nx ≤ i) [(id, .pred S K')] (fun _ => (none, 0)) [id] rfl (fun i c h => ?_) (fun i c h => .inr ?_) (fun i hi => ⟨hi, ?_⟩) (fun i c b h hb => ?_) (fun i i' c c' b h h' _ _ => ?_) (fun F' _ i c h => ?_) (fun hle F' hF i => (hR.sl i).turn hle (fun k hk _ => ⟨hF k hk, rfl⟩))⟩
  · change (getL i (_ :: _)).getD none = _ at h
    rw [getL_cons] at h
    rw [getL_cons]
    split at h
    · rename_i ei; rw [if_pos ei]; exact .inl (by simpa using h)
    · rename_i ei
      rw [if_neg ei]
      exact .inr ⟨rfl, by simpa using ei, h⟩
  · obtain ⟨rfl, _⟩ := getL_one h; exact q1
  · rw [getL_cons]
    split
    · rename_i ei; subst ei; have := hR.un i hi; rw [q1] at this; cases this
    · rfl
  · obtain ⟨rfl, rfl⟩ := getL_one h
    exact ⟨_, _, _, by simp, h0, q1, .inr (occ_pred' hb)⟩
  · rw [(getL_one h).1, (getL_one h').1]
  · obtain ⟨rfl, rfl⟩ := getL_one h
    exact .pred (hK w k1) hcl lt1
end
end Go.Proofs.YtnklhbfdfddigaaDoor

set_option linter.all false
set_option maxRecDepth 20000
namespace Go.Proofs.YtnklhbfdfddigaaDoor
open Go.RowKit

/-- Rows of cells that hold just these values. -/
def rowsV (sz n : Nat) (V : List Value) : List (List DV) := (List.range n).map fun i => (List.range sz).map fun j => DV.val ((V[i * sz + j]?).getD undef)
theorem rowsV_len (sz n : Nat) (V : List Value) : (rowsV sz n V).length = n := by simp [rowsV]
theorem rowsV_get {sz n : Nat} {V : List Value} {i : Nat} (h : i < n) : (rowsV sz n V)[i]? = some ((List.range sz).map fun j => DV.val ((V[i * sz + j]?).getD undef)) := by simp [rowsV, h]
theorem rowsV_row {sz n : Nat} {V : List Value} {i : Nat} {cs : List DV} (h : (rowsV sz n V)[i]? = some cs) : i < n ∧ cs.length = sz ∧ ∀ (j : Nat) d, cs[j]? = some d → j < sz ∧ d = .val ((V[i * sz + j]?).getD undef) := by
  have hi := (List.getElem?_eq_some_iff.1 h).1
  rw [rowsV_len] at hi
  rw [rowsV_get hi] at h
  simp only [Option.some.injEq] at h
  subst h
  refine ⟨hi, by simp, fun j d hd => ?_⟩
  rw [List.getElem?_map, Option.map_eq_some_iff] at hd
  obtain ⟨q, hq, rfl⟩ := hd
  have := (List.getElem?_eq_some_iff.1 hq).1
  have h2 : q = j := by
    have := (List.getElem?_eq_some_iff.1 hq).2
    simpa using this.symm
  subst h2
  exact ⟨by simpa using this, rfl⟩
theorem row_lt {i j n sz : Nat} (hi : i < n) (hj : j < sz) : i * sz + j < n * sz := by
  have h := Nat.mul_le_mul_right sz hi
  rw [Nat.succ_mul] at h
  omega
theorem flat_len : ∀ {els : List (List DV)} {sz : Nat}, (∀ cs, cs ∈ els → cs.length = sz) → els.flatten.length = els.length * sz
  | [], sz, _ => by simp
  | c :: els, sz, h => by
    rw [List.flatten_cons, List.length_append, flat_len (els := els) (fun cs hc => h cs (List.mem_cons_of_mem _ hc)), h c (by simp), List.length_cons, Nat.succ_mul]; omega
theorem flat_get : ∀ {els : List (List DV)} {sz : Nat} (_ : ∀ cs, cs ∈ els → cs.length = sz) {i j : Nat} {cs : List DV} {d : DV}, els[i]? = some cs → cs[j]? = some d → els.flatten[i * sz + j]? = some d
  | [], sz, _, i, j, cs, d, hi, _ => by simp at hi
  | c :: els, sz, h, i, j, cs, d, hi, hj => by
    have hc := h c (by simp)
    have hlt := (List.getElem?_eq_some_iff.1 hj).1
    cases i with
    | zero =>
      simp at hi; subst hi
      rw [List.flatten_cons, Nat.zero_mul, Nat.zero_add, List.getElem?_append_left hlt]; exact hj
    | succ i =>
      rw [List.getElem?_cons_succ] at hi
      rw [List.flatten_cons, List.getElem?_append_right (by rw [hc, Nat.succ_mul]; omega), hc, show (i + 1) * sz + j - sz = i * sz + j by rw [Nat.succ_mul]; omega]
      exact flat_get (fun cs hc => h cs (List.mem_cons_of_mem _ hc)) hi hj
theorem rowsV_flat {els : List (List DV)} {sz : Nat} (h : ∀ cs, cs ∈ els → cs.length = sz) (hz : 0 < sz) {c : Nat} (hc : c < els.flatten.length) : ∃ i j cs d, els[i]? = some cs ∧ cs[j]? = some d ∧ c = i * sz + j ∧ els.flatten[c]? = some d := by
  rw [flat_len h] at hc
  have h1 : c / sz < els.length := Nat.div_lt_of_lt_mul (by rw [Nat.mul_comm]; exact hc)
  have h2 : c % sz < sz := Nat.mod_lt _ hz
  have e1 := List.getElem?_eq_getElem h1
  have h3 := h _ (List.mem_of_getElem? e1)
  have e2 : c = c / sz * sz + c % sz := (Nat.div_add_mod' c sz).symm
  have e3 := List.getElem?_eq_getElem (show c % sz < (els[c / sz]).length by omega)
  refine ⟨_, _, _, _, e1, e3, e2, ?_⟩
  have := flat_get h e1 e3
  rwa [← e2] at this

/-- What data in blocks of its own is made of: its own array, and its parts. -/
theorem TRep.parts {w : World} {S : Nat → Prop} {e sz : Nat} {els : List (List DV)} {v : Value} (h : TRep w S (.view e sz els) v) (hz : 0 < sz) : ∃ (p : Option Nat × Nat) (V : List Value) (S' : Nat → Prop),
    v = .slice (p.1.map fun b => ⟨b, 0, none⟩) els.length p.2 ∧ (p.1 = none → els.length = 0 ∧ p.2 = 0) ∧ V.length = els.length * sz ∧ (∀ cs, cs ∈ els → cs.length = sz) ∧ TL w S' els.flatten V ∧ (∀ k, S k ↔ p.1 = some k ∨ S' k) ∧ (∀ k, p.1 = some k → ¬ S' k) ∧
    (∀ (c : Nat) x, els.flatten[c]? = some (.val x) → V[c]? = some x) ∧ ∀ m F, CRep m F w p (.arr e sz (rowsV sz els.length V)) := by
  cases h with
  | nil h => exact ⟨(none, 0), [], S, rfl, fun _ => ⟨rfl, rfl⟩, by simp, fun cs hc => by simp at hc, ⟨fun _ _ => False, rfl, fun i d v h => by simp at h, fun _ _ _ h => h.elim, fun k => ⟨fun h' => absurd h' (h k), fun ⟨_, h, _⟩ => by simp at h⟩⟩, fun k => by simp, fun k h => by simp at h, fun c x hc => by simp at hc, fun m F => .nil hz⟩
  | @view _ _ _ _ b cap vs fz Ts hb h1 h2 h3 h4 h5 h6 h7 h8 h9 h10 =>
    have hrow : ∀ cs, cs ∈ els → cs.length = sz := fun cs hc => by
      obtain ⟨i, hi⟩ := List.mem_iff_getElem?.1 hc
      exact h6 i cs hi
    have hfl := flat_len hrow
    have hcap := Nat.mul_le_mul_right sz h3
    have hV : ∀ c, c < els.length * sz → ((List.range (els.length * sz)).map fun c => vs.getD c undef)[c]? = some (vs.getD c undef) := fun c hc => by simp [hc]
    have hT : ∀ c d, els.flatten[c]? = some d → TRep w (Ts c) d (vs.getD c undef) := by
      intro c d hd
      obtain ⟨i, j, cs, d', e1, e2, rfl, e3⟩ := rowsV_flat hrow h5 (List.getElem?_eq_some_iff.1 hd).1
      rw [e3] at hd
      obtain rfl : d' = d := by simpa using hd
      exact h7 i cs j d' e1 e2
    refine ⟨(some b, cap), (List.range (els.length * sz)).map fun c => vs.getD c undef, fun k => ∃ c, c < els.length * sz ∧ Ts c k, rfl, fun h => by simp at h, by simp, hrow, ⟨Ts, by simp [hfl], fun c d v hd hv => ?_, h9, fun k => by rw [hfl]⟩, fun k => by rw [h10 k]; simp [eq_comm], fun k hk => ?_, fun c x hc => ?_, fun m F => .arr hb h1 h2 (by rw [rowsV_len]; exact h3) h4 h5 (fun i cs hi => (rowsV_row hi).2.1) (fun i cs j d hi hj => ?_)⟩
    · have hlt := (List.getElem?_eq_some_iff.1 hd).1
      rw [hfl] at hlt
      rw [hV c hlt] at hv
      simp only [Option.some.injEq] at hv
      subst hv
      exact hT c d hd
    · simp only [Option.some.injEq] at hk
      subst hk
      rintro ⟨c, _, hc⟩
      exact h8 c hc
    · have hlt := (List.getElem?_eq_some_iff.1 hc).1
      rw [hfl] at hlt
      rw [hV c hlt]
      have := hT c _ hc
      generalize vs.getD c undef = u at this
      cases this; rfl
    · obtain ⟨hi1, _, hrw⟩ := rowsV_row hi
      obtain ⟨hj1, rfl⟩ := hrw j d hj
      have hlt := row_lt hi1 hj1
      rw [hV _ hlt, Option.getD_some]
      refine .val ?_
      have hlt' : i * sz + j < els.flatten.length := by rw [hfl]; exact hlt
      have hE := List.getElem?_eq_getElem hlt'
      generalize els.flatten[i * sz + j] = dd at hE
      have := hT _ _ hE
      generalize vs.getD (i * sz + j) undef = u at this
      cases this <;> first | assumption | trivial
/-- .. and back. -/
theorem TRep.whole {w : World} {m : Nat → Option (Option Nat × Nat)} {F S' : Nat → Prop} {e sz : Nat} {els : List (List DV)} {V : List Value} {p : Option Nat × Nat} (hp : p.1 = none → els.length = 0 ∧ p.2 = 0) (hrow : ∀ cs, cs ∈ els → cs.length = sz) (hL : TL w S' els.flatten V) (hS : ∀ k, p.1 = some k → ¬ S' k)
    (hC : CRep m F w p (.arr e sz (rowsV sz els.length V))) : TRep w (fun k => p.1 = some k ∨ S' k) (.view e sz els) (.slice (p.1.map fun b => ⟨b, 0, none⟩) els.length p.2) := by
  have hfl := flat_len hrow
  obtain ⟨Ts, g1, g2, g3, g4⟩ := hL
  generalize hE : rowsV sz els.length V = E at hC
  cases hC with
  | nil h =>
    have : els = [] := by
      have h2 := congrArg List.length hE
      rw [rowsV_len] at h2
      exact List.eq_nil_of_length_eq_zero h2
    subst this
    refine .nil fun k hk => ?_
    rcases hk with hk | hk
    · simp at hk
    · obtain ⟨i, hi, _⟩ := (g4 k).1 hk
      simp at hi
  | @arr b cap _ _ _ vs fz hb hf hsz hl hm h0' hrw hel =>
    subst hE
    rw [rowsV_len] at hl
    refine .view (fun c k => c < els.length * sz ∧ Ts c k) hb hf hsz hl hm h0' (fun i cs hi => hrow cs (List.mem_of_getElem? hi)) (fun i cs j d hi hj => ?_) (fun c hc => hS b rfl ((g4 b).2 ⟨c, by rw [hfl]; exact hc.1, hc.2⟩)) (fun c c' k h1 h2 => g3 c c' k h1.2 h2.2) (fun k => ?_)
    · have hi1 := (List.getElem?_eq_some_iff.1 hi).1
      have hj1 := (List.getElem?_eq_some_iff.1 hj).1
      rw [hrow cs (List.mem_of_getElem? hi)] at hj1
      have hlt := row_lt hi1 hj1
      have hx := hel i _ j (DV.val ((V[i * sz + j]?).getD undef)) (rowsV_get hi1) (by simp [hj1])
      have hfg := flat_get hrow hi hj
      have hv := List.getElem?_eq_getElem (show i * sz + j < V.length by omega)
      have := g2 _ _ _ hfg hv
      rw [hv, Option.getD_some] at hx
      generalize vs.getD (i * sz + j) undef = u at hx
      cases hx
      exact this.congr fun k => by simp [hlt]
    · rw [g4 k, hfl]
      constructor
      · rintro (h | ⟨c, hc, hk⟩)
        · simp only [Option.some.injEq] at h; exact .inl h.symm
        · exact .inr ⟨c, hc, hc, hk⟩
      · rintro (rfl | ⟨c, hc, _, hk⟩)
        · exact .inl rfl
        · exact .inr ⟨c, hc, hk⟩
end Go.Proofs.YtnklhbfdfddigaaDoor

set_option linter.all false
set_option maxRecDepth 20000
namespace Go.Proofs.YtnklhbfdfddigaaDoor
open Go.RowKit

def eqOf (op : BinOp) (b : Bool) : Option Bool :=
  match op with
  | .eql => some b
  | .neq => some (!b)
  | _ => none
section
variable {P : Program} [PT P]
variable {s : ASt} {dst : Option Nat} {ty : Nat} {pos : String} {af : Array Edge} {gd : Option (Nat × Bool)} {x y : Operand} {xt yt : Nat}
def bitU (e : Nat) : BitVec 64 := BitVec.twoPow 64 e
end
end Go.Proofs.YtnklhbfdfddigaaDoor

set_option linter.all false
set_option maxRecDepth 20000
namespace Go.Proofs.YtnklhbfdfddigaaDoor
open Go.RowKit

/-- What the caller's own reads as, to one who may only read. -/
inductive BL1 (ids : List Nat) (s : ASt) : DV → AV → Prop
  | d {x : DV} : BL1 ids s x (.d x)
  | nil {e sz : Nat} : BL1 ids s (.view e sz []) (.d (.val (.slice none 0 0)))
  | own {id n e sz : Nat} {els els' : List (List DV)} : ids.contains id = true → s.chunk id = some (.arr e sz els) → n ≤ els.length → els.take n = els' → BL1 ids s (.view e sz els') (.own id n)
  | pred {id : Nat} {x : DV} {v : Value} {S : Nat → Prop} {K : World → Prop} : ids.contains id = true → s.chunk id = some (.pred S K) → (∀ w, K w → DRep S w x v) → BL1 ids s x (.d (.val v))
inductive BLs (ids : List Nat) (s : ASt) : List DV → List AV → Prop
  | nil : BLs ids s [] []
  | cons {d : DV} {c : AV} {ds : List DV} {cs : List AV} : BL1 ids s d c → BLs ids s ds cs → BLs ids s (d :: ds) (c :: cs)
inductive BL (ids : List Nat) (s : ASt) : AV → AV → Prop
  | of {x : DV} {y : AV} : BL1 ids s x y → BL ids s (.d x) y
  | clo {f : FuncId} {ds : List DV} : BL ids s (.clo f (ds.map .d)) (.clo f (ds.map .d))
  | agg {ds : List DV} : BL ids s (.agg (ds.map .d)) (.agg (ds.map .d))
  | ptr {id t : Nat} {cs : List AV} {ds : List DV} : ids.contains id = true → s.chunk id = some (.cells t cs) → BLs ids s ds cs → BL ids s (.d (.ref ds)) (.ptr id 0)
  | aggs {cs : List AV} {ds : List DV} : BLs ids s ds cs → BL ids s (.agg (ds.map .d)) (.agg cs)
inductive BAs (ids : List Nat) (s : ASt) : List AV → List AV → Prop
  | nil : BAs ids s [] []
  | cons {x y : AV} {xs ys : List AV} : BL ids s x y → BAs ids s xs ys → BAs ids s (x :: xs) (y :: ys)
theorem BLs.get {ids : List Nat} {s : ASt} {ds : List DV} {cs : List AV} (h : BLs ids s ds cs) : ds.length = cs.length ∧ ∀ (i : Nat) d, ds[i]? = some d → ∃ c, cs[i]? = some c ∧ BL1 ids s d c := by
  induction h with
  | nil => exact ⟨rfl, fun i d h => by simp at h⟩
  | cons h _ ih =>
    refine ⟨by simp [ih.1], fun i d hd => ?_⟩
    cases i with
    | zero => simp at hd; subst hd; exact ⟨_, rfl, h⟩
    | succ i => simpa using ih.2 i d (by simpa using hd)
theorem BAs.get {ids : List Nat} {s : ASt} {xs ys : List AV} (h : BAs ids s xs ys) : xs.length = ys.length ∧ ∀ (i : Nat) x, xs[i]? = some x → ∃ y, ys[i]? = some y ∧ BL ids s x y := by
  induction h with
  | nil => exact ⟨rfl, fun i d h => by simp at h⟩
  | cons h _ ih =>
    refine ⟨by simp [ih.1], fun i d hd => ?_⟩
    cases i with
    | zero => simp at hd; subst hd; exact ⟨_, rfl, h⟩
    | succ i => simpa using ih.2 i d (by simpa using hd)
mutual
/-- A reading without any block behind it. -/
def AV.flat : AV → Bool
  | .d (.val _) => true
  | .tup cs => AV.flatL cs
  | .agg cs => AV.flatL cs
  | _ => false
def AV.flatL : List AV → Bool
  | [] => true
  | c :: cs => c.flat && AV.flatL cs
end
theorem AV.flatL_get : ∀ {cs : List AV}, AV.flatL cs = true → ∀ (i : Nat) c, cs[i]? = some c → c.flat = true
  | [], _, i, c, h => by simp at h
  | c :: cs, hf, i, c', h => by
    simp only [AV.flatL, Bool.and_eq_true] at hf
    cases i with
    | zero => simp at h; subst h; exact hf.1
    | succ i => exact AV.flatL_get hf.2 i c' (by simpa using h)
theorem ARep.flat {m m' : Nat → Option (Option Nat × Nat)} {F F' : Nat → Prop} {w w' : World} {x : AV} {v : Value} (h : ARep m F w x v) : x.flat = true → ARep m' F' w' x v := by
  induction h with
  | d h => intro hf; rename_i x v; cases x with
    | val u => exact .d (h.flat trivial)
    | _ => simp [AV.flat] at hf
  | agg h1 _ h3 ih => intro hf; exact .agg h1 (fun i c hc => ih i c hc (AV.flatL_get (by simpa [AV.flat] using hf) i c hc)) h3
  | tup h1 _ ih => intro hf; exact .tup h1 (fun i c hc => ih i c hc (AV.flatL_get (by simpa [AV.flat] using hf) i c hc))
  | _ => intro hf; simp [AV.flat] at hf
section
variable {P : Program} [PT P]
variable {s : ASt} {dst : Option Nat} {ty : Nat} {pos : String} {af : Array Edge} {gd : Option (Nat × Bool)} {f : Nat}
theorem BL1.rep {C : Ctx} {U : Nat → Prop} {ids : List Nat} {s' : ASt} {a : Act} {w : World} {m : Nat → Option (Option Nat × Nat)} (hR : RelM C U s' a w m) (hch : ∀ id, id ∈ ids → s'.chunk id = s.chunk id) {F : Nat → Prop} (hF : ∀ k, k < w.heap.size → F k) {x : DV} {y : AV} {v : Value} (h : BL1 ids s x y) (hy : ARep m (Fz C m s' w) w y v) : DRep F w x v := by
  have hFz : ∀ q, Fz C m s' w q → F q := fun q hq => hF q hq.2.1
  cases h with
  | d => cases hy with | d h => exact h.mono hFz
  | nil => cases hy with | d h => cases h; exact .nil
  | @own id n e sz els els' hid hc hn he =>
    subst he
    have hc' : s'.chunk id = some (.arr e sz els) := by rw [hch id (by simpa using hid)]; exact hc
    obtain ⟨p, hp, hr, _⟩ := hR.ch id _ hc'
    exact own_view hy hp hr hn hFz (fun b hb => hF b (hr.lt (.inl hb)))
  | @pred id _ u S K hid hc hK =>
    have hc' : s'.chunk id = some (.pred S K) := by rw [hch id (by simpa using hid)]; exact hc
    obtain ⟨p, hp, hr, _⟩ := hR.ch id _ hc'
    have hv : v = u := by cases hy with | d h => cases h; rfl
    subst hv
    cases hr with
    | pred h1 h2 h3 => exact (hK w h1).mono fun k hk => hF k (h3 k hk)
theorem BL.rep {C : Ctx} {U : Nat → Prop} {ids : List Nat} {s' : ASt} {a : Act} {w : World} {m m0 : Nat → Option (Option Nat × Nat)} (hR : RelM C U s' a w m) (hch : ∀ id, id ∈ ids → s'.chunk id = s.chunk id) {F : Nat → Prop} (hF : ∀ k, k < w.heap.size → F k) {x y : AV} {v : Value} (h : BL ids s x y) (hy : ARep m (Fz C m s' w) w y v) : ARep m0 F w x v := by
  have hFz : ∀ q, Fz C m s' w q → F q := fun q hq => hF q hq.2.1
  have hds : ∀ (ds : List DV) (i : Nat) c v, (ds.map AV.d)[i]? = some c → ARep m (Fz C m s' w) w c v → ARep m0 F w c v := by
    intro ds i c v hc hv
    rw [List.getElem?_map, Option.map_eq_some_iff] at hc
    obtain ⟨d, _, rfl⟩ := hc
    cases hv with | d h => exact .d (h.mono hFz)
  cases h with
  | of h => exact .d (h.rep hR hch hF hy)
  | clo => cases hy with | clo h1 h2 => exact .clo h1 (fun i c hc => hds _ i c _ hc (h2 i c hc))
  | agg => cases hy with | agg h1 h2 h3 => exact .agg h1 (fun i c hc => hds _ i c _ hc (h2 i c hc)) h3
  | aggs hcs =>
    obtain ⟨hl, hg⟩ := hcs.get
    cases hy with
    | agg h1 h2 h3 =>
      refine .agg (by rw [h1, List.length_map, hl]) (fun i c hc => ?_) h3
      rw [List.getElem?_map, Option.map_eq_some_iff] at hc
      obtain ⟨d, hd, rfl⟩ := hc
      obtain ⟨c', hc', hdc⟩ := hg i d hd
      exact .d (hdc.rep hR hch hF (h2 i c' hc'))
  | ptr hid hc hcs =>
    rename_i id t cs ds
    have hc' : s'.chunk id = some (.cells t cs) := by rw [hch id (by simpa using hid)]; exact hc
    cases hy with
    | ptr hp =>
      obtain ⟨hl, hg⟩ := hcs.get
      cases hR.chunkAt hc' hp with
      | cells hb hs hv h1 =>
        refine .d (.ref (hF _ (lt_of_block hb)) hb (by omega) (fun j d hd => ?_))
        obtain ⟨c, hc, hdc⟩ := hg j d hd
        rw [Nat.zero_add]
        exact hdc.rep hR hch hF (hv j c hc)
/-- A call of a function that only reads: the caller's own blocks are lent to it. -/
theorem h_borrow (ids : List Nat) {g : FuncId} {caps ys ars : List AV} {fx : Operand} {xs : Array Operand} {ats : Array TypeId} {r : AV} (hen : Enters P g) (hf : s.ev fx = .clo g caps) (hys : xs.toList.map s.ev ++ caps = ys)
    (hspec : ASpec P g ars [] (Pure1 r)) (hlead : BAs ids s ars ys) (hr : r.flat = true) :
    NOp P ids s ⟨dst, .call { callee := .value fx, args := xs, argTypes := ats }, ty, pos, af, gd⟩ f ⟨r, []⟩ := by
  refine ⟨fun s' ha C U U' a w m hR hU hU' hd K Q hK => ?_⟩
  have hfx := hR.ev fx
  rw [ha.2.1 fx (by simp [Op.operands, Call.operands]), hf] at hfx
  generalize hfv : a.eval fx = fv at hfx
  cases hfx with
  | clo hc1 hc2 =>
    rename_i cv
    have hrun : (execOp a.eval ⟨dst, .call { callee := .value fx, args := xs, argTypes := ats }, ty, pos, af, gd⟩).run P w = .ok (.enter g (xs.map a.eval ++ cv)) w := by
      simp [execOp, resolve, hfv, Deferred.ofValue, invoke, hen (xs.map a.eval ++ cv) w]
    obtain ⟨hl1, hl2⟩ := hlead.get
    have harg : ∀ (i : Nat) y, ys[i]? = some y → ARep m (Fz C m s' w) w y ((xs.map a.eval ++ cv).getD i undef) := by
      intro i y hy
      rw [← hys] at hy
      by_cases hi : i < xs.size
      · rw [List.getElem?_append_left (by simpa using hi), List.getElem?_map, Option.map_eq_some_iff] at hy
        obtain ⟨x, hx, rfl⟩ := hy
        have hx' : xs[i]? = some x := by simpa using hx
        have := hR.ev x
        rw [ha.2.1 x (by simp only [Op.operands, Call.operands, Array.mem_append]; exact .inr (Array.mem_of_getElem? hx'))] at this
        have e : (xs.map a.eval ++ cv).getD i undef = a.eval x := by
          have hxi : xs[i] = x := (Array.getElem?_eq_some_iff.1 hx').2
          simp [Array.getD_eq_getD_getElem?, Array.getElem?_append, hi, hxi]
        rw [e]; exact this
      · rw [List.getElem?_append_right (by simpa using Nat.le_of_not_lt hi)] at hy
        have := hc2 _ y hy
        have e : (xs.map a.eval ++ cv).getD i undef = cv.getD (i - xs.size) undef := by
          simp [Array.getD_eq_getD_getElem?, Array.getElem?_append, hi]
        rw [e]; simpa using this
    have hcall := hspec w (fun _ => none) (fun k => k < w.heap.size) (xs.map a.eval ++ cv) (fun k hk => ⟨hk, fun id c p hc => by simp [getL] at hc⟩) ?_ ?_ (fun id c hc => by simp [getL] at hc) (fun id id' c c' p p' b hc => by simp [getL] at hc) (fun id _ => rfl)
    · unfold Oper.wp
      rw [hrun]
      simp only [Oper.upon]
      refine Calls.mono hcall ?_
      rintro e w' ⟨v, r', chs', m1, F1, rfl, ⟨rfl, rfl⟩, -, -, -, ⟨f1, f2, f3, f4, f5⟩, hv, -, -⟩
      have hold : ∀ k, k < w.heap.size → w'.heap[k]? = w.heap[k]? := fun k hk => f5 k hk (fun id c p hc => by simp [getL] at hc)
      refine hK _ _ m (hR.step hd (MLe.refl m) (fun j hj => hR.un j (hU' j hj).1) ?_ f4 (fun k hk => ⟨fun id c p hc => by simp [getL] at hc, hold k hk.2.1⟩) (fun id c p b h0 h1 h2 h3 => ?_) (fun F' hF hF2 => ⟨hv.flat hr, fun id c hc => by simp [getL] at hc⟩) (fun id id' c c' p p' b hc => by simp [getL] at hc))
      · refine ⟨f1.trans hR.fr.os, f2.trans hR.fr.tape, f3.trans hR.fr.output, Nat.le_trans hR.fr.size f4, fun k hk hn => ?_⟩
        rw [hold k (Nat.lt_of_lt_of_le hk hR.fr.size)]
        exact hR.fr.block k hk hn
      · refine hold b ?_
        obtain ⟨q, hq, hr', _⟩ := hR.ch id c h1
        rw [h2] at hq
        obtain rfl : p = q := by simpa using hq
        exact hr'.lt h3
    · have : ys.length = xs.size + caps.length := by rw [← hys]; simp
      simp only [Array.size_append, Array.size_map]
      omega
    · intro i x hx
      obtain ⟨y, hy, hxy⟩ := hl2 i x hx
      exact hxy.rep hR ha.2.2 (fun k hk => hk) (harg i y hy)
/-- A box of the call's own that holds plain data, given up to all. -/
theorem Weak.freezeRef {C : Ctx} (i : Nat) {id t : Nat} {ds : List DV} (hs : s.get i = .ptr id 0) (hc : s.chunk id = some (.cells t (ds.map .d))) : Weak C s { s with sl := (i, .d (.ref ds)) :: s.sl, ch := (id, none) :: s.ch } := by
  refine ⟨?_⟩
  rintro a w ⟨m, hR⟩
  have hch : ∀ j c, (getL j ((id, none) :: s.ch)).getD none = some c → j ≠ id ∧ s.chunk j = some c := by
    intro j c h
    rw [getL_cons] at h
    split at h
    · simp at h
    · rename_i e; exact ⟨e, h⟩
  have hF : ∀ q, Fz C m s w q → Fz C m { s with sl := (i, .d (.ref ds)) :: s.sl, ch := (id, none) :: s.ch } w q := fun q hq => ⟨hq.1, hq.2.1, fun j c p h1 h2 => hq.2.2 j c p (hch j c h1).2 h2⟩
  refine ⟨m, hR.fr, hR.fin, hR.sz, fun j => ?_, fun j c h1 => ?_, fun j j' c c' p p' h1 h2 hp hp' b hb hb' => hR.inj j j' c c' p p' (hch j c h1).2 (hch j' c' h2).2 hp hp' b hb hb', hR.un, hR.defers, hR.m0, hR.m0k⟩
  · show ARep _ _ _ ((getL j ((i, .d (.ref ds)) :: s.sl)).getD .dead) _
    rw [getL_cons]
    by_cases hj : j = i
    · subst hj
      rw [if_pos rfl]
      have hv := hR.sl j
      rw [hs] at hv
      generalize a.tmps.getD j undef = v at hv
      simp only [Option.getD_some]
      cases hv with
      | ptr hp =>
        rename_i b cap
        have hC := hR.chunkAt hc hp
        cases hC with
        | cells hb hsz hv h1 =>
          obtain ⟨q, hq, hr, hloc⟩ := hR.ch id _ hc
          rw [hp] at hq
          obtain rfl : (some b, cap) = q := by simpa using hq
          have hFb : Fz C m { s with sl := (j, .d (.ref ds)) :: s.sl, ch := (id, none) :: s.ch } w b := by
            refine ⟨.inr (hloc b (.inl rfl)), lt_of_block hb, fun j' c p h1 h2 h3 => ?_⟩
            obtain ⟨hne, h4⟩ := hch j' c h1
            exact hne (hR.inj j' id c _ p _ h4 hc h2 hp b h3 (.inl rfl))
          refine .d (.ref hFb hb (by simp at hsz; omega) (fun k d hd => ?_))
          have := hv k (.d d) (by simp [hd])
          rw [Nat.zero_add]
          cases this with | d h => exact h.mono hF
    · rw [if_neg hj]
      exact (hR.sl j).turn (MLe.refl m) (fun k hk _ => ⟨hF k hk, rfl⟩)
  · obtain ⟨_, h2⟩ := hch j c h1
    obtain ⟨p, hp, hr, hl⟩ := hR.ch j c h2
    exact ⟨p, hp, hr.turn (MLe.refl m) (fun k hk _ => ⟨hF k hk, rfl⟩) (fun _ _ => rfl), hl⟩
theorem RelM.freeze {C : Ctx} {U : Nat → Prop} {a : Act} {w : World} {m : Nat → Option (Option Nat × Nat)} (hR : RelM C U s a w m) {i id n e sz : Nat} {els els' : List (List DV)} (hs : s.get i = .own id n) (hc : s.chunk id = some (.arr e sz els)) (hn : n ≤ els.length) (he : els.take n = els') : RelM C U { s with sl := (i, .d (.view e sz els')) :: s.sl, ch := (id, none) :: s.ch } a w m := by
  subst he
  have hch : ∀ j c, (getL j ((id, none) :: s.ch)).getD none = some c → j ≠ id ∧ s.chunk j = some c := by
    intro j c h
    rw [getL_cons] at h
    split at h
    · simp at h
    · rename_i e; exact ⟨e, h⟩
  have hF : ∀ q, Fz C m s w q → Fz C m { s with sl := (i, .d (.view e sz (els.take n))) :: s.sl, ch := (id, none) :: s.ch } w q := fun q hq => ⟨hq.1, hq.2.1, fun j c p h1 h2 => hq.2.2 j c p (hch j c h1).2 h2⟩
  refine ⟨hR.fr, hR.fin, hR.sz, fun j => ?_, fun j c h1 => ?_, fun j j' c c' p p' h1 h2 hp hp' b hb hb' => hR.inj j j' c c' p p' (hch j c h1).2 (hch j' c' h2).2 hp hp' b hb hb', hR.un, hR.defers, hR.m0, hR.m0k⟩
  · show ARep _ _ _ ((getL j ((i, .d (.view e sz (els.take n))) :: s.sl)).getD .dead) _
    rw [getL_cons]
    by_cases hj : j = i
    · subst hj
      rw [if_pos rfl]
      have hv := hR.sl j
      rw [hs] at hv
      generalize a.tmps.getD j undef = v at hv
      simp only [Option.getD_some]
      cases hv with
      | own hp h0 =>
        rename_i cap b
        have hC := hR.chunkAt hc hp
        cases hC with
        | nil h =>
          have : n = 0 := by simpa using hn
          subst this
          exact .d .nil
        | arr hb hf hsz hl hm h0' hrow hel =>
          rename_i b arr fz
          have hlen : (els.take n).length = n := by simp; omega
          have hsub : ∀ (i : Nat) cs, (els.take n)[i]? = some cs → els[i]? = some cs := by
            intro i cs hi
            rw [List.getElem?_take] at hi
            split at hi
            · exact hi
            · cases hi
          obtain ⟨q, hq, hr, hloc⟩ := hR.ch id _ hc
          rw [hp] at hq
          obtain rfl : (some b, cap) = q := by simpa using hq
          have hFb : Fz C m { s with sl := (j, .d (.view e sz (els.take n))) :: s.sl, ch := (id, none) :: s.ch } w b := by
            refine ⟨.inr (hloc b (.inl rfl)), lt_of_block hb, fun j' c p h1 h2 h3 => ?_⟩
            obtain ⟨hne, h4⟩ := hch j' c h1
            exact hne (hR.inj j' id c _ p _ h4 hc h2 hp b h3 (.inl rfl))
          have := DRep.view (F := Fz C m { s with sl := (j, .d (.view e sz (els.take n))) :: s.sl, ch := (id, none) :: s.ch } w) (e := e) (sz := sz) (els := els.take n) (off := 0) (cap := cap) hFb hb (by omega) hm (by omega) (fun i cs hi => hrow i cs (hsub i cs hi)) (fun i cs j d hi hj => by rw [Nat.zero_add]; exact (hel i cs j d (hsub i cs hi) hj).mono hF)
          rw [hlen] at this
          exact .d this
    · rw [if_neg hj]
      exact (hR.sl j).turn (MLe.refl m) (fun k hk _ => ⟨hF k hk, rfl⟩)
  · obtain ⟨_, h2⟩ := hch j c h1
    obtain ⟨p, hp, hr, hl⟩ := hR.ch j c h2
    exact ⟨p, hp, hr.turn (MLe.refl m) (fun k hk _ => ⟨hF k hk, rfl⟩) (fun _ _ => rfl), hl⟩

end
end Go.Proofs.YtnklhbfdfddigaaDoor

set_option linter.all false
set_option maxRecDepth 20000
namespace Go.Proofs.YtnklhbfdfddigaaDoor
open Go.RowKit

theorem TL.congr {w : World} {S S' : Nat → Prop} {L : List DV} {V : List Value} (h : TL w S L V) (he : ∀ k, S k ↔ S' k) : TL w S' L V := by
  have : S = S' := funext fun k => propext (he k)
  subst this; exact h
section
variable {P : Program} [PT P] {C : Ctx} {Q : Exit → ASt → Prop} {s : ASt} {ops : Array Oper}
theorem WeakR.okI (i : Nat) {k : IntKind} {x : Int} (hs : s.get i = .d (.val (.int k x))) : WeakR C s fun t => okV (.int k x) ∧ t = s := by
  refine ⟨fun a w hR => ?_⟩
  obtain ⟨m, hm⟩ := hR
  have := hm.sl i
  rw [hs] at this
  refine ⟨s, ⟨?_, rfl⟩, m, hm⟩
  generalize a.tmps.getD i undef = u at this
  cases this with | d h => cases h with | val h => exact h
end
end Go.Proofs.YtnklhbfdfddigaaDoor

set_option linter.all false
set_option maxRecDepth 20000
namespace Go.Proofs.YtnklhbfdfddigaaDoor
open Go.RowKit

def sumL {α : Type} (wt : α → Nat) : List α → Nat
  | [] => 0
  | x :: l => wt x + sumL wt l
theorem tsL_len (ts : List Tn) : (tsL ts).length = ts.length := List.length_map _
end Go.Proofs.YtnklhbfdfddigaaDoor

set_option linter.all false
set_option maxRecDepth 20000
namespace Go.Proofs.YtnklhbfdfddigaaDoor
open Go.RowKit

def inR (N : Net) (t : Int) : Bool := decide (0 ≤ t) && decide (t ≤ (N.ts.length : Int) - 1)
end Go.Proofs.YtnklhbfdfddigaaDoor

set_option linter.all false
set_option maxRecDepth 20000
namespace Go.Proofs.YtnklhbfdfddigaaDoor
open Go.RowKit

def Cur.pick (c : Cur) (n : Int) : Int × Cur :=
  if n ≤ 1 then (0, c) else if 200 < n then ((c.next * 256 + c.after.next).tmod n, c.after.after) else (c.next.tmod n, c.after)
theorem drawn_in (s : Int) : 0 ≤ drawn s ∧ drawn s ≤ 255 := by
  unfold drawn
  have h1 : (BitVec.ofInt 64 (s.fdiv (2 ^ (min (40 : Int).toNat 64))) &&& BitVec.ofInt 64 255).toNat ≤ 255 := by
    rw [BitVec.toNat_and]
    exact Nat.le_trans Nat.and_le_right (by decide)
  generalize (BitVec.ofInt 64 (s.fdiv (2 ^ (min (40 : Int).toNat 64))) &&& BitVec.ofInt 64 255).toNat = x at h1
  have h2 : IntKind.u64.wrap (x : Int) = x := wrap_u64 (by omega)
  rw [h2, wrap_i64 (by omega)]
  omega
theorem Cur.next_in (c : Cur) : 0 ≤ c.next ∧ c.next ≤ 255 := by
  unfold Cur.next
  split
  · exact c.byte_in
  · exact drawn_in _
theorem Cur.pick_in (c : Cur) (n : Int) (h : 1 ≤ n) : 0 ≤ (c.pick n).1 ∧ (c.pick n).1 < n := by
  have h1 := c.next_in
  have h2 := c.after.next_in
  unfold Cur.pick
  split
  · exact ⟨Int.le_refl _, by show (0 : Int) < n; omega⟩
  · split
    · exact ⟨Int.tmod_nonneg _ (by omega), Int.tmod_lt_of_pos _ (by omega)⟩
    · exact ⟨Int.tmod_nonneg _ (by omega), Int.tmod_lt_of_pos _ (by omega)⟩
theorem Cur.pick_pos (c : Cur) (n : Int) : (c.pick n).2.pos ≤ c.pos + 2 := by
  unfold Cur.pick
  split
  · show c.pos ≤ _; omega
  · split
    · show c.pos + 1 + 1 ≤ _; omega
    · show c.pos + 1 ≤ _; omega
theorem Cur.pick_code (c : Cur) (n : Int) : (c.pick n).2.code = c.code := by
  unfold Cur.pick
  split
  · rfl
  · split <;> rfl

set_option maxHeartbeats 1000000 in
theorem pick_spec (c : Cur) (n : Int) (hn : n ≤ 65536) (hp : c.pos ≤ 100000000000000) : ASpec Tryd.prog 22 [.ptr 0 0, aI n] [(0, curC c)] (Fun1 (aI (c.pick n).1) [(0, curC (c.pick n).2)]) := by
  have hi := c.next_in
  have hi2 := c.after.next_in
  have hpa : c.after.pos ≤ 1000000000000000 := by show c.pos + 1 ≤ _; omega
  refine ASpec.of Tryd.func22 rfl rfl fun C hC => ?_
  refine AC.seq ?_
  refine AC.region ?_
  refine AL.p (by exact as1 rfl) rfl ?_
  refine AL.nil ?_
  refine th_n ?_
  refine AC.seq ?_
  refine AC.seq ?_
  refine AC.region ?_
  refine AL.p (by exact mv1 rfl) rfl ?_
  refine AL.p (by exact g_cmp rfl rfl rfl) rfl ?_
  refine AL.nil ?_
  refine th_n ?_
  refine AC.condD rfl (fun h0 => ?_) (fun h0 => ?_)
  · refine AC.seq ?_
    refine AC.region ?_
    refine AL.p (by exact as1 rfl) rfl ?_
    refine AL.nil ?_
    refine th_n ?_
    refine AC.ret ?_
    refine th_r ?_
    refine bq_r ?_
    have e : c.pick n = (0, c) := by unfold Cur.pick; rw [if_pos h0]
    exact retF rfl (by rw [e]; repeat (exact DLead.same)) (by rw [e]; repeat (first | exact True.intro | refine And.intro ?_ ?_ | exact DLead.same | exact rfl | refine ⟨_, _, rfl, rfl, ?_⟩ | refine ⟨_, rfl, ?_⟩ | refine ⟨_, _, rfl, ?_, ?_⟩)) rfl
  · refine AC.skip ?_
    refine th_n ?_
    refine AC.seq ?_
    refine AC.region ?_
    refine AL.p (by exact mv3 rfl) rfl ?_
    refine AL.q (by exact h_fun (cs := [0]) en_next rfl rfl (by repeat (first | exact rfl | refine ⟨_, _, rfl, ?_, ?_⟩ | refine ⟨_, rfl, ?_⟩)) (by repeat (first | exact True.intro | refine And.intro ?_ ?_ | exact DLead.same | exact rfl | refine ⟨_, _, rfl, rfl, ?_⟩ | refine ⟨_, rfl, ?_⟩ | refine ⟨_, _, rfl, ?_, ?_⟩)) (next_spec _ (by omega)) rfl rfl rfl rfl) rfl ?_
    refine AL.p (by exact as1 rfl) rfl ?_
    refine AL.nil ?_
    refine th_n ?_
    refine AC.seq ?_
    refine AC.seq ?_
    refine AC.region ?_
    refine AL.p (by exact mv1 rfl) rfl ?_
    refine AL.p (by exact g_cmp rfl rfl rfl) rfl ?_
    refine AL.nil ?_
    refine th_n ?_
    refine AC.condD rfl (fun h1 => ?_) (fun h1 => ?_)
    · refine AC.region ?_
      refine AL.p (by exact mv1 rfl) rfl ?_
      refine AL.p (by exact g_arith rfl rfl rfl (by exact wrap_i64 (by omega))) rfl ?_
      refine AL.p (by exact mv3 rfl) rfl ?_
      refine AL.q (by exact h_fun (cs := [0]) en_next rfl rfl (by repeat (first | exact rfl | refine ⟨_, _, rfl, ?_, ?_⟩ | refine ⟨_, rfl, ?_⟩)) (by repeat (first | exact True.intro | refine And.intro ?_ ?_ | exact DLead.same | exact rfl | refine ⟨_, _, rfl, rfl, ?_⟩ | refine ⟨_, rfl, ?_⟩ | refine ⟨_, _, rfl, ?_, ?_⟩)) (next_spec _ (by assumption)) rfl rfl rfl rfl) rfl ?_
      refine AL.p (by exact g_arith rfl rfl rfl (by exact wrap_i64 (by omega))) rfl ?_
      refine AL.p (by exact as1 rfl) rfl ?_
      refine AL.nil ?_
      refine th_n ?_
      refine AC.seq ?_
      refine AC.region ?_
      refine AL.p (by exact mv1 rfl) rfl ?_
      refine AL.p (by exact mv1 rfl) rfl ?_
      refine AL.p (by exact g_rem rfl rfl (by omega) rfl) rfl ?_
      refine AL.p (by exact as1 rfl) rfl ?_
      refine AL.nil ?_
      refine th_n ?_
      refine AC.ret ?_
      refine bq_r ?_
      (have e : c.pick n = ((c.next * 256 + c.after.next).tmod n, c.after.after) := (by unfold Cur.pick; rw [if_neg h0, if_pos h1]); exact retF rfl (by rw [e]; repeat (exact DLead.same)) (by rw [e]; repeat (first | exact True.intro | refine And.intro ?_ ?_ | exact DLead.same | exact rfl | refine ⟨_, _, rfl, rfl, ?_⟩ | refine ⟨_, rfl, ?_⟩ | refine ⟨_, _, rfl, ?_, ?_⟩)) rfl)
    · refine AC.skip ?_
      refine th_n ?_
      refine AC.seq ?_
      refine AC.region ?_
      refine AL.p (by exact mv1 rfl) rfl ?_
      refine AL.p (by exact mv1 rfl) rfl ?_
      refine AL.p (by exact g_rem rfl rfl (by omega) rfl) rfl ?_
      refine AL.p (by exact as1 rfl) rfl ?_
      refine AL.nil ?_
      refine th_n ?_
      refine AC.ret ?_
      refine bq_r ?_
      (have e : c.pick n = (c.next.tmod n, c.after) := (by unfold Cur.pick; rw [if_neg h0, if_neg h1]); exact retF rfl (by rw [e]; repeat (exact DLead.same)) (by rw [e]; repeat (first | exact True.intro | refine And.intro ?_ ?_ | exact DLead.same | exact rfl | refine ⟨_, _, rfl, rfl, ?_⟩ | refine ⟨_, rfl, ?_⟩ | refine ⟨_, _, rfl, ?_, ?_⟩)) rfl)
theorem en_pick : Enters Tryd.prog 22 := enters_of Tryd.func22 rfl rfl
theorem one_spec (c : Cur) (n : Int) (hn : n ≤ 65536) (hp : c.pos ≤ 100000000000000) : ASpec Tryd.prog 37 [.ptr 0 0, aI n] [(0, curC c)] (Fun1 (aT (decide ((c.pick n).1 = 0))) [(0, curC (c.pick n).2)]) := by
  refine ASpec.of Tryd.func37 rfl rfl fun C hC => ?_
  refine AC.seq ?_
  refine AC.region ?_
  refine AL.p (by exact as1 rfl) rfl ?_
  refine AL.nil ?_
  refine th_n ?_
  refine AC.seq ?_
  refine AC.region ?_
  refine AL.p (by exact mv3 rfl) rfl ?_
  refine AL.p (by exact mv1 rfl) rfl ?_
  refine AL.q (by exact h_fun (cs := [0]) en_pick rfl rfl (by repeat (first | exact rfl | exact DLead.same | refine ⟨_, _, rfl, ?_, ?_⟩ | refine ⟨_, rfl, ?_⟩)) (by repeat (first | exact True.intro | refine And.intro ?_ ?_ | exact DLead.same | exact rfl | refine ⟨_, _, rfl, rfl, ?_⟩ | refine ⟨_, rfl, ?_⟩ | refine ⟨_, _, rfl, ?_, ?_⟩)) (pick_spec _ _ (by assumption) (by assumption)) rfl rfl rfl rfl) rfl ?_
  refine AL.p (by exact g_cmp rfl rfl rfl) rfl ?_
  refine AL.p (by exact as1 rfl) rfl ?_
  refine AL.nil ?_
  refine th_n ?_
  refine AC.ret ?_
  refine bq_r ?_
  exact retF rfl (by repeat (exact DLead.same)) (by repeat (first | exact True.intro | refine And.intro ?_ ?_ | exact DLead.same | exact rfl | refine ⟨_, _, rfl, rfl, ?_⟩ | refine ⟨_, rfl, ?_⟩ | refine ⟨_, _, rfl, ?_, ?_⟩)) rfl
theorem en_one : Enters Tryd.prog 37 := enters_of Tryd.func37 rfl rfl
theorem en_among : Enters Tryd.prog 40 := enters_of Tryd.func40 rfl rfl

/-- A number put into a rising list. -/
def putI (l : List Int) (x : Int) : List Int :=
  if l[l.findIdx (fun y => decide (x ≤ y))]? = some x then l else l.take (l.findIdx (fun y => decide (x ≤ y))) ++ [x] ++ l.drop (l.findIdx (fun y => decide (x ≤ y)))
theorem putI_len (l : List Int) (x : Int) : (putI l x).length ≤ l.length + 1 := by
  unfold putI
  split
  · omega
  · simp; omega
theorem idx_at {l : List Int} {x : Int} {k : Nat} (hk : k < l.length) (h : ¬ l[k] < x) (hp : ∀ j (hj : j < k), l[j]'(by omega) < x) : l.findIdx (fun y => decide (x ≤ y)) = k :=
  (List.findIdx_eq hk).2 ⟨by simp; omega, fun j hj => by have := hp j hj; simp; omega⟩
theorem idx_end {l : List Int} {x : Int} (hp : ∀ j (hj : j < l.length), l[j] < x) {k : Nat} (hk : l.length = k) : l.findIdx (fun y => decide (x ≤ y)) = k := by
  subst hk
  exact List.findIdx_eq_length.2 (fun y hy => by obtain ⟨j, hj, rfl⟩ := List.getElem_of_mem hy; have := hp j hj; simp; omega)
theorem putI_same {l : List Int} {x : Int} {k : Nat} (h : l.findIdx (fun y => decide (x ≤ y)) = k) (hk : k < l.length) (he : l[k] = x) : putI l x = l := by
  unfold putI; rw [h, List.getElem?_eq_getElem hk, he, if_pos rfl]
theorem putI_at {l : List Int} {x : Int} {k : Nat} (h : l.findIdx (fun y => decide (x ≤ y)) = k) (hk : k < l.length) (he : ¬ l[k] = x) : putI l x = l.take k ++ [x] ++ l.drop k := by
  unfold putI; rw [h, List.getElem?_eq_getElem hk, if_neg (by simpa using he)]
theorem putI_end {l : List Int} {x : Int} {k : Nat} (h : l.findIdx (fun y => decide (x ≤ y)) = k) (hk : l.length ≤ k) : putI l x = l.take k ++ [x] ++ l.drop k := by
  unfold putI; rw [h, List.getElem?_eq_none hk, if_neg (by simp)]
set_option maxHeartbeats 2000000 in
theorem l1Put_spec (l : List Int) (x : Int) (hl : l.length ≤ 1000000) : ASpec Tryd.prog 76 [.d (vI l), aI x] [] (Pure1 (.d (vI (putI l x)))) := by
  refine ASpec.of Tryd.func76 rfl rfl fun C hC => ?_
  refine AC.seq ?_
  refine AC.region ?_
  refine AL.p (by exact as1 rfl) rfl ?_
  refine AL.nil ?_
  refine th_n ?_
  refine AC.seq ?_
  refine AC.region ?_
  refine AL.p (by exact as1 rfl) rfl ?_
  refine AL.nil ?_
  refine th_n ?_
  refine AC.cut (fun (k : Nat) => ⟨48, 0, [(0, .d (vI l)), (1, aI x), (5, aI k)], []⟩) (fun k => k ≤ l.length ∧ l.findIdx (fun y => decide (x ≤ y)) = k) ?_ ?_
  · refine AC.block ?_
    refine AC.loop (ι := Nat) (fun k => ⟨48, 0, [(0, .d (vI l)), (1, aI x), (5, aI k)], []⟩) (fun k => k ≤ l.length ∧ ∀ j (hj : j < l.length), j < k → l[j] < x) (fun k => l.length - k) (0) ?_ (⟨Nat.zero_le _, fun j _ hj => by omega⟩) ?_
    · refine Weak.ren _ [] hC rfl ?_ ?_ rfl rfl rfl <;> repeat (first | exact True.intro | refine And.intro ?_ ?_ | exact DLead.same)
    · intro k ⟨hk, hall⟩
      refine AC.seq ?_
      refine AC.seq ?_
      refine AC.region ?_
      refine AL.p (by exact mv1 rfl) rfl ?_
      refine AL.p (by exact mv1 rfl) rfl ?_
      refine AL.p (by exact g_len_view rfl rfl (by exact List.length_map _)) rfl ?_
      refine AL.p (by exact g_cmp rfl rfl rfl) rfl ?_
      refine AL.p (by exact mv1 rfl) rfl ?_
      refine AL.caseG rfl rfl (fun h0 => ?_) (fun h0 => ?_)
      · refine AL.yes rfl rfl rfl ?_
        have hk1 : k < l.length := by omega
        have hget := ints_at hk1
        refine AL.p (by exact mv1 rfl) rfl ?_
        refine AL.yes rfl rfl rfl ?_
        refine AL.p (by exact mv1 rfl) rfl ?_
        refine AL.yes rfl rfl rfl ?_
        refine AL.p (by exact g_ia_view rfl rfl rfl rfl rfl (by rfl) (by assumption)) rfl ?_
        refine AL.yes rfl rfl rfl ?_
        refine AL.p (by exact g_load_ref rfl rfl rfl) rfl ?_
        refine AL.yes rfl rfl rfl ?_
        refine AL.p (by exact mv1 rfl) rfl ?_
        refine AL.yes rfl rfl rfl ?_
        refine AL.p (by exact g_cmp rfl rfl rfl) rfl ?_
        refine AL.p (by exact g_pickT (r := .d _) rfl rfl) rfl ?_
        refine AL.nil ?_
        refine th_n ?_
        refine AC.condD rfl (fun h1 => ?_) (fun h1 => ?_)
        · refine AC.skip ?_
          refine th_n ?_
          refine AC.block ?_
          refine AC.region ?_
          refine AL.p (by exact mv1 rfl) rfl ?_
          refine AL.p (by exact g_arith rfl rfl rfl (by exact wrap_i64 (by omega))) rfl ?_
          refine AL.p (by exact as1 rfl) rfl ?_
          refine AL.nil ?_
          refine ib_n ?_
          refine th_n ?_
          exact ⟨k + 1, ⟨by omega, fun j hj hj2 => by rcases Nat.lt_succ_iff_lt_or_eq.1 hj2 with h | rfl; exact hall j hj h; exact h1⟩, by omega, Weak.ren _ [] hC rfl (by repeat (first | exact True.intro | refine And.intro ?_ ?_ | exact DLead.same)) (by repeat (exact True.intro)) rfl rfl rfl⟩
        · refine AC.exit ?_
          refine th_e ?_
          refine th_e ?_
          refine ib_y ?_
          refine th_n ?_
          exact ⟨k, ⟨hk, idx_at hk1 h1 (fun j hj => hall j (by omega) hj)⟩, Weak.ren _ [] hC rfl (by repeat (first | exact True.intro | refine And.intro ?_ ?_ | exact DLead.same)) (by repeat (exact True.intro)) rfl rfl rfl⟩
      · refine AL.not rfl rfl rfl rfl rfl ?_
        refine AL.not rfl rfl rfl rfl rfl ?_
        refine AL.not rfl rfl rfl rfl rfl ?_
        refine AL.not rfl rfl rfl rfl rfl ?_
        refine AL.not rfl rfl rfl rfl rfl ?_
        refine AL.not rfl rfl rfl rfl rfl ?_
        refine AL.p (by exact g_pickF (r := .d _) rfl rfl) rfl ?_
        refine AL.nil ?_
        refine th_n ?_
        refine AC.condF rfl ?_
        refine AC.exit ?_
        refine th_e ?_
        refine th_e ?_
        refine ib_y ?_
        refine th_n ?_
        exact ⟨k, ⟨hk, idx_end (fun j hj => hall j hj (by omega)) (by omega)⟩, Weak.ren _ [] hC rfl (by repeat (first | exact True.intro | refine And.intro ?_ ?_ | exact DLead.same)) (by repeat (exact True.intro)) rfl rfl rfl⟩
  · intro k ⟨hk, hidx⟩
    refine AC.seq ?_
    refine AC.seq ?_
    refine AC.region ?_
    refine AL.p (by exact mv1 rfl) rfl ?_
    refine AL.p (by exact mv1 rfl) rfl ?_
    refine AL.p (by exact g_len_view rfl rfl (by exact List.length_map _)) rfl ?_
    refine AL.p (by exact g_cmp rfl rfl rfl) rfl ?_
    refine AL.p (by exact mv1 rfl) rfl ?_
    refine AL.caseG rfl rfl (fun h0 => ?_) (fun h0 => ?_)
    · refine AL.yes rfl rfl rfl ?_
      have hk1 : k < l.length := by omega
      have hget := ints_at hk1
      refine AL.p (by exact mv1 rfl) rfl ?_
      refine AL.yes rfl rfl rfl ?_
      refine AL.p (by exact mv1 rfl) rfl ?_
      refine AL.yes rfl rfl rfl ?_
      refine AL.p (by exact g_ia_view rfl rfl rfl rfl rfl (by rfl) (by assumption)) rfl ?_
      refine AL.yes rfl rfl rfl ?_
      refine AL.p (by exact g_load_ref rfl rfl rfl) rfl ?_
      refine AL.yes rfl rfl rfl ?_
      refine AL.p (by exact mv1 rfl) rfl ?_
      refine AL.yes rfl rfl rfl ?_
      refine AL.p (by exact g_cmp rfl rfl rfl) rfl ?_
      refine AL.p (by exact g_pickT (r := .d _) rfl rfl) rfl ?_
      refine AL.nil ?_
      refine th_n ?_
      refine AC.condD rfl (fun h1 => ?_) (fun h1 => ?_)
      · refine AC.seq ?_
        refine AC.region ?_
        refine AL.p (by exact mv1 rfl) rfl ?_
        refine AL.p (by exact as1 rfl) rfl ?_
        refine AL.nil ?_
        refine th_n ?_
        refine AC.ret ?_
        refine th_r ?_
        refine bq_r ?_
        have e : putI l x = l := putI_same hidx hk1 h1
        exact ret1 rfl (by rw [e])
      · refine AC.skip ?_
        refine th_n ?_
        refine AC.seq ?_
        have e : putI l x = l.take k ++ [x] ++ l.drop k := by exact putI_at hidx hk1 h1
        refine AC.region ?_
        refine AL.q (by exact h_lit rfl rfl rfl rfl rfl rfl rfl rfl) rfl ?_
        refine AL.p (by exact mv1 rfl) rfl ?_
        refine AL.p (by exact mv1 rfl) rfl ?_
        refine AL.p (by exact g_slice_view (r := ints (l.take k)) rfl rfl rfl rfl .none (.some rfl rfl) (Nat.zero_le _) (by rw [ints_len]; exact hk) (by simp [List.map_take])) rfl ?_
        refine AL.q (by exact h_appendI [] (l.take k) (.own rfl rfl rfl) (.view rfl) (by simp; omega) (by simp)) rfl ?_
        refine AL.p (by exact as2 rfl) rfl ?_
        refine AL.nil ?_
        refine th_n ?_
        refine AC.seq ?_
        refine AC.region ?_
        refine AL.p (by exact mv2 rfl) rfl ?_
        refine AL.p (by exact mv1 rfl) rfl ?_
        refine AL.q (by exact h_litF rfl rfl rfl rfl rfl rfl rfl rfl) rfl ?_
        refine AL.q (by exact h_appendI ([] ++ l.take k) [x] (.own rfl rfl (ints_len _).symm) (.view rfl) (by simp; omega) (by simp)) rfl ?_
        refine AL.p (by exact as2 rfl) rfl ?_
        refine AL.nil ?_
        refine th_n ?_
        refine AC.seq ?_
        refine AC.region ?_
        refine AL.p (by exact mv2 rfl) rfl ?_
        refine AL.p (by exact mv1 rfl) rfl ?_
        refine AL.p (by exact mv1 rfl) rfl ?_
        refine AL.p (by exact g_slice_view (r := ints (l.drop k)) rfl rfl rfl rfl (.some rfl rfl) .none (by rw [ints_len]; exact hk) (Nat.le_refl _) (by rw [List.take_length]; exact (List.map_drop ..).symm)) rfl ?_
        refine AL.q (by exact h_appendI ([] ++ l.take k ++ [x]) (l.drop k) (.own rfl rfl (ints_len _).symm) (.view rfl) (by simp; omega) (by simp)) rfl ?_
        refine AL.weak (Weak.freeze (i := 47) rfl rfl (Nat.le_of_eq (ints_len _).symm) (ints_all _)) ?_
        refine AL.p (by exact as1 rfl) rfl ?_
        refine AL.nil ?_
        refine th_n ?_
        refine AC.ret ?_
        refine bq_r ?_
        exact ret1 rfl (by rw [e]; rfl)
    · refine AL.not rfl rfl rfl rfl rfl ?_
      refine AL.not rfl rfl rfl rfl rfl ?_
      refine AL.not rfl rfl rfl rfl rfl ?_
      refine AL.not rfl rfl rfl rfl rfl ?_
      refine AL.not rfl rfl rfl rfl rfl ?_
      refine AL.not rfl rfl rfl rfl rfl ?_
      refine AL.p (by exact g_pickF (r := .d _) rfl rfl) rfl ?_
      refine AL.nil ?_
      refine th_n ?_
      refine AC.condF rfl ?_
      refine AC.skip ?_
      refine th_n ?_
      refine AC.seq ?_
      have e : putI l x = l.take k ++ [x] ++ l.drop k := by exact putI_end hidx (by omega)
      refine AC.region ?_
      refine AL.q (by exact h_lit rfl rfl rfl rfl rfl rfl rfl rfl) rfl ?_
      refine AL.p (by exact mv1 rfl) rfl ?_
      refine AL.p (by exact mv1 rfl) rfl ?_
      refine AL.p (by exact g_slice_view (r := ints (l.take k)) rfl rfl rfl rfl .none (.some rfl rfl) (Nat.zero_le _) (by rw [ints_len]; exact hk) (by simp [List.map_take])) rfl ?_
      refine AL.q (by exact h_appendI [] (l.take k) (.own rfl rfl rfl) (.view rfl) (by simp; omega) (by simp)) rfl ?_
      refine AL.p (by exact as2 rfl) rfl ?_
      refine AL.nil ?_
      refine th_n ?_
      refine AC.seq ?_
      refine AC.region ?_
      refine AL.p (by exact mv2 rfl) rfl ?_
      refine AL.p (by exact mv1 rfl) rfl ?_
      refine AL.q (by exact h_litF rfl rfl rfl rfl rfl rfl rfl rfl) rfl ?_
      refine AL.q (by exact h_appendI ([] ++ l.take k) [x] (.own rfl rfl (ints_len _).symm) (.view rfl) (by simp; omega) (by simp)) rfl ?_
      refine AL.p (by exact as2 rfl) rfl ?_
      refine AL.nil ?_
      refine th_n ?_
      refine AC.seq ?_
      refine AC.region ?_
      refine AL.p (by exact mv2 rfl) rfl ?_
      refine AL.p (by exact mv1 rfl) rfl ?_
      refine AL.p (by exact mv1 rfl) rfl ?_
      refine AL.p (by exact g_slice_view (r := ints (l.drop k)) rfl rfl rfl rfl (.some rfl rfl) .none (by rw [ints_len]; exact hk) (Nat.le_refl _) (by rw [List.take_length]; exact (List.map_drop ..).symm)) rfl ?_
      refine AL.q (by exact h_appendI ([] ++ l.take k ++ [x]) (l.drop k) (.own rfl rfl (ints_len _).symm) (.view rfl) (by simp; omega) (by simp)) rfl ?_
      refine AL.weak (Weak.freeze (i := 47) rfl rfl (Nat.le_of_eq (ints_len _).symm) (ints_all _)) ?_
      refine AL.p (by exact as1 rfl) rfl ?_
      refine AL.nil ?_
      refine th_n ?_
      refine AC.ret ?_
      refine bq_r ?_
      exact ret1 rfl (by rw [e]; rfl)
theorem en_l1Put : Enters Tryd.prog 76 := enters_of Tryd.func76 rfl rfl
end Go.Proofs.YtnklhbfdfddigaaDoor

set_option linter.all false
set_option maxRecDepth 20000
namespace Go.Proofs.YtnklhbfdfddigaaDoor
open Go.RowKit

theorem of_spec (c : Cur) (els : List (List DV)) (st : ByteArray) (h0 : 0 < els.length) (hl : els.length ≤ 65536) (hp : c.pos ≤ 100000000000000) (hget : els[(c.pick els.length).1.toNat]? = some [dS st]) : ASpec Tryd.prog 34 [.ptr 0 0, .d (.view 9 1 els)] [(0, curC c)] (Fun1 (aS st) [(0, curC (c.pick els.length).2)]) := by
  have hi := c.pick_in els.length (by omega)
  have hI : (c.pick els.length).1 = (((c.pick els.length).1.toNat : Nat) : Int) := by omega
  refine ASpec.of Tryd.func34 rfl rfl fun C hC => ?_
  refine AC.seq ?_
  refine AC.region ?_
  refine AL.p (by exact as1 rfl) rfl ?_
  refine AL.nil ?_
  refine th_n ?_
  refine AC.seq ?_
  refine AC.region ?_
  refine AL.p (by exact mv1 rfl) rfl ?_
  refine AL.p (by exact mv3 rfl) rfl ?_
  refine AL.p (by exact mv1 rfl) rfl ?_
  refine AL.p (by exact g_len_view rfl rfl (by rfl)) rfl ?_
  refine AL.q (by exact h_fun (cs := [0]) en_pick rfl rfl (by repeat (first | exact rfl | exact DLead.same | refine ⟨_, _, rfl, ?_, ?_⟩ | refine ⟨_, rfl, ?_⟩)) (by repeat (first | exact True.intro | refine And.intro ?_ ?_ | exact DLead.same | exact rfl | refine ⟨_, _, rfl, rfl, ?_⟩ | refine ⟨_, rfl, ?_⟩ | refine ⟨_, _, rfl, ?_, ?_⟩)) (pick_spec _ _ (by omega) (by assumption)) rfl rfl rfl rfl) rfl ?_
  refine AL.p (by exact g_ia_view rfl rfl rfl rfl rfl (by assumption) (by assumption)) rfl ?_
  refine AL.p (by exact g_load_ref rfl rfl rfl) rfl ?_
  refine AL.p (by exact as1 rfl) rfl ?_
  refine AL.nil ?_
  refine th_n ?_
  refine AC.ret ?_
  refine bq_r ?_
  exact retF rfl (by repeat (exact DLead.same)) (by repeat (first | exact True.intro | refine And.intro ?_ ?_ | exact DLead.same | exact rfl | refine ⟨_, _, rfl, rfl, ?_⟩ | refine ⟨_, rfl, ?_⟩ | refine ⟨_, _, rfl, ?_, ?_⟩)) rfl
theorem en_of : Enters Tryd.prog 34 := enters_of Tryd.func34 rfl rfl
theorem am_spec (c : Cur) (els : List (List DV)) (x : Int) (h0 : 0 < els.length) (hl : els.length ≤ 65536) (hp : c.pos ≤ 100000000000000) (hget : els[(c.pick els.length).1.toNat]? = some [dI x]) : ASpec Tryd.prog 40 [.ptr 0 0, .d (.view 3 1 els)] [(0, curC c)] (Fun1 (aI x) [(0, curC (c.pick els.length).2)]) := by
  have hi := c.pick_in els.length (by omega)
  have hI : (c.pick els.length).1 = (((c.pick els.length).1.toNat : Nat) : Int) := by omega
  refine ASpec.of Tryd.func40 rfl rfl fun C hC => ?_
  refine AC.seq ?_
  refine AC.region ?_
  refine AL.p (by exact as1 rfl) rfl ?_
  refine AL.nil ?_
  refine th_n ?_
  refine AC.seq ?_
  refine AC.region ?_
  refine AL.p (by exact mv1 rfl) rfl ?_
  refine AL.p (by exact mv3 rfl) rfl ?_
  refine AL.p (by exact mv1 rfl) rfl ?_
  refine AL.p (by exact g_len_view rfl rfl (by rfl)) rfl ?_
  refine AL.q (by exact h_fun (cs := [0]) en_pick rfl rfl (by repeat (first | exact rfl | exact DLead.same | refine ⟨_, _, rfl, ?_, ?_⟩ | refine ⟨_, rfl, ?_⟩)) (by repeat (first | exact True.intro | refine And.intro ?_ ?_ | exact DLead.same | exact rfl | refine ⟨_, _, rfl, rfl, ?_⟩ | refine ⟨_, rfl, ?_⟩ | refine ⟨_, _, rfl, ?_, ?_⟩)) (pick_spec _ _ (by omega) (by assumption)) rfl rfl rfl rfl) rfl ?_
  refine AL.p (by exact g_ia_view rfl rfl rfl rfl rfl (by assumption) (by assumption)) rfl ?_
  refine AL.p (by exact g_load_ref rfl rfl rfl) rfl ?_
  refine AL.p (by exact as1 rfl) rfl ?_
  refine AL.nil ?_
  refine th_n ?_
  refine AC.ret ?_
  refine bq_r ?_
  exact retF rfl (by repeat (exact DLead.same)) (by repeat (first | exact True.intro | refine And.intro ?_ ?_ | exact DLead.same | exact rfl | refine ⟨_, _, rfl, rfl, ?_⟩ | refine ⟨_, rfl, ?_⟩ | refine ⟨_, _, rfl, ?_, ?_⟩)) rfl

end Go.Proofs.YtnklhbfdfddigaaDoor

set_option linter.all false
set_option maxRecDepth 20000
namespace Go.Proofs.YtnklhbfdfddigaaDoor
open Go.RowKit

/-- One spoiling. -/
def spoil1 (c : Cur) (s al : List UInt8) : List UInt8 :=
  if (((c.pick s.length).2.pick al.length).2.pick 3).1 = 0 then s.take (c.pick s.length).1.toNat ++ [al.getD ((c.pick s.length).2.pick al.length).1.toNat 0] ++ s.drop (c.pick s.length).1.toNat
  else if (((c.pick s.length).2.pick al.length).2.pick 3).1 = 1 then s.take (c.pick s.length).1.toNat ++ [al.getD ((c.pick s.length).2.pick al.length).1.toNat 0] ++ s.drop ((c.pick s.length).1.toNat + 1)
  else s.take (c.pick s.length).1.toNat ++ s.drop ((c.pick s.length).1.toNat + 1)
def spoilC (c : Cur) (s al : List UInt8) : Cur := (((c.pick s.length).2.pick al.length).2.pick 3).2
def spoilN (al : List UInt8) : Nat → Cur → List UInt8 → List UInt8 × Cur
  | 0, c, s => (s, c)
  | j + 1, c, s => if s.length = 0 then (s, c) else spoilN al j (spoilC c s al) (spoil1 c s al)
theorem spoilN_nil {al : List UInt8} {j : Nat} {c : Cur} {s : List UInt8} (h : s.length = 0) : spoilN al j c s = (s, c) := by
  cases j with
  | zero => rfl
  | succ j => rw [spoilN, if_pos h]
theorem spoil1_len (c : Cur) (s al : List UInt8) (hs : 0 < s.length) : (spoil1 c s al).length ≤ s.length + 1 := by
  have h := c.pick_in s.length (by omega)
  unfold spoil1
  split
  · simp; omega
  · split <;> (simp; omega)
theorem spoilC_pos (c : Cur) (s al : List UInt8) : (spoilC c s al).pos ≤ c.pos + 6 ∧ (spoilC c s al).code = c.code := by
  have h1 := c.pick_pos s.length
  have h2 := (c.pick s.length).2.pick_pos al.length
  have h3 := ((c.pick s.length).2.pick al.length).2.pick_pos 3
  refine ⟨by unfold spoilC; omega, ?_⟩
  unfold spoilC
  rw [Cur.pick_code, Cur.pick_code, Cur.pick_code]
theorem spoilN_len (al : List UInt8) : ∀ (j : Nat) (c : Cur) (s : List UInt8), (spoilN al j c s).1.length ≤ s.length + j ∧ (spoilN al j c s).2.pos ≤ c.pos + 6 * j ∧ (spoilN al j c s).2.code = c.code
  | 0, c, s => ⟨Nat.le_refl _, Nat.le_refl _, rfl⟩
  | j + 1, c, s => by
    unfold spoilN
    split
    · exact ⟨by show s.length ≤ _; omega, by show c.pos ≤ _; omega, rfl⟩
    · rename_i hs
      have h := spoilN_len al j (spoilC c s al) (spoil1 c s al)
      have h1 := spoil1_len c s al (by omega)
      have h2 := spoilC_pos c s al
      exact ⟨by omega, by omega, by rw [h.2.2, h2.2]⟩
def Cur.spoilt (c : Cur) (s al : List UInt8) : List UInt8 × Cur := spoilN al (1 + (c.pick 2).1).toNat (c.pick 2).2 s
theorem Cur.spoilt_in (c : Cur) (s al : List UInt8) : (c.spoilt s al).1.length ≤ s.length + 2 ∧ (c.spoilt s al).2.pos ≤ c.pos + 14 ∧ (c.spoilt s al).2.code = c.code := by
  have h := spoilN_len al (1 + (c.pick 2).1).toNat (c.pick 2).2 s
  have h1 := c.pick_in 2 (by decide)
  have h2 := c.pick_pos 2
  have h3 := c.pick_code 2
  refine ⟨?_, ?_, ?_⟩
  · show (spoilN _ _ _ _).1.length ≤ _; omega
  · show (spoilN _ _ _ _).2.pos ≤ _; omega
  · show (spoilN _ _ _ _).2.code = _; rw [h.2.2, h3]
theorem bstr_cut (s : List UInt8) {l h : Nat} (hl : l ≤ h) (hh : h ≤ s.length) : (bstr s).extract l h = bstr ((s.take h).drop l) := by
  have : ((bstr s).extract l h).data.toList = (s.take h).drop l := by
    simp [bstr, ByteArray.data_extract, List.extract_eq_drop_take, List.drop_take]
  rw [← bstr_of ((bstr s).extract l h), this]
set_option maxHeartbeats 4000000 in
theorem spoilt_spec (c : Cur) (s al : List UInt8) (hs : s.length ≤ 50000) (ha0 : 0 < al.length) (ha : al.length ≤ 60000) (hp : c.pos ≤ 10000000000000) : ASpec Tryd.prog 39 [.ptr 0 0, aS (bstr s), aS (bstr al)] [(0, curC c)] (Fun1 (aS (bstr (c.spoilt s al).1)) [(0, curC (c.spoilt s al).2)]) := by
  have hpi := c.pick_in 2 (by decide)
  have hpp := c.pick_pos 2
  have hasz := bstr_size al
  refine ASpec.of Tryd.func39 rfl rfl fun C hC => ?_
  refine AC.seq ?_
  refine AC.region ?_
  refine AL.p (by exact as1 rfl) rfl ?_
  refine AL.nil ?_
  refine th_n ?_
  refine AC.seq ?_
  refine AC.seq ?_
  refine AC.region ?_
  refine AL.p (by exact mv3 rfl) rfl ?_
  refine AL.q (by exact h_fun (cs := [0]) en_pick rfl rfl (by repeat (first | exact rfl | exact DLead.same | refine ⟨_, _, rfl, ?_, ?_⟩ | refine ⟨_, rfl, ?_⟩)) (by repeat (first | exact True.intro | refine And.intro ?_ ?_ | exact DLead.same | exact rfl | refine ⟨_, _, rfl, rfl, ?_⟩ | refine ⟨_, rfl, ?_⟩ | refine ⟨_, _, rfl, ?_, ?_⟩)) (pick_spec _ _ (by omega) (by omega)) rfl rfl rfl rfl) rfl ?_
  refine AL.p (by exact g_arith rfl rfl rfl (by exact wrap_i64 (by omega))) rfl ?_
  refine AL.p (by exact as1 rfl) rfl ?_
  refine AL.nil ?_
  refine th_n ?_
  refine AC.block ?_
  refine AC.loop (ι := Nat × Cur × List UInt8) (fun x => ⟨68, 8, [(0, .ptr 0 0), (1, aS (bstr x.2.2)), (2, aS (bstr al)), (7, aI x.1)], [(0, some (curC x.2.1))]⟩) (fun x => spoilN al x.1 x.2.1 x.2.2 = c.spoilt s al ∧ x.2.2.length + x.1 ≤ 60000 ∧ x.2.1.pos + 6 * x.1 ≤ 20000000000000) (fun x => x.1) (((1 + (c.pick 2).1).toNat, (c.pick 2).2, s)) ?_ (⟨rfl, by show s.length + (1 + (c.pick 2).1).toNat ≤ _; omega, by show (c.pick 2).2.pos + 6 * (1 + (c.pick 2).1).toNat ≤ _; omega⟩) ?_
  · exact Weak.ren _ [] hC rfl (by repeat (first | exact True.intro | refine And.intro ?_ ?_ | exact DLead.same | exact DLead.eqI (by omega) | exact rfl | refine ⟨_, rfl, ?_⟩)) (by repeat (first | exact True.intro | refine And.intro ?_ ?_ | exact DLead.same | exact rfl | refine ⟨_, _, rfl, rfl, ?_⟩ | refine ⟨_, rfl, ?_⟩ | refine ⟨_, _, rfl, ?_, ?_⟩)) rfl rfl rfl
  · rintro ⟨j, cc, m⟩ ⟨hsub, hlen, hpos⟩
    dsimp only at hsub hlen hpos ⊢
    have hsz := bstr_size m
    refine AC.seq ?_
    refine AC.seq ?_
    refine AC.region ?_
    refine AL.p (by exact mv1 rfl) rfl ?_
    refine AL.p (by exact g_cmp rfl rfl rfl) rfl ?_
    refine AL.p (by exact mv1 rfl) rfl ?_
    refine AL.caseG rfl rfl (fun h0 => ?_) (fun h0 => ?_)
    · refine AL.yes rfl rfl rfl ?_
      refine AL.p (by exact mv1 rfl) rfl ?_
      refine AL.yes rfl rfl rfl ?_
      refine AL.p (by exact g_len_str (k := m.length) rfl rfl hsz) rfl ?_
      refine AL.yes rfl rfl rfl ?_
      refine AL.p (by exact g_cmp rfl rfl rfl) rfl ?_
      refine AL.p (by exact g_pickT (r := .d _) rfl rfl) rfl ?_
      refine AL.nil ?_
      refine th_n ?_
      refine AC.condD rfl (fun h1 => ?_) (fun h1 => ?_)
      · refine AC.skip ?_
        refine th_n ?_
        refine AC.seq ?_
        refine AC.block ?_
        refine AC.seq ?_
        obtain ⟨i, rfl⟩ : ∃ i, j = i + 1 := ⟨j - 1, by omega⟩
        have hm0 : 0 < m.length := by omega
        have e1 : spoilN al i (spoilC cc m al) (spoil1 cc m al) = c.spoilt s al := by rw [← hsub, spoilN, if_neg (by omega)]
        have hl1 := spoil1_len cc m al hm0
        have hl2 := spoilC_pos cc m al
        have hk := cc.pick_in m.length (by omega)
        have hkp := cc.pick_pos m.length
        have hk2 := (cc.pick m.length).2.pick_in al.length (by omega)
        have hkp2 := (cc.pick m.length).2.pick_pos al.length
        have hI : ((cc.pick m.length).2.pick al.length).1 = ((((cc.pick m.length).2.pick al.length).1.toNat : Nat) : Int) := by omega
        have hget : (bstr al).data.toList[((cc.pick m.length).2.pick al.length).1.toNat]? = some (al.getD ((cc.pick m.length).2.pick al.length).1.toNat 0) := bstr_getD (by omega)
        refine AC.region ?_
        refine AL.p (by exact mv3 rfl) rfl ?_
        refine AL.p (by exact mv1 rfl) rfl ?_
        refine AL.p (by exact g_len_str (k := m.length) rfl rfl hsz) rfl ?_
        refine AL.q (by exact h_fun (cs := [0]) en_pick rfl rfl (by repeat (first | exact rfl | exact DLead.same | refine ⟨_, _, rfl, ?_, ?_⟩ | refine ⟨_, rfl, ?_⟩)) (by repeat (first | exact True.intro | refine And.intro ?_ ?_ | exact DLead.same | exact rfl | refine ⟨_, _, rfl, rfl, ?_⟩ | refine ⟨_, rfl, ?_⟩ | refine ⟨_, _, rfl, ?_, ?_⟩)) (pick_spec _ _ (by omega) (by omega)) rfl rfl rfl rfl) rfl ?_
        refine AL.p (by exact as1 rfl) rfl ?_
        refine AL.nil ?_
        refine th_n ?_
        refine AC.seq ?_
        refine AC.region ?_
        refine AL.p (by exact mv1 rfl) rfl ?_
        refine AL.p (by exact mv3 rfl) rfl ?_
        refine AL.p (by exact mv1 rfl) rfl ?_
        refine AL.p (by exact g_len_str (k := al.length) rfl rfl hasz) rfl ?_
        refine AL.q (by exact h_fun (cs := [0]) en_pick rfl rfl (by repeat (first | exact rfl | exact DLead.same | refine ⟨_, _, rfl, ?_, ?_⟩ | refine ⟨_, rfl, ?_⟩)) (by repeat (first | exact True.intro | refine And.intro ?_ ?_ | exact DLead.same | exact rfl | refine ⟨_, _, rfl, rfl, ?_⟩ | refine ⟨_, rfl, ?_⟩ | refine ⟨_, _, rfl, ?_, ?_⟩)) (pick_spec _ _ (by omega) (by omega)) rfl rfl rfl rfl) rfl ?_
        refine AL.p (by exact g_index rfl rfl rfl (by assumption) (by assumption)) rfl ?_
        refine AL.q (by exact h_lit rfl rfl rfl rfl rfl rfl rfl rfl) rfl ?_
        refine AL.p (by exact g_strOfBytes (l := [al.getD ((cc.pick m.length).2.pick al.length).1.toNat 0]) rfl rfl rfl rfl rfl rfl rfl) rfl ?_
        refine AL.p (by exact as1 rfl) rfl ?_
        refine AL.nil ?_
        refine th_n ?_
        refine AC.seq ?_
        refine AC.region ?_
        refine AL.p (by exact mv3 rfl) rfl ?_
        refine AL.q (by exact h_fun (cs := [0]) en_pick rfl rfl (by repeat (first | exact rfl | exact DLead.same | refine ⟨_, _, rfl, ?_, ?_⟩ | refine ⟨_, rfl, ?_⟩)) (by repeat (first | exact True.intro | refine And.intro ?_ ?_ | exact DLead.same | exact rfl | refine ⟨_, _, rfl, rfl, ?_⟩ | refine ⟨_, rfl, ?_⟩ | refine ⟨_, _, rfl, ?_, ?_⟩)) (pick_spec _ _ (by omega) (by omega)) rfl rfl rfl rfl) rfl ?_
        refine AL.nil ?_
        refine th_n ?_
        refine AC.block ?_
        refine AC.seq ?_
        obtain ⟨K, hK⟩ : ∃ K, K = (cc.pick m.length).1.toNat := ⟨_, rfl⟩
        have hKI : (cc.pick m.length).1 = (K : Int) := by omega
        have hKJ : (cc.pick m.length).1 + 1 = ((K + 1 : Nat) : Int) := by omega
        have hKm : K + 1 ≤ m.length := by omega
        have hx1 : (bstr m).extract 0 K = bstr (m.take K) := by rw [bstr_cut m (Nat.zero_le _) (by omega)]; rfl
        have hx2 : (bstr m).extract K (bstr m).size = bstr (m.drop K) := by rw [hsz, bstr_cut m (by omega) (Nat.le_refl _), List.take_length]
        have hx3 : (bstr m).extract (K + 1) (bstr m).size = bstr (m.drop (K + 1)) := by rw [hsz, bstr_cut m (by omega) (Nat.le_refl _), List.take_length]
        refine AC.region ?_
        refine AL.p (by exact g_cmp rfl rfl rfl) rfl ?_
        refine AL.p (by exact as1 rfl) rfl ?_
        refine AL.nil ?_
        refine th_n ?_
        refine AC.condD rfl (fun h2 => ?_) (fun h2 => ?_)
        · refine AC.drawn' mixed_ok [[], [], [0,1], [], [0,1,2,3], [], [], [5,6], [0,1,2,3,4,5,6,7], [0,1,2,3,4,5,6,7,8]] (by decide) ?_
          refine DF.op 0 [] 10 rfl rfl rfl (.free rfl (NOp.of (by exact mv1 rfl))) rfl ?_
          refine DF.op 1 [] 10 rfl rfl rfl (.free rfl (NOp.of (by exact mv1 rfl))) rfl ?_
          refine DF.op 2 [0,1] 10 rfl rfl rfl (.free rfl (NOp.of (by exact g_slice_str (h := K) rfl rfl .none (.some rfl hKI) (Nat.zero_le _) (by omega) hx1))) rfl ?_
          refine DF.op 3 [] 10 rfl rfl rfl (.free rfl (NOp.of (by exact mv1 rfl))) rfl ?_
          refine DF.op 4 [0,1,2,3] 10 rfl rfl rfl (.free rfl (NOp.of (by exact g_sadd rfl rfl (by (simp only [ByteArray.size_append, bstr_size, List.length_take, List.length_drop, List.length_cons, List.length_nil]; omega))))) rfl ?_
          refine DF.op 5 [] 10 rfl rfl rfl (.free rfl (NOp.of (by exact mv1 rfl))) rfl ?_
          refine DF.op 6 [] 10 rfl rfl rfl (.free rfl (NOp.of (by exact mv1 rfl))) rfl ?_
          refine DF.op 7 [5,6] 10 rfl rfl rfl (.free rfl (NOp.of (by exact g_slice_str (l := K) rfl rfl (.some rfl hKI) .none (by omega) (Nat.le_refl _) hx2))) rfl ?_
          refine DF.op 8 [0,1,2,3,4,5,6,7] 10 rfl rfl rfl (.free rfl (NOp.of (by exact g_sadd rfl rfl (by (simp only [ByteArray.size_append, bstr_size, List.length_take, List.length_drop, List.length_cons, List.length_nil]; omega))))) rfl ?_
          refine DF.op 9 [0,1,2,3,4,5,6,7,8] 10 rfl rfl rfl (.free rfl (NOp.of (by exact as1 rfl))) rfl ?_
          refine DF.fin (ps := [(0, 1), (0, 3), (0, 5), (0, 6), (0, 7), (1, 0), (1, 3), (1, 5), (1, 6), (1, 7), (2, 3), (2, 5), (2, 6), (2, 7), (3, 0), (3, 1), (3, 2), (3, 5), (3, 6), (3, 7), (4, 5), (4, 6), (4, 7), (5, 0), (5, 1), (5, 2), (5, 3), (5, 4), (5, 6), (6, 0), (6, 1), (6, 2), (6, 3), (6, 4), (6, 5), (7, 0), (7, 1), (7, 2), (7, 3), (7, 4)]) 10 rfl (by decide +kernel) (by decide +kernel) (by rfl) ?_
          refine ib_n ?_
          refine ib_n ?_
          refine th_n ?_
          refine AC.region ?_
          refine AL.p (by exact mv1 rfl) rfl ?_
          refine AL.p (by exact g_arith rfl rfl rfl (by exact wrap_i64 (by omega))) rfl ?_
          refine AL.p (by exact as1 rfl) rfl ?_
          refine AL.nil ?_
          refine th_n ?_
          (have e2 : bstr (spoil1 cc m al) = bstr (m.take K) ++ bstr [al.getD ((cc.pick m.length).2.pick al.length).1.toNat 0] ++ bstr (m.drop K) := (by unfold spoil1; rw [if_pos h2, ← hK, bstr_append, bstr_append]); exact ⟨(i, spoilC cc m al, spoil1 cc m al), ⟨e1, by show (spoil1 cc m al).length + i ≤ _; omega, by show (spoilC cc m al).pos + 6 * i ≤ _; omega⟩, by show i < i + 1; omega, Weak.ren _ [] hC rfl (by rw [e2]; repeat (first | exact True.intro | refine And.intro ?_ ?_ | exact DLead.same | exact DLead.eqI (by omega) | exact rfl | refine ⟨_, rfl, ?_⟩)) (by repeat (first | exact True.intro | refine And.intro ?_ ?_ | exact DLead.same | exact rfl | refine ⟨_, _, rfl, rfl, ?_⟩ | refine ⟨_, rfl, ?_⟩ | refine ⟨_, _, rfl, ?_, ?_⟩)) rfl rfl rfl⟩)
        · refine AC.seq ?_
          refine AC.region ?_
          refine AL.p (by exact g_cmp rfl rfl rfl) rfl ?_
          refine AL.p (by exact as1 rfl) rfl ?_
          refine AL.nil ?_
          refine th_n ?_
          refine AC.condD rfl (fun h3 => ?_) (fun h3 => ?_)
          · refine AC.drawn' mixed_ok [[], [], [0,1], [], [0,1,2,3], [], [], [6], [5,6,7], [0,1,2,3,4,5,6,7,8], [0,1,2,3,4,5,6,7,8,9]] (by decide) ?_
            refine DF.op 0 [] 11 rfl rfl rfl (.free rfl (NOp.of (by exact mv1 rfl))) rfl ?_
            refine DF.op 1 [] 11 rfl rfl rfl (.free rfl (NOp.of (by exact mv1 rfl))) rfl ?_
            refine DF.op 2 [0,1] 11 rfl rfl rfl (.free rfl (NOp.of (by exact g_slice_str (h := K) rfl rfl .none (.some rfl hKI) (Nat.zero_le _) (by omega) hx1))) rfl ?_
            refine DF.op 3 [] 11 rfl rfl rfl (.free rfl (NOp.of (by exact mv1 rfl))) rfl ?_
            refine DF.op 4 [0,1,2,3] 11 rfl rfl rfl (.free rfl (NOp.of (by exact g_sadd rfl rfl (by (simp only [ByteArray.size_append, bstr_size, List.length_take, List.length_drop, List.length_cons, List.length_nil]; omega))))) rfl ?_
            refine DF.op 5 [] 11 rfl rfl rfl (.free rfl (NOp.of (by exact mv1 rfl))) rfl ?_
            refine DF.op 6 [] 11 rfl rfl rfl (.free rfl (NOp.of (by exact mv1 rfl))) rfl ?_
            refine DF.op 7 [6] 11 rfl rfl rfl (.free rfl (NOp.of (by exact g_arith rfl rfl rfl (by exact wrap_i64 (by omega))))) rfl ?_
            refine DF.op 8 [5,6,7] 11 rfl rfl rfl (.free rfl (NOp.of (by exact g_slice_str (l := K + 1) rfl rfl (.some rfl hKJ) .none (by omega) (Nat.le_refl _) hx3))) rfl ?_
            refine DF.op 9 [0,1,2,3,4,5,6,7,8] 11 rfl rfl rfl (.free rfl (NOp.of (by exact g_sadd rfl rfl (by (simp only [ByteArray.size_append, bstr_size, List.length_take, List.length_drop, List.length_cons, List.length_nil]; omega))))) rfl ?_
            refine DF.op 10 [0,1,2,3,4,5,6,7,8,9] 11 rfl rfl rfl (.free rfl (NOp.of (by exact as1 rfl))) rfl ?_
            refine DF.fin (ps := [(0, 1), (0, 3), (0, 5), (0, 6), (0, 7), (0, 8), (1, 0), (1, 3), (1, 5), (1, 6), (1, 7), (1, 8), (2, 3), (2, 5), (2, 6), (2, 7), (2, 8), (3, 0), (3, 1), (3, 2), (3, 5), (3, 6), (3, 7), (3, 8), (4, 5), (4, 6), (4, 7), (4, 8), (5, 0), (5, 1), (5, 2), (5, 3), (5, 4), (5, 6), (5, 7), (6, 0), (6, 1), (6, 2), (6, 3), (6, 4), (6, 5), (7, 0), (7, 1), (7, 2), (7, 3), (7, 4), (7, 5), (8, 0), (8, 1), (8, 2), (8, 3), (8, 4)]) 11 rfl (by decide +kernel) (by decide +kernel) (by rfl) ?_
            refine ib_n ?_
            refine ib_n ?_
            refine th_n ?_
            refine AC.region ?_
            refine AL.p (by exact mv1 rfl) rfl ?_
            refine AL.p (by exact g_arith rfl rfl rfl (by exact wrap_i64 (by omega))) rfl ?_
            refine AL.p (by exact as1 rfl) rfl ?_
            refine AL.nil ?_
            refine th_n ?_
            (have e2 : bstr (spoil1 cc m al) = bstr (m.take K) ++ bstr [al.getD ((cc.pick m.length).2.pick al.length).1.toNat 0] ++ bstr (m.drop (K + 1)) := (by unfold spoil1; rw [if_neg h2, if_pos h3, ← hK, bstr_append, bstr_append]); exact ⟨(i, spoilC cc m al, spoil1 cc m al), ⟨e1, by show (spoil1 cc m al).length + i ≤ _; omega, by show (spoilC cc m al).pos + 6 * i ≤ _; omega⟩, by show i < i + 1; omega, Weak.ren _ [] hC rfl (by rw [e2]; repeat (first | exact True.intro | refine And.intro ?_ ?_ | exact DLead.same | exact DLead.eqI (by omega) | exact rfl | refine ⟨_, rfl, ?_⟩)) (by repeat (first | exact True.intro | refine And.intro ?_ ?_ | exact DLead.same | exact rfl | refine ⟨_, _, rfl, rfl, ?_⟩ | refine ⟨_, rfl, ?_⟩ | refine ⟨_, _, rfl, ?_, ?_⟩)) rfl rfl rfl⟩)
          · refine AC.drawn' mixed_ok [[], [], [0,1], [], [], [4], [3,4,5], [0,1,2,3,4,5,6], [0,1,2,3,4,5,6,7]] (by decide) ?_
            refine DF.op 0 [] 9 rfl rfl rfl (.free rfl (NOp.of (by exact mv1 rfl))) rfl ?_
            refine DF.op 1 [] 9 rfl rfl rfl (.free rfl (NOp.of (by exact mv1 rfl))) rfl ?_
            refine DF.op 2 [0,1] 9 rfl rfl rfl (.free rfl (NOp.of (by exact g_slice_str (h := K) rfl rfl .none (.some rfl hKI) (Nat.zero_le _) (by omega) hx1))) rfl ?_
            refine DF.op 3 [] 9 rfl rfl rfl (.free rfl (NOp.of (by exact mv1 rfl))) rfl ?_
            refine DF.op 4 [] 9 rfl rfl rfl (.free rfl (NOp.of (by exact mv1 rfl))) rfl ?_
            refine DF.op 5 [4] 9 rfl rfl rfl (.free rfl (NOp.of (by exact g_arith rfl rfl rfl (by exact wrap_i64 (by omega))))) rfl ?_
            refine DF.op 6 [3,4,5] 9 rfl rfl rfl (.free rfl (NOp.of (by exact g_slice_str (l := K + 1) rfl rfl (.some rfl hKJ) .none (by omega) (Nat.le_refl _) hx3))) rfl ?_
            refine DF.op 7 [0,1,2,3,4,5,6] 9 rfl rfl rfl (.free rfl (NOp.of (by exact g_sadd rfl rfl (by (simp only [ByteArray.size_append, bstr_size, List.length_take, List.length_drop, List.length_cons, List.length_nil]; omega))))) rfl ?_
            refine DF.op 8 [0,1,2,3,4,5,6,7] 9 rfl rfl rfl (.free rfl (NOp.of (by exact as1 rfl))) rfl ?_
            refine DF.fin (ps := [(0, 1), (0, 3), (0, 4), (0, 5), (0, 6), (1, 0), (1, 3), (1, 4), (1, 5), (1, 6), (2, 3), (2, 4), (2, 5), (2, 6), (3, 0), (3, 1), (3, 2), (3, 4), (3, 5), (4, 0), (4, 1), (4, 2), (4, 3), (5, 0), (5, 1), (5, 2), (5, 3), (6, 0), (6, 1), (6, 2)]) 9 rfl (by decide +kernel) (by decide +kernel) (by rfl) ?_
            refine ib_n ?_
            refine ib_n ?_
            refine th_n ?_
            refine AC.region ?_
            refine AL.p (by exact mv1 rfl) rfl ?_
            refine AL.p (by exact g_arith rfl rfl rfl (by exact wrap_i64 (by omega))) rfl ?_
            refine AL.p (by exact as1 rfl) rfl ?_
            refine AL.nil ?_
            refine th_n ?_
            (have e2 : bstr (spoil1 cc m al) = bstr (m.take K) ++ bstr (m.drop (K + 1)) := (by unfold spoil1; rw [if_neg h2, if_neg h3, ← hK, bstr_append]); exact ⟨(i, spoilC cc m al, spoil1 cc m al), ⟨e1, by show (spoil1 cc m al).length + i ≤ _; omega, by show (spoilC cc m al).pos + 6 * i ≤ _; omega⟩, by show i < i + 1; omega, Weak.ren _ [] hC rfl (by rw [e2]; repeat (first | exact True.intro | refine And.intro ?_ ?_ | exact DLead.same | exact DLead.eqI (by omega) | exact rfl | refine ⟨_, rfl, ?_⟩)) (by repeat (first | exact True.intro | refine And.intro ?_ ?_ | exact DLead.same | exact rfl | refine ⟨_, _, rfl, rfl, ?_⟩ | refine ⟨_, rfl, ?_⟩ | refine ⟨_, _, rfl, ?_, ?_⟩)) rfl rfl rfl⟩)
      · refine AC.exit ?_
        refine th_e ?_
        refine th_e ?_
        refine ib_y ?_
        refine th_n ?_
        refine AC.seq ?_
        refine AC.region ?_
        refine AL.p (by exact mv1 rfl) rfl ?_
        refine AL.p (by exact as1 rfl) rfl ?_
        refine AL.nil ?_
        refine th_n ?_
        refine AC.ret ?_
        refine bq_r ?_
        have e : c.spoilt s al = (m, cc) := by (rw [← hsub]; exact spoilN_nil (by omega))
        exact retF rfl (by rw [e]; repeat (exact DLead.same)) (by rw [e]; repeat (first | exact True.intro | refine And.intro ?_ ?_ | exact DLead.same | exact rfl | refine ⟨_, _, rfl, rfl, ?_⟩ | refine ⟨_, rfl, ?_⟩ | refine ⟨_, _, rfl, ?_, ?_⟩)) rfl
    · refine AL.not rfl rfl rfl rfl rfl ?_
      refine AL.not rfl rfl rfl rfl rfl ?_
      refine AL.not rfl rfl rfl rfl rfl ?_
      refine AL.p (by exact g_pickF (r := .d _) rfl rfl) rfl ?_
      refine AL.nil ?_
      refine th_n ?_
      refine AC.condF rfl ?_
      refine AC.exit ?_
      refine th_e ?_
      refine th_e ?_
      refine ib_y ?_
      refine th_n ?_
      refine AC.seq ?_
      refine AC.region ?_
      refine AL.p (by exact mv1 rfl) rfl ?_
      refine AL.p (by exact as1 rfl) rfl ?_
      refine AL.nil ?_
      refine th_n ?_
      refine AC.ret ?_
      refine bq_r ?_
      have e : c.spoilt s al = (m, cc) := by (have hj : j = 0 := (by omega); subst hj; exact hsub.symm)
      exact retF rfl (by rw [e]; repeat (exact DLead.same)) (by rw [e]; repeat (first | exact True.intro | refine And.intro ?_ ?_ | exact DLead.same | exact rfl | refine ⟨_, _, rfl, rfl, ?_⟩ | refine ⟨_, rfl, ?_⟩ | refine ⟨_, _, rfl, ?_, ?_⟩)) rfl
theorem en_spoilt : Enters Tryd.prog 39 := enters_of Tryd.func39 rfl rfl
end Go.Proofs.YtnklhbfdfddigaaDoor

set_option linter.all false
set_option maxRecDepth 20000
namespace Go.Proofs.YtnklhbfdfddigaaDoor
open Go.RowKit

/-- append over lists of transitions. -/
theorem h_appendT (acc new : List Tn) {s : ASt} {dst : Option Nat} {ty : Nat} {pos : String} {af : Array Edge} {gd : Option (Nat × Bool)} {x y : Operand} {f : Nat} {ids ids2 : List Nat} {gone : List (Nat × Option Chunk)}
    (hto : AppTo s x 88 2 (tsL acc) ids gone) (harg : AppArg s y 2 (tsL new) ids2) (h : (acc ++ new).length ≤ 100000000) (hnew : gone = [] → 0 < new.length) :
    NOp Tryd.prog (ids ++ ids2) s ⟨dst, .call { callee := .builtin .append, args := #[x, y], argTypes := #[24, 24] }, ty, pos, af, gd⟩ f ⟨.own f (acc ++ new).length, (f, some (.arr 88 2 (tsL (acc ++ new)))) :: gone⟩ := by
  have := h_append (P := Tryd.prog) (s := s) (dst := dst) (ty := ty) (pos := pos) (af := af) (gd := gd) (x := x) (y := y) (f := f) (t := 24) (tx := 24) (k := (acc ++ new).length) rfl rfl rfl rfl rfl rfl hto harg (by simp) (by omega) (by show (acc ++ new).length * 48 ≤ _; omega) (fun h => by rw [tsL_len]; exact hnew h)
  rwa [← List.map_append] at this

end Go.Proofs.YtnklhbfdfddigaaDoor

set_option linter.all false
set_option maxRecDepth 20000
namespace Go.Proofs.YtnklhbfdfddigaaDoor
open Go.RowKit

def small (N : Net) : Prop := 0 ≤ N.places ∧ N.places ≤ 31 ∧ N.ts.length ≤ 4 ∧ ∀ t, t ∈ N.ts → t.pre.length ≤ 2 ∧ t.post.length ≤ 2
end Go.Proofs.YtnklhbfdfddigaaDoor

set_option linter.all false
set_option maxRecDepth 20000
namespace Go.Proofs.YtnklhbfdfddigaaDoor
open Go.RowKit

theorem getD_at {l : List Int} {k : Nat} (h : k < l.length) : l.getD k 0 = l[k] := by rw [List.getD_eq_getElem?_getD, List.getElem?_eq_getElem h]; rfl
theorem same_of {a b : List Int} (hl : a.length = b.length) (h : ∀ j, j < a.length → a.getD j 0 = b.getD j 0) : a = b :=
  List.ext_getElem hl fun j ha hb => by have := h j ha; rwa [getD_at ha, getD_at hb] at this
theorem same_no {a b : List Int} {j : Nat} (h : a.getD j 0 ≠ b.getD j 0) : a ≠ b := fun e => h (by rw [e])
def mapI (l : List Int) (d : Int) : List Int := l.map (fun x => x + d)
theorem mapI_len (l : List Int) (d : Int) : (mapI l d).length = l.length := List.length_map _
theorem mapI_take {l : List Int} {d : Int} {k : Nat} (hk : k < l.length) : mapI (l.take (k + 1)) d = mapI (l.take k) d ++ [l[k] + d] := by
  unfold mapI
  rw [List.take_add_one, List.getElem?_eq_getElem hk, List.map_append]; rfl
theorem sameInts_spec (a b : List Int) (ha : a.length ≤ 1000000) (hb : b.length ≤ 1000000) : ASpec Tryd.prog 20 [.d (vI a), .d (vI b)] [] (Pure1 (aT (decide (a = b)))) := by
  refine ASpec.of Tryd.func20 rfl rfl fun C hC => ?_
  refine AC.seq ?_
  refine AC.region ?_
  refine AL.p (by exact as1 rfl) rfl ?_
  refine AL.nil ?_
  refine th_n ?_
  refine AC.seq ?_
  refine AC.seq ?_
  refine AC.region ?_
  refine AL.p (by exact mv1 rfl) rfl ?_
  refine AL.p (by exact g_len_view rfl rfl (by exact List.length_map _)) rfl ?_
  refine AL.p (by exact mv1 rfl) rfl ?_
  refine AL.p (by exact g_len_view rfl rfl (by exact List.length_map _)) rfl ?_
  refine AL.p (by exact g_cmp rfl rfl rfl) rfl ?_
  refine AL.nil ?_
  refine th_n ?_
  refine AC.condND rfl (fun h0 => ?_) (fun h0 => ?_)
  · refine AC.seq ?_
    refine AC.region ?_
    refine AL.p (by exact as1 rfl) rfl ?_
    refine AL.nil ?_
    refine th_n ?_
    refine AC.ret ?_
    refine th_r ?_
    refine bq_r ?_
    have hne : a ≠ b := fun e => h0 (by rw [e])
    exact ret1 rfl (by rw [decide_eq_false hne])
  · refine AC.skip ?_
    refine th_n ?_
    refine AC.seq ?_
    refine AC.seq ?_
    refine AC.region ?_
    refine AL.p (by exact mv1 rfl) rfl ?_
    refine AL.p (by exact g_len_view rfl rfl (by exact List.length_map _)) rfl ?_
    refine AL.p (by exact mv1 rfl) rfl ?_
    refine AL.nil ?_
    refine th_n ?_
    refine AC.block ?_
    refine AC.loop (ι := Nat) (fun k => ⟨26, 0, [(0, .d (vI a)), (1, .d (vI b)), (12, aI a.length), (13, aI k)], []⟩) (fun k => k ≤ a.length ∧ ∀ j, j < k → a.getD j 0 = b.getD j 0) (fun k => a.length - k) (0) ?_ (⟨Nat.zero_le _, fun j hj => by omega⟩) ?_
    · refine Weak.ren _ [] hC rfl ?_ ?_ rfl rfl rfl <;> repeat (first | exact True.intro | refine And.intro ?_ ?_ | exact DLead.same)
    · intro k ⟨hk, hall⟩
      refine AC.seq ?_
      refine AC.region ?_
      refine AL.p (by exact g_cmp rfl rfl rfl) rfl ?_
      refine AL.nil ?_
      refine th_n ?_
      refine AC.seq ?_
      refine AC.condD rfl (fun h1 => ?_) (fun h1 => ?_)
      · refine AC.skip ?_
        refine th_n ?_
        refine AC.seq ?_
        refine AC.block ?_
        refine AC.seq ?_
        have hk1 : k < a.length := by omega
        have hl : a.length = b.length := by omega
        have hget : (ints a)[k]? = some [dI (a.getD k 0)] := ints_get hk1
        have hget2 : (ints b)[k]? = some [dI (b.getD k 0)] := ints_get (by omega)
        refine AC.region ?_
        refine AL.p (by exact mv1 rfl) rfl ?_
        refine AL.p (by exact as1 rfl) rfl ?_
        refine AL.nil ?_
        refine th_n ?_
        refine AC.seq ?_
        refine AC.drawn' mixed_ok [[], [], [0,1], [0,1,2], [], [], [4,5], [4,5,6], [0,1,2,3,4,5,6,7]] (by decide) ?_
        refine DF.op 0 [] 9 rfl rfl rfl (.free rfl (NOp.of (by exact mv1 rfl))) rfl ?_
        refine DF.op 1 [] 9 rfl rfl rfl (.free rfl (NOp.of (by exact mv1 rfl))) rfl ?_
        refine DF.op 2 [0,1] 9 rfl rfl rfl (.free rfl (NOp.of (by exact g_ia_view rfl rfl rfl rfl rfl (by rfl) (by assumption)))) rfl ?_
        refine DF.op 3 [0,1,2] 9 rfl rfl rfl (.free rfl (NOp.of (by exact g_load_ref rfl rfl rfl))) rfl ?_
        refine DF.op 4 [] 9 rfl rfl rfl (.free rfl (NOp.of (by exact mv1 rfl))) rfl ?_
        refine DF.op 5 [] 9 rfl rfl rfl (.free rfl (NOp.of (by exact mv1 rfl))) rfl ?_
        refine DF.op 6 [4,5] 9 rfl rfl rfl (.free rfl (NOp.of (by exact g_ia_view rfl rfl rfl rfl rfl (by rfl) (by assumption)))) rfl ?_
        refine DF.op 7 [4,5,6] 9 rfl rfl rfl (.free rfl (NOp.of (by exact g_load_ref rfl rfl rfl))) rfl ?_
        refine DF.op 8 [0,1,2,3,4,5,6,7] 9 rfl rfl rfl (.free rfl (NOp.of (by exact g_cmp rfl rfl rfl))) rfl ?_
        refine DF.fin (ps := [(0, 1), (0, 4), (0, 5), (0, 6), (0, 7), (1, 0), (1, 4), (1, 5), (1, 6), (1, 7), (2, 4), (2, 5), (2, 6), (2, 7), (3, 4), (3, 5), (3, 6), (3, 7), (4, 0), (4, 1), (4, 2), (4, 3), (4, 5), (5, 0), (5, 1), (5, 2), (5, 3), (5, 4), (6, 0), (6, 1), (6, 2), (6, 3), (7, 0), (7, 1), (7, 2), (7, 3)]) 9 rfl (by decide +kernel) (by decide +kernel) (by rfl) ?_
        refine th_n ?_
        refine AC.condND rfl (fun h2 => ?_) (fun h2 => ?_)
        · refine AC.seq ?_
          refine AC.region ?_
          refine AL.p (by exact as1 rfl) rfl ?_
          refine AL.nil ?_
          refine th_n ?_
          refine AC.ret ?_
          refine ib_r ?_
          refine th_r ?_
          refine th_r ?_
          refine ib_r ?_
          refine th_r ?_
          refine bq_r ?_
          have hne : a ≠ b := same_no (by simpa using h2)
          exact ret1 rfl (by rw [decide_eq_false hne])
        · refine AC.skip ?_
          refine ib_n ?_
          refine th_n ?_
          refine AC.region ?_
          refine AL.p (by exact g_arith rfl rfl rfl (by exact wrap_i64 (by omega))) rfl ?_
          refine AL.p (by exact mv1 rfl) rfl ?_
          refine AL.nil ?_
          refine th_n ?_
          exact ⟨k + 1, ⟨by omega, fun j hj => by rcases Nat.lt_succ_iff_lt_or_eq.1 hj with h | rfl; exact hall j h; simpa using h2⟩, by omega, Weak.ren _ [] hC rfl (by repeat (first | exact True.intro | refine And.intro ?_ ?_ | exact DLead.same)) (by repeat (exact True.intro)) rfl rfl rfl⟩
      · refine AC.exit ?_
        refine th_e ?_
        refine th_e ?_
        refine ib_y ?_
        refine th_n ?_
        refine AC.seq ?_
        refine AC.region ?_
        refine AL.p (by exact as1 rfl) rfl ?_
        refine AL.nil ?_
        refine th_n ?_
        refine AC.ret ?_
        refine bq_r ?_
        have he : a = b := same_of (by omega) (fun j hj => hall j (by omega))
        exact ret1 rfl (by rw [decide_eq_true he])
theorem en_sameInts : Enters Tryd.prog 20 := enters_of Tryd.func20 rfl rfl
theorem l1Own_spec (l : List Int) (hl : l.length ≤ 1000000) : ASpec Tryd.prog 83 [.d (vI l)] [] (Pure1 (.d (vI l))) := by
  refine ASpec.of Tryd.func83 rfl rfl fun C hC => ?_
  refine AC.seq ?_
  refine AC.region ?_
  refine AL.p (by exact as1 rfl) rfl ?_
  refine AL.nil ?_
  refine th_n ?_
  refine AC.seq ?_
  refine AC.region ?_
  refine AL.q (by exact h_lit rfl rfl rfl rfl rfl rfl rfl rfl) rfl ?_
  refine AL.p (by exact mv1 rfl) rfl ?_
  refine AL.q (by exact h_appendI [] l (.own rfl rfl rfl) (.view rfl) (by simp; omega) (by simp)) rfl ?_
  refine AL.weak (Weak.freeze (i := 5) rfl rfl (Nat.le_of_eq (ints_len _).symm) (ints_all _)) ?_
  refine AL.p (by exact as1 rfl) rfl ?_
  refine AL.nil ?_
  refine th_n ?_
  refine AC.ret ?_
  refine bq_r ?_
  exact ret1 rfl rfl
theorem en_l1Own : Enters Tryd.prog 83 := enters_of Tryd.func83 rfl rfl
set_option maxHeartbeats 1000000 in
theorem l1Shift_spec (l : List Int) (d : Int) (hl : l.length ≤ 1000000) (hr : ∀ x, x ∈ l → -1000000 ≤ x ∧ x ≤ 1000000) (hd : -1000000 ≤ d ∧ d ≤ 1000000) : ASpec Tryd.prog 78 [.d (vI l), aI d] [] (Pure1 (.d (vI (mapI l d)))) := by
  refine ASpec.of Tryd.func78 rfl rfl fun C hC => ?_
  refine AC.seq ?_
  refine AC.region ?_
  refine AL.p (by exact as1 rfl) rfl ?_
  refine AL.nil ?_
  refine th_n ?_
  refine AC.seq ?_
  refine AC.region ?_
  refine AL.p (by exact as1 rfl) rfl ?_
  refine AL.nil ?_
  refine th_n ?_
  refine AC.seq ?_
  refine AC.seq ?_
  refine AC.region ?_
  refine AL.p (by exact mv1 rfl) rfl ?_
  refine AL.p (by exact g_len_view rfl rfl (by exact List.length_map _)) rfl ?_
  refine AL.p (by exact mv1 rfl) rfl ?_
  refine AL.nil ?_
  refine th_n ?_
  refine AC.block ?_
  refine AC.loop (ι := Nat) (fun k => ⟨22, 108, [(1, aI d), (5, .own 100 k), (8, .d (vI l)), (9, aI l.length), (10, aI k)], [(100, some (.arr 3 1 (ints (mapI (l.take k) d))))]⟩) (fun k => k ≤ l.length) (fun k => l.length - k) (0) ?_ (Nat.zero_le _) ?_
  · exact (Weak.nilOwn (i := 5) (e := 3) (sz := 1) rfl (by decide)).trans (Weak.ren _ [(100, _)] hC rfl (by repeat (first | exact True.intro | refine And.intro ?_ ?_ | exact DLead.same | exact rfl | refine ⟨_, rfl, ?_⟩)) (by repeat (first | exact True.intro | refine And.intro ?_ ?_ | exact rfl | refine ⟨_, _, rfl, rfl, ?_⟩)) rfl rfl rfl)
  · intro k hk
    refine AC.seq ?_
    refine AC.region ?_
    refine AL.p (by exact g_cmp rfl rfl rfl) rfl ?_
    refine AL.nil ?_
    refine th_n ?_
    refine AC.seq ?_
    refine AC.condD rfl (fun h0 => ?_) (fun h0 => ?_)
    · refine AC.skip ?_
      refine th_n ?_
      refine AC.seq ?_
      refine AC.block ?_
      refine AC.seq ?_
      have hk1 : k < l.length := by omega
      have hget := ints_at hk1
      have hx := hr _ (List.getElem_mem hk1)
      have hml : (mapI (l.take k) d).length = k := by rw [mapI_len, List.length_take]; omega
      refine AC.region ?_
      refine AL.p (by exact g_ia_view rfl rfl rfl rfl rfl (by rfl) (by assumption)) rfl ?_
      refine AL.p (by exact g_load_ref rfl rfl rfl) rfl ?_
      refine AL.p (by exact as1 rfl) rfl ?_
      refine AL.nil ?_
      refine th_n ?_
      refine AC.region ?_
      refine AL.p (by exact mv2 rfl) rfl ?_
      refine AL.p (by exact mv1 rfl) rfl ?_
      refine AL.p (by exact mv1 rfl) rfl ?_
      refine AL.p (by exact g_arith rfl rfl rfl (by exact wrap_i64 (by omega))) rfl ?_
      refine AL.q (by exact h_litF rfl rfl rfl rfl rfl rfl rfl rfl) rfl ?_
      refine AL.q (by exact h_appendI (mapI (l.take k) d) [l[k] + d] (.own rfl rfl (by rw [ints_len, hml])) (.view rfl) (by simp; omega) (by simp)) rfl ?_
      refine AL.p (by exact as2 rfl) rfl ?_
      refine AL.nil ?_
      refine ib_n ?_
      refine th_n ?_
      refine AC.region ?_
      refine AL.p (by exact g_arith rfl rfl rfl (by exact wrap_i64 (by omega))) rfl ?_
      refine AL.p (by exact mv1 rfl) rfl ?_
      refine AL.nil ?_
      refine th_n ?_
      have hl2 : (mapI (l.take k) d ++ [l[k] + d]).length = k + 1 := by rw [List.length_append, hml]; rfl
      exact ⟨k + 1, by omega, by omega, Weak.ren _ [(100, _)] hC rfl (by rw [← hl2]; repeat (first | exact True.intro | refine And.intro ?_ ?_ | exact DLead.same | exact DLead.eqI (by omega) | exact rfl | refine ⟨_, rfl, ?_⟩)) (by rw [mapI_take hk1]; repeat (first | exact True.intro | refine And.intro ?_ ?_ | exact rfl | refine ⟨_, _, rfl, rfl, ?_⟩)) rfl rfl rfl⟩
    · refine AC.exit ?_
      refine th_e ?_
      refine th_e ?_
      refine ib_y ?_
      refine th_n ?_
      refine AC.seq ?_
      have hkk : k = l.length := by omega
      subst hkk
      refine AC.weak (Weak.freeze (els' := ints (mapI l d)) (i := 5) rfl rfl (by rw [ints_len, mapI_len]; simp) (by rw [List.take_length, List.take_of_length_le (by rw [ints_len, mapI_len]; exact Nat.le_refl _)])) ?_
      refine AC.region ?_
      refine AL.p (by exact mv1 rfl) rfl ?_
      refine AL.p (by exact as1 rfl) rfl ?_
      refine AL.nil ?_
      refine th_n ?_
      refine AC.ret ?_
      refine bq_r ?_
      exact ret1 rfl rfl
theorem en_l1Shift : Enters Tryd.prog 78 := enters_of Tryd.func78 rfl rfl
end Go.Proofs.YtnklhbfdfddigaaDoor

set_option linter.all false
set_option maxRecDepth 20000
namespace Go.Proofs.YtnklhbfdfddigaaDoor
open Go.RowKit

def evAt (u : Unf) (e : Int) : List Int := (u.es.getD e.toNat ⟨0, []⟩).pre
def cAt (u : Unf) (c : Int) : Cond := u.cs.getD c.toNat ⟨0, 0⟩
theorem evAt_nat {u : Unf} {k : Nat} (h : k < u.es.length) : evAt u (k : Int) = u.es[k].pre := by unfold evAt; rw [Int.toNat_natCast, List.getD_eq_getElem?_getD, List.getElem?_eq_getElem h]; rfl
theorem cAt_nat {u : Unf} {k : Nat} (h : k < u.cs.length) : cAt u (k : Int) = u.cs[k] := by unfold cAt; rw [Int.toNat_natCast, List.getD_eq_getElem?_getD, List.getElem?_eq_getElem h]; rfl
/-- Where each number says what is there. -/
structure WF (u : Unf) : Prop where
  p : ∀ e, e ∈ u.es → ∀ c, c ∈ e.pre → 0 ≤ c ∧ c < u.cs.length
  b : ∀ c, c ∈ u.cs → -1 ≤ c.by_ ∧ c.by_ < u.es.length
  l : ∀ e, e ∈ u.es → e.pre.length ≤ 1000000
  e : u.es.length ≤ 1000
  c : u.cs.length ≤ 100000
def usedI (u : Unf) (list : List Int) (c : Int) : Bool := list.any (fun e => hasI (evAt u e) c)
def placesI (u : Unf) (list : List Int) : List Int := list.foldl (fun out c => putI out (cAt u c).place) []
end Go.Proofs.YtnklhbfdfddigaaDoor

set_option linter.all false
set_option maxRecDepth 20000
namespace Go.Proofs.YtnklhbfdfddigaaDoor
open Go.RowKit

def freeF : List Bool → List Int → Bool
  | _, [] => true
  | fl, c :: cs => if fl.getD c.toNat false = true then false else freeF (fl.set c.toNat true) cs
def freeI (u : Unf) (list : List Int) : Bool := freeF (List.replicate u.cs.length false) (list.flatMap (evAt u))
def mark0 (n : Nat) (list : List Int) : List Bool := list.foldl (fun fl e => if 0 ≤ e then fl.set e.toNat true else fl) (List.replicate n false)
def stepC (u : Unf) (e : Nat) (fl : List Bool) (c : Int) : List Bool := if fl.getD e false = true ∧ 0 ≤ (cAt u c).by_ then fl.set (cAt u c).by_.toNat true else fl
def stepE (u : Unf) (e : Nat) (fl : List Bool) : List Bool := (evAt u (e : Int)).foldl (stepC u e) fl
def downE (u : Unf) : Nat → List Bool → List Bool
  | 0, fl => fl
  | e + 1, fl => downE u e (stepE u e fl)
def pastFl (u : Unf) (list : List Int) : List Bool := downE u u.es.length (mark0 u.es.length list)
def flagL (fl : List Bool) (k : Nat) : List Int := ((List.range k).filter (fun i => fl.getD i false)).map (fun (i : Nat) => (i : Int))
def pastI (u : Unf) (list : List Int) : List Int := flagL (pastFl u list) u.es.length
end Go.Proofs.YtnklhbfdfddigaaDoor

set_option linter.all false
set_option maxRecDepth 20000
namespace Go.Proofs.YtnklhbfdfddigaaDoor
open Go.RowKit

def byL (u : Unf) (l : List Int) : List Int := l.map (fun c => (cAt u c).by_)
def togI (u : Unf) (l : List Int) : Bool := l.all (fun c => !usedI u (pastI u (byL u l)) c) && freeI u (pastI u (byL u l))
def tAt (N : Net) (t : Int) : Tn := N.ts.getD t.toNat ⟨[], []⟩
theorem tAt_nat {N : Net} {k : Nat} (h : k < N.ts.length) : tAt N (k : Int) = N.ts[k] := by unfold tAt; rw [Int.toNat_natCast, List.getD_eq_getElem?_getD, List.getElem?_eq_getElem h]; rfl
def fitA (N : Net) (u : Unf) (h : Ev) : Bool := inR N h.t && (rising h.pre 0 ((u.cs.length : Int) - 1) && decide ((h.pre.length : Int) = (tAt N h.t).pre.length))
def fitB (u : Unf) (h : Ev) : Bool := u.es.any (fun x => decide (x.t = h.t) && decide (x.pre = h.pre))
def fitC (N : Net) (u : Unf) (h : Ev) : Bool := decide (placesI u h.pre = (tAt N h.t).pre) && togI u h.pre
def fitsI (N : Net) (u : Unf) (h : Ev) : Bool := fitA N u h && (!fitB u h && fitC N u h)
theorem inR_nat {N : Net} {t : Int} (h : inR N t = true) : ∃ i : Nat, t = i ∧ i < N.ts.length := by
  simp only [inR, Bool.and_eq_true, decide_eq_true_eq] at h
  exact ⟨t.toNat, by omega, by omega⟩
end Go.Proofs.YtnklhbfdfddigaaDoor

set_option linter.all false
set_option maxRecDepth 20000
namespace Go.Proofs.YtnklhbfdfddigaaDoor
open Go.RowKit

def withC (u : Unf) (post : List Int) : List Cond := u.cs ++ post.map (fun p => ⟨p, (u.es.length : Int)⟩)
def withI (N : Net) (u : Unf) (h : Ev) : Unf := ⟨withC u (tAt N h.t).post, u.es ++ [h]⟩
theorem withC_len (u : Unf) (l : List Int) : (withC u l).length = u.cs.length + l.length := by unfold withC; rw [List.length_append, List.length_map]
end Go.Proofs.YtnklhbfdfddigaaDoor

set_option linter.all false
set_option maxRecDepth 20000
namespace Go.Proofs.YtnklhbfdfddigaaDoor
open Go.RowKit

theorem rise_lt {l : List Int} {lo hi : Int} (h : rising l lo hi = true) : ∀ (j i : Nat) (hj : j < l.length) (hi : i < j), l[i] < l[j]
  | 0, i, hj, hij => by omega
  | j + 1, i, hj, hij => by
    have h2 : l[j] < l[j + 1] := by
      unfold rising allN at h
      have := List.all_eq_true.1 h (j + 1) (List.mem_range.2 hj)
      simp only [riseAt, Bool.and_eq_true, Bool.not_eq_true', Bool.and_eq_false_iff, decide_eq_true_eq, decide_eq_false_iff_not] at this
      have h3 := this.2
      rw [getD_at hj, show j + 1 - 1 = j from rfl, getD_at (by omega)] at h3
      omega
    by_cases e : i = j
    · subst e; exact h2
    · exact Int.lt_trans (rise_lt h j i (by omega) (by omega)) h2
theorem rising_ge {l : List Int} {lo hi : Int} (h : rising l lo hi = true) : ∀ (j : Nat) (hj : j < l.length), lo + (j : Int) ≤ l[j]
  | 0, hj => by have := (rising_in h _ (List.getElem_mem hj)).1; omega
  | j + 1, hj => by
    have h1 := rising_ge h j (by omega)
    have h2 := rise_lt h (j + 1) j hj (by omega)
    omega
theorem rising_len {l : List Int} {lo hi : Int} (h : rising l lo hi = true) : (l.length : Int) ≤ hi - lo + 1 ∨ l.length = 0 := by
  by_cases h0 : l.length = 0
  · exact .inr h0
  · left
    have hj : l.length - 1 < l.length := by omega
    have h1 := rising_ge h _ hj
    have h2 := (rising_in h _ (List.getElem_mem hj)).2
    omega
/-- Nets that are good are small. -/
structure NetS (n : Net) : Prop where
  p : 1 ≤ n.places ∧ n.places ≤ 30
  l : n.ts.length ≤ 24
  t : ∀ t, t ∈ n.ts → 0 < t.pre.length ∧ t.pre.length ≤ 30 ∧ t.post.length ≤ 30 ∧ rising t.pre 0 (n.places - 1) = true ∧ rising t.post 0 (n.places - 1) = true
theorem NetS.B {n : Net} (h : NetS n) : NetB n := ⟨by have := h.p; omega, by have := h.l; omega, fun t ht => by have := h.t t ht; omega⟩
theorem fits_inR {N : Net} {u : Unf} {h : Ev} (hf : fitsI N u h = true) : inR N h.t = true := by
  simp only [fitsI, fitA, Bool.and_eq_true] at hf; exact hf.1.1
theorem fits_rising {N : Net} {u : Unf} {h : Ev} (hf : fitsI N u h = true) : rising h.pre 0 ((u.cs.length : Int) - 1) = true := by
  simp only [fitsI, fitA, Bool.and_eq_true] at hf; exact hf.1.2.1
theorem tAt_mem {N : Net} {t : Int} (h : inR N t = true) : tAt N t ∈ N.ts := by
  obtain ⟨i, rfl, hi⟩ := inR_nat h
  rw [tAt_nat hi]; exact List.getElem_mem hi
/-- Where an unfolding in the making stands. -/
structure Now (N : Net) (k : Nat) (u : Unf) : Prop where
  w : WF u
  n : u.es.length = k
  c : u.cs.length ≤ 30 + 30 * k
theorem Now.fit {N : Net} {k : Nat} {u : Unf} {h : Ev} (hN : NetS N) (hk : k < 100) (hn : Now N k u) (hf : fitsI N u h = true) : Now N (k + 1) (withI N u h) ∧ h.pre.length ≤ 10000 := by
  have hr := fits_rising hf
  have hl := rising_len hr
  have hc := hn.c
  have hpl := (hN.t _ (tAt_mem (fits_inR hf))).2.2.1
  have hcl : (withI N u h).cs.length = u.cs.length + (tAt N h.t).post.length := withC_len _ _
  have hel : (withI N u h).es.length = u.es.length + 1 := by show (u.es ++ [h]).length = _; rw [List.length_append]; rfl
  have hnn := hn.n
  refine ⟨⟨⟨?_, ?_, ?_, by omega, by omega⟩, by omega, by omega⟩, by omega⟩
  · intro e he c hc'
    rcases List.mem_append.1 he with h1 | h1
    · have := hn.w.p e h1 c hc'; omega
    · rw [List.mem_singleton] at h1; subst h1
      have := rising_in hr c hc'; omega
  · intro c hc'
    rcases List.mem_append.1 hc' with h1 | h1
    · have := hn.w.b c h1; omega
    · obtain ⟨p, hp, rfl⟩ := List.mem_map.1 h1
      show -1 ≤ (u.es.length : Int) ∧ (u.es.length : Int) < _
      omega
  · intro e he
    rcases List.mem_append.1 he with h1 | h1
    · exact hn.w.l e h1
    · rw [List.mem_singleton] at h1; subst h1; omega
def madeL (m : List UInt8) (k : Nat) : List Cond := ((List.range k).filter (fun p => m.getD p 0 == 49)).map (fun (p : Nat) => ⟨(p : Int), -1⟩)
def madeI (N : Net) (m : List UInt8) : List Cond := madeL m N.places.toNat
theorem madeL_len (m : List UInt8) (k : Nat) : (madeL m k).length ≤ k := by
  unfold madeL
  rw [List.length_map]
  exact Nat.le_trans (List.length_filter_le _ _) (by simp)
theorem Now.zero {N : Net} (hN : NetS N) (m : List UInt8) : Now N 0 ⟨madeI N m, []⟩ := by
  have hl := madeL_len m N.places.toNat
  have hp := hN.p
  have hl' : (madeI N m).length ≤ 30 := by unfold madeI; omega
  refine ⟨⟨fun e he => absurd he List.not_mem_nil, fun c hc => ?_, fun e he => absurd he List.not_mem_nil, by show 0 ≤ _; omega, by show (madeI N m).length ≤ _; omega⟩, rfl, by show (madeI N m).length ≤ _; omega⟩
  obtain ⟨p, hp, rfl⟩ := List.mem_map.1 hc
  exact ⟨by show (-1 : Int) ≤ -1; omega, by show (-1 : Int) < ((0 : Nat) : Int); omega⟩
end Go.Proofs.YtnklhbfdfddigaaDoor

namespace Go.Proofs
open Go.Shelf
def Tryd.lays171_ren : Go.Shelf.Ren := ⟨fun | 171 => 43 | 243 => 62 | 246 => 71 | 283 => 79 | 284 => 80 | 285 => 81 | 286 => 82 | 129 => 85 | 317 => 84 | 318 => 86 | 319 => 87 | 320 => 88 | 337 => 89 | 338 => 90 | n => n, fun | 3 => 3 | 9 => 9 | 2 => 2 | 4 => 4 | 171 => 104 | 0 => 0 | 53 => 50 | 37 => 22 | 5 => 5 | 173 => 107 | 212 => 111 | 51 => 112 | 20 => 20 | 213 => 113 | 46 => 86 | 232 => 116 | 233 => 117 | n => n, fun | 17 => 0 | 18 => 1 | 19 => 2 | n => n⟩
theorem Tryd.lays171 : Go.Proofs.Lays.n171 Tryd.prog Tryd.lays171_ren := {
  mixed := by kernel_rfl
  f129 := Tryd.func85.trans (congrArg some (by kernel_rfl))
  f171 := Tryd.func43.trans (congrArg some (by kernel_rfl))
  f243 := Tryd.func62.trans (congrArg some (by kernel_rfl))
  f246 := Tryd.func71.trans (congrArg some (by kernel_rfl))
  f283 := Tryd.func79.trans (congrArg some (by kernel_rfl))
  f284 := Tryd.func80.trans (congrArg some (by kernel_rfl))
  f285 := Tryd.func81.trans (congrArg some (by kernel_rfl))
  f286 := Tryd.func82.trans (congrArg some (by kernel_rfl))
  f317 := Tryd.func84.trans (congrArg some (by kernel_rfl))
  f318 := Tryd.func86.trans (congrArg some (by kernel_rfl))
  f319 := Tryd.func87.trans (congrArg some (by kernel_rfl))
  f320 := Tryd.func88.trans (congrArg some (by kernel_rfl))
  f337 := Tryd.func89.trans (congrArg some (by kernel_rfl))
  f338 := Tryd.func90.trans (congrArg some (by kernel_rfl))
  t0 := Tryd.underlying0
  a0 := Tryd.isAgg0
  z0 := Tryd.sizeOf0
  v0 := Tryd.zeroValue0
  t2 := Tryd.underlying2
  a2 := Tryd.isAgg2
  z2 := Tryd.sizeOf2
  v2 := Tryd.zeroValue2
  t3 := Tryd.underlying3
  a3 := Tryd.isAgg3
  z3 := Tryd.sizeOf3
  v3 := Tryd.zeroValue3
  t4 := Tryd.underlying4
  a4 := Tryd.isAgg4
  z4 := Tryd.sizeOf4
  v4 := Tryd.zeroValue4
  t5 := Tryd.underlying5
  a5 := Tryd.isAgg5
  z5 := Tryd.sizeOf5
  v5 := Tryd.zeroValue5
  t9 := Tryd.underlying9
  a9 := Tryd.isAgg9
  z9 := Tryd.sizeOf9
  v9 := Tryd.zeroValue9
  t20 := Tryd.underlying20
  a20 := Tryd.isAgg20
  z20 := Tryd.sizeOf20
  v20 := Tryd.zeroValue20
  t37 := Tryd.underlying22
  a37 := Tryd.isAgg22
  z37 := Tryd.sizeOf22
  v37 := Tryd.zeroValue22
  t46 := Tryd.underlying86
  a46 := Tryd.isAgg86
  z46 := Tryd.sizeOf86
  v46 := Tryd.zeroValue86
  t51 := Tryd.underlying112
  a51 := Tryd.isAgg112
  z51 := Tryd.sizeOf112
  v51 := Tryd.zeroValue112
  t53 := Tryd.underlying50
  a53 := Tryd.isAgg50
  z53 := Tryd.sizeOf50
  v53 := Tryd.zeroValue50
  t171 := Tryd.underlying104
  a171 := Tryd.isAgg104
  z171 := Tryd.sizeOf104
  v171 := Tryd.zeroValue104
  t173 := Tryd.underlying107
  a173 := Tryd.isAgg107
  z173 := Tryd.sizeOf107
  v173 := Tryd.zeroValue107
  t212 := Tryd.underlying111
  a212 := Tryd.isAgg111
  z212 := Tryd.sizeOf111
  v212 := Tryd.zeroValue111
  t213 := Tryd.underlying113
  a213 := Tryd.isAgg113
  z213 := Tryd.sizeOf113
  t232 := Tryd.underlying116
  a232 := Tryd.isAgg116
  z232 := Tryd.sizeOf116
  v232 := Tryd.zeroValue116
  t233 := Tryd.underlying117
  a233 := Tryd.isAgg117
  z233 := Tryd.sizeOf117
  v233 := Tryd.zeroValue117
  g17 := by kernel_rfl
  g18 := by kernel_rfl
  g19 := by kernel_rfl }
open Go.RowKit Go.Sort Go.Lib in
theorem Tryd.strconv_Itoa_small (i : Nat) (hi : i < 100) (w : World) :
    Calls Tryd.prog 43 #[.int .i64 i] w fun e w' => e = .returned (.string ⟨(Lib.decDigits i).toArray⟩) ∧ w' = w := Any.strconv_Itoa_small Tryd.lays171 i hi w
end Go.Proofs

set_option linter.all false
set_option maxRecDepth 20000
namespace Go.Proofs.YtnklhbfdfddigaaDoor
open Go.RowKit

abbrev ES := BitVec 64
def subU (s : ES) (n : Nat) : Prop := ∀ e, s.getLsbD e = true → e < n
/-- What an unfolding under construction keeps to. -/
structure WB (u : Unf) (L A : List ES) : Prop where
  w : WF u
  e : u.es.length ≤ 64
  l : L.length = u.es.length
  a : A.length = u.es.length
  s : ∀ x, x ∈ L → subU x u.es.length
def prodI (u : Unf) (L : List ES) (c : Int) : ES := if 0 ≤ (cAt u c).by_ then L.getD (cAt u c).by_.toNat 0 else 0
end Go.Proofs.YtnklhbfdfddigaaDoor

set_option linter.all false
set_option maxRecDepth 20000
namespace Go.Proofs.YtnklhbfdfddigaaDoor
open Go.RowKit

def allB (u : Unf) (L : List ES) (l : List Int) : ES := l.foldl (fun a c => a ||| prodI u L c) 0
end Go.Proofs.YtnklhbfdfddigaaDoor

set_option linter.all false
set_option maxRecDepth 20000
namespace Go.Proofs.YtnklhbfdfddigaaDoor
open Go.RowKit

def agK (u : Unf) (h : Ev) : Nat → ES
  | 0 => 0
  | k + 1 => if shareI (evAt u (k : Int)) h.pre = true then agK u h k ||| bitU k else agK u h k
def agA (u : Unf) (h : Ev) (A : List ES) : Nat → List ES
  | 0 => A
  | k + 1 => if shareI (evAt u (k : Int)) h.pre = true then (agA u h A k).set k (A.getD k 0 ||| bitU u.es.length) else agA u h A k
theorem agA_len (u : Unf) (h : Ev) (A : List ES) : ∀ k, (agA u h A k).length = A.length
  | 0 => rfl
  | k + 1 => by rw [agA]; split; rw [List.length_set, agA_len u h A k]; exact agA_len u h A k
def addL (u : Unf) (L : List ES) (h : Ev) : List ES := L ++ [allB u L h.pre ||| bitU u.es.length]
def addA (u : Unf) (A : List ES) (h : Ev) : List ES := agA u h A u.es.length ++ [agK u h u.es.length]
end Go.Proofs.YtnklhbfdfddigaaDoor

set_option linter.all false
set_option maxRecDepth 20000
namespace Go.Proofs.YtnklhbfdfddigaaDoor
open Go.RowKit

/-- The events that lie behind some. -/
inductive Rch (u : Unf) (S : List Int) : Nat → Prop
  | base {e : Nat} : (e : Int) ∈ S → e < u.es.length → Rch u S e
  | step {e f : Nat} {c : Int} : Rch u S e → c ∈ evAt u (e : Int) → (cAt u c).by_ = (f : Int) → Rch u S f
/-- No event uses what comes behind it. -/
def Ord (u : Unf) : Prop := ∀ (e : Nat) c, e < u.es.length → c ∈ evAt u (e : Int) → (cAt u c).by_ < e
theorem Rch.lt {u : Unf} {S : List Int} (ho : Ord u) {f : Nat} (h : Rch u S f) : f < u.es.length := by
  induction h with
  | base _ h => exact h
  | step _ hc hb ih => have := ho _ _ ih hc; omega
theorem Rch.one {u : Unf} {S : List Int} {f : Nat} (h : Rch u S f) : ∃ s, s ∈ S ∧ Rch u [s] f := by
  induction h with
  | base h1 h2 => exact ⟨_, h1, .base (List.mem_singleton.2 rfl) h2⟩
  | step _ hc hb ih => obtain ⟨s, hs, hr⟩ := ih; exact ⟨s, hs, hr.step hc hb⟩
theorem Rch.mono {u : Unf} {S T : List Int} {f : Nat} (hST : ∀ s, s ∈ S → 0 ≤ s → s ∈ T) (h : Rch u S f) : Rch u T f := by
  induction h with
  | base h1 h2 => exact .base (hST _ h1 (by omega)) h2
  | step _ hc hb ih => exact ih.step hc hb
/-- What is kept is true. -/
structure Tru (u : Unf) (L A : List ES) : Prop where
  w : WB u L A
  o : Ord u
  d : ∀ e, e ∈ u.es → e.pre.Nodup
  l : ∀ e, e < u.es.length → ∀ f, (L.getD e 0).getLsbD f = true ↔ Rch u [(e : Int)] f
  a : ∀ e, e < u.es.length → ∀ f, (A.getD e 0).getLsbD f = true ↔ (f < u.es.length ∧ e ≠ f ∧ shareI (evAt u (e : Int)) (evAt u (f : Int)) = true)
theorem rch_neg {u : Unf} {x : Int} (hx : x < 0) {f : Nat} : ¬ Rch u [x] f := by
  intro h
  induction h with
  | base h _ => have := List.mem_singleton.1 h; omega
  | step _ _ _ ih => exact ih
theorem prod_bit {u : Unf} {L A : List ES} (hT : Tru u L A) {c : Int} (h0 : 0 ≤ c) (hc : c < u.cs.length) (f : Nat) : (prodI u L c).getLsbD f = true ↔ Rch u [(cAt u c).by_] f := by
  obtain ⟨i, rfl⟩ : ∃ i : Nat, c = i := ⟨c.toNat, by omega⟩
  have hb := hT.w.w.b _ (List.getElem_mem (show i < u.cs.length by omega))
  rw [← cAt_nat] at hb
  unfold prodI
  by_cases h : 0 ≤ (cAt u (i : Int)).by_
  · obtain ⟨j, hj⟩ : ∃ j : Nat, (cAt u (i : Int)).by_ = j := ⟨(cAt u (i : Int)).by_.toNat, by omega⟩
    rw [if_pos h, hj, Int.toNat_natCast]
    exact hT.l j (by omega) f
  · rw [if_neg h]
    constructor
    · intro h; simp at h
    · intro h2; exact absurd h2 (rch_neg (by omega))
theorem fold_bit {u : Unf} {L : List ES} (f : Nat) : ∀ (l : List Int) (a : ES), (l.foldl (fun a c => a ||| prodI u L c) a).getLsbD f = true ↔ (a.getLsbD f = true ∨ ∃ c, c ∈ l ∧ (prodI u L c).getLsbD f = true)
  | [], a => by simp
  | c :: l, a => by
    rw [List.foldl_cons, fold_bit f l, BitVec.getLsbD_or, Bool.or_eq_true]
    simp [or_assoc]
theorem all_bit {u : Unf} {L A : List ES} (hT : Tru u L A) {l : List Int} (hin : ∀ c, c ∈ l → 0 ≤ c ∧ c < u.cs.length) (f : Nat) : (allB u L l).getLsbD f = true ↔ Rch u (byL u l) f := by
  unfold allB
  rw [fold_bit]
  constructor
  · rintro (h | ⟨c, hc, h⟩)
    · simp at h
    · have := (prod_bit hT (hin c hc).1 (hin c hc).2 f).1 h
      exact this.mono fun s hs _ => by rw [List.mem_singleton] at hs; rw [hs]; exact List.mem_map.2 ⟨c, hc, rfl⟩
  · intro h
    obtain ⟨s, hs, hr⟩ := h.one
    obtain ⟨c, hc, rfl⟩ := List.mem_map.1 hs
    exact .inr ⟨c, hc, (prod_bit hT (hin c hc).1 (hin c hc).2 f).2 hr⟩
theorem share_iff {a b : List Int} : shareI a b = true ↔ ∃ x, x ∈ a ∧ x ∈ b := by
  unfold shareI
  rw [List.any_eq_true]
  constructor
  · rintro ⟨x, hx, h⟩
    obtain ⟨y, hy, e⟩ := List.any_eq_true.1 h
    have := of_decide_eq_true e; subst this
    exact ⟨x, hx, hy⟩
  · rintro ⟨x, hx, hy⟩
    exact ⟨x, hx, List.any_eq_true.2 ⟨x, hy, by simp⟩⟩
theorem share_symm {a b : List Int} (h : shareI a b = true) : shareI b a = true := by
  rw [share_iff] at h ⊢
  obtain ⟨x, h1, h2⟩ := h
  exact ⟨x, h2, h1⟩
end Go.Proofs.YtnklhbfdfddigaaDoor

set_option linter.all false
set_option maxRecDepth 20000
namespace Go.Proofs.YtnklhbfdfddigaaDoor
open Go.RowKit

theorem evAt_old {N : Net} {u : Unf} {h : Ev} {e : Nat} (he : e < u.es.length) : evAt (withI N u h) (e : Int) = evAt u (e : Int) := by
  unfold evAt
  rw [Int.toNat_natCast, List.getD_eq_getElem?_getD, List.getD_eq_getElem?_getD]
  show ((u.es ++ [h])[e]?.getD _).pre = _
  rw [List.getElem?_append_left he]
theorem evAt_new {N : Net} {u : Unf} {h : Ev} : evAt (withI N u h) (u.es.length : Int) = h.pre := by
  unfold evAt
  rw [Int.toNat_natCast, List.getD_eq_getElem?_getD]
  show ((u.es ++ [h])[u.es.length]?.getD _).pre = _
  rw [List.getElem?_append_right (Nat.le_refl _), Nat.sub_self]; rfl
theorem cAt_old {N : Net} {u : Unf} {h : Ev} {c : Int} (h0 : 0 ≤ c) (hc : c < u.cs.length) : cAt (withI N u h) c = cAt u c := by
  unfold cAt
  rw [List.getD_eq_getElem?_getD, List.getD_eq_getElem?_getD]
  show ((u.cs ++ _)[c.toNat]?.getD _) = _
  rw [List.getElem?_append_left (by omega)]
theorem es_len {N : Net} {u : Unf} {h : Ev} : (withI N u h).es.length = u.es.length + 1 := by show (u.es ++ [h]).length = _; rw [List.length_append]; rfl
theorem evAt_in {u : Unf} (hw : WF u) {e : Nat} (he : e < u.es.length) : ∀ c, c ∈ evAt u (e : Int) → 0 ≤ c ∧ c < u.cs.length := by
  rw [evAt_nat he]; exact hw.p _ (List.getElem_mem he)
theorem rch_old {N : Net} {u : Unf} {h : Ev} (hw : WF u) (ho : Ord u) {S : List Int} (hS : ∀ s, s ∈ S → s < u.es.length) {f : Nat} : Rch (withI N u h) S f ↔ Rch u S f := by
  constructor
  · intro hr
    induction hr with
    | base h1 h2 => exact .base h1 (by have := hS _ h1; omega)
    | step _ hc hb ih =>
      have hl := ih.lt ho
      rw [evAt_old hl] at hc
      have hi := evAt_in hw hl _ hc
      rw [cAt_old hi.1 hi.2] at hb
      exact ih.step hc hb
  · intro hr
    induction hr with
    | base h1 h2 => exact .base h1 (by rw [es_len]; omega)
    | step h1 hc hb ih =>
      have hl := h1.lt ho
      have hi := evAt_in hw hl _ hc
      exact ih.step (by rw [evAt_old hl]; exact hc) (by rw [cAt_old hi.1 hi.2]; exact hb)
theorem rch_new {N : Net} {u : Unf} {h : Ev} (hw : WF u) (ho : Ord u) (hin : ∀ c, c ∈ h.pre → 0 ≤ c ∧ c < u.cs.length) {f : Nat} : Rch (withI N u h) [(u.es.length : Int)] f ↔ (f = u.es.length ∨ Rch u (byL u h.pre) f) := by
  have hby : ∀ c : Int, 0 ≤ c ∧ c < u.cs.length → (cAt u c).by_ < u.es.length := by
    intro c hc
    obtain ⟨i, rfl⟩ : ∃ i : Nat, c = i := ⟨c.toNat, by omega⟩
    have hi : i < u.cs.length := by omega
    rw [cAt_nat hi]; exact (hw.b _ (List.getElem_mem hi)).2
  constructor
  · intro hr
    induction hr with
    | base h1 h2 => have := List.mem_singleton.1 h1; exact .inl (by omega)
    | @step e f c _ hc hb ih =>
      right
      rcases ih with ih | ih
      · subst ih
        rw [evAt_new] at hc
        have hi := hin _ hc
        rw [cAt_old hi.1 hi.2] at hb
        have := hby c hi
        exact .base (List.mem_map.2 ⟨c, hc, hb⟩) (by omega)
      · have hl := ih.lt ho
        rw [evAt_old hl] at hc
        have hi := evAt_in hw hl _ hc
        rw [cAt_old hi.1 hi.2] at hb
        exact ih.step hc hb
  · rintro (rfl | hr)
    · exact .base (List.mem_singleton.2 rfl) (by rw [es_len]; omega)
    · have h0 : Rch (withI N u h) [(u.es.length : Int)] u.es.length := .base (List.mem_singleton.2 rfl) (by rw [es_len]; omega)
      induction hr with
      | base h1 h2 =>
        obtain ⟨c, hc, hb⟩ := List.mem_map.1 h1
        have hi := hin _ hc
        exact h0.step (by rw [evAt_new]; exact hc) (by rw [cAt_old hi.1 hi.2]; exact hb)
      | step h1 hc hb ih =>
        have hl := h1.lt ho
        have hi := evAt_in hw hl _ hc
        exact ih.step (by rw [evAt_old hl]; exact hc) (by rw [cAt_old hi.1 hi.2]; exact hb)
theorem bitU_get {k f : Nat} (hk : k < 64) : (bitU k).getLsbD f = decide (f = k) := by
  unfold bitU
  rw [BitVec.getLsbD_twoPow]
  by_cases h : k = f
  · subst h; simp [hk]
  · rw [decide_eq_false h, Bool.and_false, decide_eq_false (fun e => h e.symm)]
theorem getD_app_l {α : Type} {L : List α} {x d : α} {e : Nat} (h : e < L.length) : (L ++ [x]).getD e d = L.getD e d := by
  rw [List.getD_eq_getElem?_getD, List.getD_eq_getElem?_getD, List.getElem?_append_left h]
theorem getD_app_r {α : Type} {L : List α} {x d : α} {e : Nat} (h : e = L.length) : (L ++ [x]).getD e d = x := by
  subst h
  rw [List.getD_eq_getElem?_getD, List.getElem?_append_right (Nat.le_refl _), Nat.sub_self]; rfl
theorem agK_bit (u : Unf) (h : Ev) (f : Nat) : ∀ k, k ≤ 64 → ((agK u h k).getLsbD f = true ↔ (f < k ∧ shareI (evAt u (f : Int)) h.pre = true))
  | 0, _ => by simp [agK]
  | k + 1, hk => by
    rw [agK]
    have ih := agK_bit u h f k (by omega)
    split
    · rename_i hs
      rw [BitVec.getLsbD_or, Bool.or_eq_true, bitU_get (by omega), decide_eq_true_eq, ih]
      constructor
      · rintro (⟨h1, h2⟩ | h1)
        · exact ⟨by omega, h2⟩
        · subst h1; exact ⟨by omega, hs⟩
      · rintro ⟨h1, h2⟩
        by_cases e : f = k
        · exact .inr e
        · exact .inl ⟨by omega, h2⟩
    · rename_i hs
      rw [ih]
      constructor
      · rintro ⟨h1, h2⟩; exact ⟨by omega, h2⟩
      · rintro ⟨h1, h2⟩
        refine ⟨?_, h2⟩
        by_cases e : f = k
        · subst e; exact absurd h2 hs
        · omega
theorem agA_at (u : Unf) (h : Ev) (A : List ES) (e : Nat) (he : e < A.length) : ∀ k, (agA u h A k).getD e 0 = if e < k ∧ shareI (evAt u (e : Int)) h.pre = true then A.getD e 0 ||| bitU u.es.length else A.getD e 0
  | 0 => by rw [agA, if_neg (by omega)]
  | k + 1 => by
    rw [agA]
    have ih := agA_at u h A e he k
    split
    · rename_i hs
      rw [List.getD_eq_getElem?_getD, List.getElem?_set]
      by_cases hke : k = e
      · subst hke
        rw [if_pos rfl, if_pos (by rw [agA_len]; exact he), if_pos ⟨by omega, hs⟩]; rfl
      · rw [if_neg hke, ← List.getD_eq_getElem?_getD, ih]
        by_cases h2 : e < k ∧ shareI (evAt u (e : Int)) h.pre = true
        · rw [if_pos h2, if_pos ⟨by omega, h2.2⟩]
        · rw [if_neg h2, if_neg (fun h3 => h2 ⟨by omega, h3.2⟩)]
    · rename_i hs
      rw [ih]
      by_cases h2 : e < k ∧ shareI (evAt u (e : Int)) h.pre = true
      · rw [if_pos h2, if_pos ⟨by omega, h2.2⟩]
      · rw [if_neg h2, if_neg (fun h3 => h2 ⟨by
          by_cases e2 : e = k
          · subst e2; exact absurd h3.2 hs
          · omega, h3.2⟩)]
theorem Tru.zero {N : Net} (hN : NetS N) (m : List UInt8) : Tru ⟨madeI N m, []⟩ [] [] :=
  ⟨⟨(Now.zero hN m).w, Nat.zero_le _, rfl, rfl, fun x hx => absurd hx List.not_mem_nil⟩, fun e c he => absurd he (Nat.not_lt_zero _), fun e he => absurd he List.not_mem_nil, fun e he => absurd he (Nat.not_lt_zero _), fun e he => absurd he (Nat.not_lt_zero _)⟩
theorem Tru.add {N : Net} {u : Unf} {L A : List ES} {h : Ev} (hT : Tru u L A) (hw' : WF (withI N u h)) (he : u.es.length < 64) (hin : ∀ c, c ∈ h.pre → 0 ≤ c ∧ c < u.cs.length) (hnd : h.pre.Nodup) : Tru (withI N u h) (addL u L h) (addA u A h) := by
  have hw := hT.w.w
  have hLl := hT.w.l
  have hAl := hT.w.a
  have hel := es_len (N := N) (u := u) (h := h)
  have hby : ∀ c : Int, 0 ≤ c ∧ c < u.cs.length → (cAt u c).by_ < u.es.length := by
    intro c hc
    obtain ⟨i, rfl⟩ : ∃ i : Nat, c = i := ⟨c.toNat, by omega⟩
    have hi : i < u.cs.length := by omega
    rw [cAt_nat hi]; exact (hw.b _ (List.getElem_mem hi)).2
  have hO : Ord (withI N u h) := by
    intro e c he' hc
    rw [hel] at he'
    by_cases h1 : e < u.es.length
    · rw [evAt_old h1] at hc
      have hi := evAt_in hw h1 _ hc
      rw [cAt_old hi.1 hi.2]
      exact hT.o e c h1 hc
    · have : e = u.es.length := by omega
      subst this
      rw [evAt_new] at hc
      have hi := hin _ hc
      rw [cAt_old hi.1 hi.2]
      exact hby c hi
  have hLb : ∀ e, e < (withI N u h).es.length → ∀ f, ((addL u L h).getD e 0).getLsbD f = true ↔ Rch (withI N u h) [(e : Int)] f := by
    intro e he' f
    rw [hel] at he'
    unfold addL
    by_cases h1 : e < u.es.length
    · rw [getD_app_l (by omega), rch_old hw hT.o (fun s hs => by rw [List.mem_singleton] at hs; omega)]
      exact hT.l e h1 f
    · have : e = u.es.length := by omega
      subst this
      rw [getD_app_r (by omega), rch_new hw hT.o hin, BitVec.getLsbD_or, Bool.or_eq_true, bitU_get he, decide_eq_true_eq, all_bit hT hin, or_comm]
  have hAb : ∀ e, e < (withI N u h).es.length → ∀ f, ((addA u A h).getD e 0).getLsbD f = true ↔ (f < (withI N u h).es.length ∧ e ≠ f ∧ shareI (evAt (withI N u h) (e : Int)) (evAt (withI N u h) (f : Int)) = true) := by
    intro e he' f
    rw [hel] at he' ⊢
    unfold addA
    by_cases h1 : e < u.es.length
    · rw [getD_app_l (by rw [agA_len]; omega), agA_at u h A e (by omega), evAt_old h1]
      have ha := hT.a e h1 f
      by_cases h2 : e < u.es.length ∧ shareI (evAt u (e : Int)) h.pre = true
      · rw [if_pos h2, BitVec.getLsbD_or, Bool.or_eq_true, bitU_get he, decide_eq_true_eq, ha]
        constructor
        · rintro (⟨q1, q2, q3⟩ | rfl)
          · exact ⟨by omega, q2, by rw [evAt_old q1]; exact q3⟩
          · exact ⟨by omega, by omega, by rw [evAt_new]; exact h2.2⟩
        · rintro ⟨q1, q2, q3⟩
          by_cases q : f = u.es.length
          · exact .inr q
          · have q1' : f < u.es.length := by omega
            rw [evAt_old q1'] at q3
            exact .inl ⟨q1', q2, q3⟩
      · rw [if_neg h2, ha]
        constructor
        · rintro ⟨q1, q2, q3⟩
          exact ⟨by omega, q2, by rw [evAt_old q1]; exact q3⟩
        · rintro ⟨q1, q2, q3⟩
          by_cases q : f = u.es.length
          · subst q; rw [evAt_new] at q3; exact absurd ⟨h1, q3⟩ h2
          · have q1' : f < u.es.length := by omega
            rw [evAt_old q1'] at q3
            exact ⟨q1', q2, q3⟩
    · have : e = u.es.length := by omega
      subst this
      rw [getD_app_r (by rw [agA_len]; omega), agK_bit u h f _ (by omega), evAt_new]
      constructor
      · rintro ⟨q1, q2⟩
        exact ⟨by omega, by omega, by rw [evAt_old q1]; exact share_symm q2⟩
      · rintro ⟨q1, q2, q3⟩
        have q1' : f < u.es.length := by omega
        rw [evAt_old q1'] at q3
        exact ⟨q1', share_symm q3⟩
  refine ⟨⟨hw', by omega, ?_, ?_, ?_⟩, hO, ?_, hLb, hAb⟩
  · unfold addL; rw [List.length_append, hel, hLl]; rfl
  · unfold addA; rw [List.length_append, agA_len, hel, hAl]; rfl
  · intro x hx f hf
    obtain ⟨i, hi, rfl⟩ := List.getElem_of_mem hx
    have hi' : i < (withI N u h).es.length := by
      have : (addL u L h).length = u.es.length + 1 := by unfold addL; rw [List.length_append, hLl]; rfl
      omega
    have := (hLb i hi' f).1 (by rw [List.getD_eq_getElem?_getD, List.getElem?_eq_getElem hi]; exact hf)
    exact this.lt hO
  · intro e he'
    rcases List.mem_append.1 he' with h1 | h1
    · exact hT.d e h1
    · rw [List.mem_singleton] at h1; subst h1; exact hnd
end Go.Proofs.YtnklhbfdfddigaaDoor

set_option linter.all false
set_option maxRecDepth 20000
namespace Go.Proofs.YtnklhbfdfddigaaDoor
open Go.RowKit

theorem c1 {q b1 b2 : Bool} (hq : q = ((true || b1) && !b2)) (h : (!b2) = true) : q = true := by rw [hq, h]; rfl
theorem c2 {q b1 b2 : Bool} (hq : q = ((true || b1) && !b2)) (h : (!b2) = false) : q = false := by rw [hq, h]; rfl
end Go.Proofs.YtnklhbfdfddigaaDoor

set_option linter.all false
set_option maxRecDepth 20000
namespace Go.Proofs.YtnklhbfdfddigaaDoor
open Go.RowKit

structure Sig where
  name : List UInt8
  kind : Int
  deriving DecidableEq
structure Lab where
  sig : Int
  up : Bool
  deriving DecidableEq
structure Bur where
  from_ : Int
  inn : List Lab
  out : List Lab
  to_ : Int
  deriving DecidableEq
structure Mach where
  sigs : List Sig
  states : Int
  burs : List Bur
  first : List UInt8
  deriving DecidableEq
abbrev sigD (s : Sig) : List DV := [dS (bstr s.name), dI s.kind]
abbrev sigA (s : Sig) : AV := .agg [aS (bstr s.name), aI s.kind]
abbrev labD (l : Lab) : List DV := [dI l.sig, dT l.up]
abbrev labA (l : Lab) : AV := .agg [aI l.sig, aT l.up]
abbrev sigsL (l : List Sig) : List (List DV) := l.map sigD
abbrev labsL (l : List Lab) : List (List DV) := l.map labD
abbrev vSigs (l : List Sig) : DV := .view 70 2 (sigsL l)
abbrev vLabs (l : List Lab) : DV := .view 39 2 (labsL l)
theorem sigsL_len (l : List Sig) : (sigsL l).length = l.length := List.length_map _
theorem sigsL_get {l : List Sig} {k : Nat} (h : k < l.length) : (sigsL l)[k]? = some (sigD l[k]) := by unfold sigsL; rw [List.getElem?_map, List.getElem?_eq_getElem h]; rfl
theorem labsL_len (l : List Lab) : (labsL l).length = l.length := List.length_map _
theorem labsL_get {l : List Lab} {k : Nat} (h : k < l.length) : (labsL l)[k]? = some (labD l[k]) := by unfold labsL; rw [List.getElem?_map, List.getElem?_eq_getElem h]; rfl
def szSg (s : Sig) : Nat := s.name.length
def szSgs (l : List Sig) : Nat := l.length + sumL szSg l
def szBr (b : Bur) : Nat := b.inn.length + b.out.length
def szBrs (l : List Bur) : Nat := l.length + sumL szBr l
def szMc (m : Mach) : Nat := szSgs m.sigs + szBrs m.burs + m.first.length
structure ArgM (m : Mach) : Prop where
  s : m.sigs.length ≤ 9223372036854775807
  sn : ∀ t, t ∈ m.sigs → t.name.length ≤ 9223372036854775807
  st : okI m.states
  b : m.burs.length ≤ 9223372036854775807
  bl : ∀ t, t ∈ m.burs → t.inn.length ≤ 9223372036854775807 ∧ t.out.length ≤ 9223372036854775807
  f : m.first.length ≤ 9223372036854775807
end Go.Proofs.YtnklhbfdfddigaaDoor

set_option linter.all false
set_option maxRecDepth 20000
namespace Go.Proofs.YtnklhbfdfddigaaDoor
open Go.RowKit

structure SmM (m : Mach) : Prop where
  s : m.sigs.length ≤ 1048576
  sn : ∀ t, t ∈ m.sigs → t.name.length ≤ 1048576
  st : okI m.states
  b : m.burs.length ≤ 1048576
  bl : ∀ t, t ∈ m.burs → t.inn.length ≤ 1048576 ∧ t.out.length ≤ 1048576
  f : m.first.length ≤ 1048576
theorem sumL_mem {α : Type} {wt : α → Nat} : ∀ {l : List α} {x : α}, x ∈ l → wt x ≤ sumL wt l
  | a :: l, x, h => by
    rcases List.mem_cons.1 h with rfl | h
    · simp only [sumL]; omega
    · have := sumL_mem (wt := wt) h; simp only [sumL]; omega
theorem SmM.of {m : Mach} (hm : ArgM m) (h : szMc m ≤ 1048576) : SmM m := by
  have e : szMc m = (m.sigs.length + sumL szSg m.sigs) + (m.burs.length + sumL szBr m.burs) + m.first.length := rfl
  refine ⟨by omega, fun t ht => ?_, hm.st, by omega, fun t ht => ?_, by omega⟩
  · have := sumL_mem (wt := szSg) ht; have e2 : szSg t = t.name.length := rfl; omega
  · have := sumL_mem (wt := szBr) ht; have e2 : szBr t = t.inn.length + t.out.length := rfl; omega
set_option maxHeartbeats 1000000 in
theorem bstr_iff {a b : List UInt8} : bstr a = bstr b ↔ a = b := ⟨bstr_inj, fun h => by rw [h]⟩
end Go.Proofs.YtnklhbfdfddigaaDoor

set_option linter.all false
set_option maxRecDepth 20000
namespace Go.Proofs.YtnklhbfdfddigaaDoor
open Go.RowKit

def allK (f : Nat → Bool) (n : Nat) : Bool := (List.range n).all f
theorem allK_iff {f : Nat → Bool} {n : Nat} : allK f n = true ↔ ∀ i, i < n → f i = true := by simp [allK]
theorem allK_yes {f : Nat → Bool} {n : Nat} (h : ∀ i, i < n → f i = true) : allK f n = true := allK_iff.2 h
theorem allK_no {f : Nat → Bool} {n i : Nat} (hi : i < n) (h : f i = false) : allK f n = false := by
  cases e : allK f n with
  | false => rfl
  | true => have := allK_iff.1 e i hi; rw [h] at this; cases this
def inI (n lo hi : Int) : Bool := decide (lo ≤ n) && decide (n ≤ hi)
theorem inI_iff {n lo hi : Int} : inI n lo hi = true ↔ lo ≤ n ∧ n ≤ hi := by simp [inI]
def isLow (b : UInt8) : Bool := decide (97 ≤ (b.toNat : Int)) && decide ((b.toNat : Int) ≤ 122)
def isDig (b : UInt8) : Bool := decide (48 ≤ (b.toNat : Int)) && decide ((b.toNat : Int) ≤ 57)
def nameC (i : Nat) (b : UInt8) : Bool := isLow b || (isDig b && !decide (i = 0))
def nameB (m : List UInt8) : Bool := allK (fun i => nameC i (m.getD i 0)) m.length && inI m.length 1 6
theorem nameC_iff {i : Nat} {b : UInt8} : nameC i b = true ↔ (97 ≤ (b.toNat : Int) ∧ (b.toNat : Int) ≤ 122) ∨ ((48 ≤ (b.toNat : Int) ∧ (b.toNat : Int) ≤ 57) ∧ i ≠ 0) := by simp [nameC, isLow, isDig]
theorem nameC_no {i : Nat} {b : UInt8} (h : ¬ ((97 ≤ (b.toNat : Int) ∧ (b.toNat : Int) ≤ 122) ∨ ((48 ≤ (b.toNat : Int) ∧ (b.toNat : Int) ≤ 57) ∧ i ≠ 0))) : nameC i b = false := by
  cases e : nameC i b with
  | false => rfl
  | true => exact absurd (nameC_iff.1 e) h
theorem nameB_no {m : List UInt8} {k : Nat} (hk : k < m.length) (h : nameC k (m.getD k 0) = false) : nameB m = false := by unfold nameB; rw [allK_no hk h, Bool.false_and]
theorem nameB_yes {m : List UInt8} (h : ∀ j, j < m.length → nameC j (m.getD j 0) = true) : nameB m = inI m.length 1 6 := by unfold nameB; rw [allK_yes h, Bool.true_and]
def sAt (l : List Sig) (k : Nat) : Sig := l.getD k ⟨[], 0⟩
theorem sAt_nat {l : List Sig} {k : Nat} (h : k < l.length) : sAt l k = l[k] := by unfold sAt; rw [List.getD_eq_getElem?_getD, List.getElem?_eq_getElem h]; rfl
def sigK (l : List Sig) (k : Nat) : Bool := nameB (sAt l k).name && (inI (sAt l k).kind 1 3 && !(l.take k).any (fun y => decide (y.name = (sAt l k).name)))
def sigsB (l : List Sig) : Bool := allK (sigK l) l.length && inI l.length 1 8
theorem sigsB_no {l : List Sig} {k : Nat} (hk : k < l.length) (h : sigK l k = false) : sigsB l = false := by unfold sigsB; rw [allK_no hk h, Bool.false_and]
theorem sigsB_yes {l : List Sig} (h : ∀ j, j < l.length → sigK l j = true) : sigsB l = inI l.length 1 8 := by unfold sigsB; rw [allK_yes h, Bool.true_and]
def lAt (l : List Lab) (k : Nat) : Lab := l.getD k ⟨0, false⟩
theorem lAt_nat {l : List Lab} {k : Nat} (h : k < l.length) : lAt l k = l[k] := by unfold lAt; rw [List.getD_eq_getElem?_getD, List.getElem?_eq_getElem h]; rfl
def bitLb (up : Bool) : UInt8 := bif up then 49 else 48
def turnL (code : List UInt8) : List Lab → Option (List UInt8)
  | [] => some code
  | x :: l => if code.getD x.sig.toNat 0 = bitLb (!x.up) then turnL (code.set x.sig.toNat (bitLb x.up)) l else none
def cAtL (cs : List (List UInt8)) (i : Int) : List UInt8 := cs.getD i.toNat []
def stepB (cs : List (List UInt8)) (b : Bur) : Option (List (List UInt8)) :=
  if cAtL cs b.from_ = [] then some cs else
    match turnL (cAtL cs b.from_) (b.inn ++ b.out) with
    | none => none
    | some nx => if cAtL cs b.to_ ≠ [] ∧ cAtL cs b.to_ ≠ nx then none else some (cs.set b.to_.toNat nx)
/-- A code of bits. -/
def BitC (n : Nat) (c : List UInt8) : Prop := c.length = n ∧ ∀ b, b ∈ c → b = 48 ∨ b = 49
theorem BitC.set {n : Nat} {c : List UInt8} (h : BitC n c) (i : Nat) (up : Bool) : BitC n (c.set i (bitLb up)) := by
  refine ⟨by rw [List.length_set]; exact h.1, fun b hb => ?_⟩
  rcases List.mem_or_eq_of_mem_set hb with h1 | rfl
  · exact h.2 b h1
  · cases up <;> simp [bitLb]
theorem turnL_bit {n : Nat} : ∀ {l : List Lab} {c c' : List UInt8}, BitC n c → turnL c l = some c' → BitC n c'
  | [], c, c', h, e => by simp only [turnL, Option.some.injEq] at e; subst e; exact h
  | x :: l, c, c', h, e => by
    simp only [turnL] at e
    split at e
    · exact turnL_bit (h.set _ _) e
    · cases e
/-- Codes of states: none yet, or one of bits. -/
structure CodesOk (n : Nat) (k : Nat) (cs : List (List UInt8)) : Prop where
  l : cs.length = k
  c : ∀ c, c ∈ cs → c = [] ∨ BitC n c
theorem CodesOk.at {n k : Nat} {cs : List (List UInt8)} (h : CodesOk n k cs) (i : Int) : cAtL cs i = [] ∨ BitC n (cAtL cs i) := by
  unfold cAtL
  rw [List.getD_eq_getElem?_getD]
  cases e : cs[i.toNat]? with
  | none => exact .inl rfl
  | some c => exact h.c c (List.mem_of_getElem? e)
theorem CodesOk.set {n k : Nat} {cs : List (List UInt8)} (h : CodesOk n k cs) (i : Nat) {c : List UInt8} (hc : BitC n c) : CodesOk n k (cs.set i c) := by
  refine ⟨by rw [List.length_set]; exact h.l, fun x hx => ?_⟩
  rcases List.mem_or_eq_of_mem_set hx with h1 | rfl
  · exact h.c x h1
  · exact .inr hc
theorem CodesOk.step {n k : Nat} {cs cs' : List (List UInt8)} {b : Bur} (h : CodesOk n k cs) (e : stepB cs b = some cs') : CodesOk n k cs' := by
  unfold stepB at e
  split at e
  · simp only [Option.some.injEq] at e; subst e; exact h
  · rename_i hne
    split at e
    · cases e
    · rename_i nx hnx
      split at e
      · cases e
      · simp only [Option.some.injEq] at e
        subst e
        have hb := (h.at b.from_).resolve_left hne
        exact h.set _ (turnL_bit hb hnx)
end Go.Proofs.YtnklhbfdfddigaaDoor

