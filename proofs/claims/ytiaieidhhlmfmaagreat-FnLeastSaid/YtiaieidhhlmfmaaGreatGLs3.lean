/- Contracts of the functions of the program and of the reference, each proved by a walk through its code. -/
import Derived.Laws.Small
import Derived.Laws.IdiomCopy
import Derived.Test.YtiaieidhhlmfmaaGreatGLs2
set_option linter.all false
set_option maxRecDepth 20000
namespace Go.Proofs.YtiaieidhhlmfmaaGreat
open Go.RowKit
inductive TRep (w : World) : (Nat → Prop) → DV → Value → Prop
 | val {S : Nat → Prop} {v : Value} : (∀ k, ¬ S k) → okV v → TRep w S (.val v) v
 | nil {S : Nat → Prop} {e sz : Nat} : (∀ k, ¬ S k) → TRep w S (.view e sz []) (.slice none 0 0)
 | view {S : Nat → Prop} {e sz : Nat} {els : List (List DV)} {b cap : Nat} {vs : Array Value} {fz : Nat × Nat} (Ts : Nat → Nat → Prop) : w.heap[b]? = some (.cells vs e fz) → (∀ (i : Nat), i < vs.size → ¬ (fz.1 ≤ i ∧ i < fz.2)) → vs.size = cap * sz → els.length ≤ cap → cap ≤ maxLen → 0 < sz →
   (∀ (i : Nat) (cs : List DV), els[i]? = some cs → cs.length = sz) → (∀ (i : Nat) (cs : List DV) (j : Nat) (d : DV), els[i]? = some cs → cs[j]? = some d → TRep w (Ts (i * sz + j)) d (vs.getD (i * sz + j) undef)) →
   (∀ c, ¬ Ts c b) → (∀ c c' k, Ts c k → Ts c' k → c = c') → (∀ k, S k ↔ k = b ∨ ∃ c, c < els.length * sz ∧ Ts c k) → TRep w S (.view e sz els) (.slice (some ⟨b, 0, none⟩) els.length cap)
theorem TRep.lt {w : World} {S : Nat → Prop} {x : DV} {v : Value} (h : TRep w S x v) : ∀ k, S k → k < w.heap.size := by
 induction h with
 | val h _ => intro k h'; exact absurd h' (h k)
 | nil h => intro k h'; exact absurd h' (h k)
 | @view S e sz els b cap vs fz Ts hb _ _ _ _ hz hr _ _ _ hS ih =>
  intro k hk;rcases (hS k).1 hk with rfl | ⟨c, hc, hk⟩
  ·exact lt_of_block hb
  have h1 : c / sz < els.length := Nat.div_lt_of_lt_mul (by rw [Nat.mul_comm]; exact hc);have h2 : c % sz < sz := Nat.mod_lt _ hz;have e1 := List.getElem?_eq_getElem h1;have h3 := hr _ _ e1;have e2 : c / sz * sz + c % sz = c := Nat.div_add_mod' c sz;have := ih _ _ _ _ e1 (List.getElem?_eq_getElem (by rw [h3]; exact h2)) k;rw [e2] at this;exact this hk
theorem TRep.turn {w w' : World} {S : Nat → Prop} {x : DV} {v : Value} (h : TRep w S x v) : (∀ k, S k → w'.heap[k]? = w.heap[k]?) → TRep w' S x v := by
 induction h with
 | val h0 h => intro _; exact .val h0 h
 | nil h0 => intro _; exact .nil h0
 | @view S e sz els b cap vs fz Ts hb h1 h2 h3 h4 h5 h6 h7 h8 h9 h10 ih =>
  intro hk;refine .view Ts ((hk _ ((h10 _).2 (.inl rfl))).trans hb) h1 h2 h3 h4 h5 h6 (fun i cs j d hi hj => ih i cs j d hi hj (fun k hk' => hk k ((h10 k).2 (.inr ⟨_, ?_, hk'⟩)))) h8 h9 h10;have hi1 := (List.getElem?_eq_some_iff.1 hi).1;have hj1 := (List.getElem?_eq_some_iff.1 hj).1;rw [h6 i cs hi] at hj1;have h := Nat.mul_le_mul_right sz hi1;rw [Nat.succ_mul] at h;omega
theorem TRep.data {w : World} {S : Nat → Prop} {x : DV} {v : Value} (h : TRep w S x v) : DRep S w x v := by
 induction h with
 | val _ h => exact .val h
 | nil _ => exact .nil
 | @view S e sz els b cap vs fz Ts hb h1 h2 h3 h4 h5 h6 h7 h8 h9 h10 ih =>
  refine .view ((h10 _).2 (.inl rfl)) hb h3 h4 (by rw [Nat.zero_add, h2]; exact Nat.le_refl _) h6 (fun i cs j d hi hj => ?_);rw [Nat.zero_add];refine (ih i cs j d hi hj).mono fun k hk => (h10 k).2 (.inr ⟨_, ?_, hk⟩)
  have hi1 := (List.getElem?_eq_some_iff.1 hi).1;have hj1 := (List.getElem?_eq_some_iff.1 hj).1;rw [h6 i cs hi] at hj1;have h := Nat.mul_le_mul_right sz hi1;rw [Nat.succ_mul] at h;omega
theorem TRep.congr {w : World} {S S' : Nat → Prop} {x : DV} {v : Value} (h : TRep w S x v) (he : ∀ k, S k ↔ S' k) : TRep w S' x v := by
 have : S = S' := funext fun k => propext (he k)
 subst this; exact h
def TL (w : World) (S : Nat → Prop) (L : List DV) (V : List Value) : Prop :=
 ∃ Ts : Nat → Nat → Prop, V.length = L.length ∧ (∀ i d v, L[i]? = some d → V[i]? = some v → TRep w (Ts i) d v) ∧ (∀ i j k, Ts i k → Ts j k → i = j) ∧ ∀ k, S k ↔ ∃ i, i < L.length ∧ Ts i k
theorem TL.turn {w w' : World} {S : Nat → Prop} {L : List DV} {V : List Value} (h : TL w S L V) (hk : ∀ k, S k → w'.heap[k]? = w.heap[k]?) : TL w' S L V := by
 obtain ⟨Ts, h1, h2, h3, h4⟩ := h;exact ⟨Ts, h1, fun i d v hd hv => (h2 i d v hd hv).turn fun k hk' => hk k ((h4 k).2 ⟨i, (List.getElem?_eq_some_iff.1 hd).1, hk'⟩), h3, h4⟩
theorem TL.lt {w : World} {S : Nat → Prop} {L : List DV} {V : List Value} (h : TL w S L V) (k : Nat) (hk : S k) : k < w.heap.size := by
 obtain ⟨Ts, h1, h2, h3, h4⟩ := h;obtain ⟨i, hi, hk'⟩ := (h4 k).1 hk;exact (h2 i _ _ (List.getElem?_eq_getElem hi) (List.getElem?_eq_getElem (by omega))).lt k hk'
theorem TL.data {w : World} {S : Nat → Prop} {L : List DV} {V : List Value} (h : TL w S L V) (i : Nat) {d : DV} {v : Value} (hd : L[i]? = some d) (hv : V[i]? = some v) : DRep S w d v := by
 obtain ⟨Ts, h1, h2, h3, h4⟩ := h;exact (h2 i d v hd hv).data.mono fun k hk => (h4 k).2 ⟨i, (List.getElem?_eq_some_iff.1 hd).1, hk⟩
theorem TL.len {w : World} {S : Nat → Prop} {L : List DV} {V : List Value} (h : TL w S L V) : V.length = L.length := h.choose_spec.1
theorem TL.nil (w : World) : TL w (fun _ => False) [] [] := ⟨fun _ _ => False, rfl, fun i d v h => by simp at h, fun _ _ _ h => h.elim, fun k => ⟨fun h => h.elim, fun ⟨_, h, _⟩ => by simp at h⟩⟩
theorem TL.one {w : World} {S : Nat → Prop} {d : DV} {v : Value} (h : TRep w S d v) : TL w S [d] [v] := by
 refine ⟨fun i k => i = 0 ∧ S k, rfl, fun i d' v' hd hv => ?_, fun i j k h1 h2 => h1.1.trans h2.1.symm, fun k => ⟨fun h => ⟨0, by simp, rfl, h⟩, fun ⟨_, _, h⟩ => h.2⟩⟩;cases i with
 | zero =>
  simp at hd hv; subst hd; subst hv;exact h.congr fun k => by simp
 | succ i => simp at hd
theorem TL.app {w : World} {S S' : Nat → Prop} {L L' : List DV} {V V' : List Value} (h : TL w S L V) (h' : TL w S' L' V') (hd : ∀ k, S k → ¬ S' k) : TL w (fun k => S k ∨ S' k) (L ++ L') (V ++ V') := by
 obtain ⟨Ts, h1, h2, h3, h4⟩ := h;obtain ⟨Ts', g1, g2, g3, g4⟩ := h';refine ⟨fun i k => (i < L.length ∧ Ts i k) ∨ (L.length ≤ i ∧ i < L.length + L'.length ∧ Ts' (i - L.length) k), by simp [h1, g1], fun i d v hd' hv => ?_, fun i j k hi hj => ?_, fun k => ⟨fun h => ?_, fun h => ?_⟩⟩
 ·by_cases hi : i < L.length
  ·rw [List.getElem?_append_left hi] at hd';rw [List.getElem?_append_left (by omega)] at hv;exact (h2 i d v hd' hv).congr fun k => by simp [hi, Nat.not_le.2 hi]
  have hlt := (List.getElem?_eq_some_iff.1 hd').1;rw [List.length_append] at hlt;rw [List.getElem?_append_right (by omega)] at hd' hv;rw [h1] at hv;exact (g2 _ d v hd' hv).congr fun k => by simp [hi, hlt, Nat.le_of_not_lt hi]
 ·rcases hi with ⟨a1, a2⟩ | ⟨a1, a2, a3⟩ <;> rcases hj with ⟨b1, b2⟩ | ⟨b1, b2, b3⟩
  ·exact h3 i j k a2 b2
  ·exact absurd ((g4 k).2 ⟨_, by omega, b3⟩) (hd k ((h4 k).2 ⟨i, a1, a2⟩))
  ·exact absurd ((g4 k).2 ⟨_, by omega, a3⟩) (hd k ((h4 k).2 ⟨j, b1, b2⟩))
  have := g3 _ _ k a3 b3; omega
 ·rcases h with h | h
  ·obtain ⟨i, hi, hk⟩ := (h4 k).1 h;exact ⟨i, by rw [List.length_append]; omega, .inl ⟨hi, hk⟩⟩
  obtain ⟨i, hi, hk⟩ := (g4 k).1 h;refine ⟨L.length + i, by rw [List.length_append]; omega, .inr ⟨by omega, by omega, ?_⟩⟩;rw [show L.length + i - L.length = i by omega]; exact hk
 obtain ⟨i, _, ⟨a1, a2⟩ | ⟨a1, a2, a3⟩⟩ := h
 ·exact .inl ((h4 k).2 ⟨i, a1, a2⟩)
 exact .inr ((g4 k).2 ⟨_, by omega, a3⟩)
theorem TL.cons {w : World} {S S' : Nat → Prop} {d : DV} {v : Value} {L : List DV} {V : List Value} (h : TRep w S d v) (h' : TL w S' L V) (hd : ∀ k, S k → ¬ S' k) : TL w (fun k => S k ∨ S' k) (d :: L) (v :: V) := (TL.one h).app h' hd
def TX (w : World) (S : Nat → Prop) (c : Nat) (L : List DV) (V : List Value) : Prop :=
 ∃ Ts : Nat → Nat → Prop, V.length = L.length ∧ (∀ i d v, i ≠ c → L[i]? = some d → V[i]? = some v → TRep w (Ts i) d v) ∧ (∀ i j k, Ts i k → Ts j k → i = j) ∧ (∀ k, ¬ Ts c k) ∧ ∀ k, S k ↔ ∃ i, i < L.length ∧ Ts i k
theorem TX.turn {w w' : World} {S : Nat → Prop} {c : Nat} {L : List DV} {V : List Value} (h : TX w S c L V) (hk : ∀ k, S k → w'.heap[k]? = w.heap[k]?) : TX w' S c L V := by
 obtain ⟨Ts, h1, h2, h3, h4, h5⟩ := h;exact ⟨Ts, h1, fun i d v hi hd hv => (h2 i d v hi hd hv).turn fun k hk' => hk k ((h5 k).2 ⟨i, (List.getElem?_eq_some_iff.1 hd).1, hk'⟩), h3, h4, h5⟩
theorem TL.split {w : World} {S : Nat → Prop} {L : List DV} {V : List Value} (h : TL w S L V) {c : Nat} {d : DV} {v : Value} (hd : L[c]? = some d) (hv : V[c]? = some v) : ∃ S1 S2, TRep w S1 d v ∧ TX w S2 c L V ∧ (∀ k, S1 k → ¬ S2 k) ∧ ∀ k, S k ↔ S1 k ∨ S2 k := by
 obtain ⟨Ts, h1, h2, h3, h4⟩ := h;have hlt := (List.getElem?_eq_some_iff.1 hd).1;refine ⟨Ts c, fun k => ∃ i, i < L.length ∧ i ≠ c ∧ Ts i k, h2 c d v hd hv, ⟨fun i k => i ≠ c ∧ Ts i k, h1, fun i d v hi hd hv => ?_, fun i j k hi hj => h3 i j k hi.2 hj.2, fun k hk => hk.1 rfl, fun k => Iff.rfl⟩, fun k hk ⟨i, _, hi, hk'⟩ => hi (h3 i c k hk' hk), fun k => ⟨fun hk => ?_, fun hk => ?_⟩⟩
 ·exact (h2 i d v hd hv).congr fun k => by simp [hi]
 ·obtain ⟨i, hi, hk⟩ := (h4 k).1 hk
  by_cases hic : i = c
  ·subst hic; exact .inl hk
  exact .inr ⟨i, hi, hic, hk⟩
 rcases hk with hk | ⟨i, hi, _, hk⟩
 ·exact (h4 k).2 ⟨c, hlt, hk⟩
 exact (h4 k).2 ⟨i, hi, hk⟩
theorem TX.join {w : World} {S1 S2 : Nat → Prop} {c : Nat} {L : List DV} {V : List Value} {d : DV} {v : Value} (h : TX w S2 c L V) (h1 : TRep w S1 d v) (hc : c < L.length) (hv : V[c]? = some v) (hd : ∀ k, S1 k → ¬ S2 k) : TL w (fun k => S1 k ∨ S2 k) (L.set c d) V := by
 obtain ⟨Ts, g1, g2, g3, g4, g5⟩ := h;refine ⟨fun i k => (i = c ∧ S1 k) ∨ (i < L.length ∧ Ts i k), by simpa using g1, fun i d' v' hd' hv' => ?_, fun i j k hi hj => ?_, fun k => ⟨fun hk => ?_, fun hk => ?_⟩⟩
 ·by_cases hi : c = i
  ·subst hi;rw [List.getElem?_set_self hc] at hd';rw [hv] at hv';simp only [Option.some.injEq] at hd' hv';subst hd'; subst hv';exact h1.congr fun k => by simp [g4]
  rw [List.getElem?_set_ne hi] at hd';have hl := (List.getElem?_eq_some_iff.1 hd').1;have hi' : ¬ i = c := fun e => hi e.symm
  exact (g2 i d' v' hi' hd' hv').congr fun k => by simp [hi', hl]
 ·rcases hi with ⟨a1, a2⟩ | ⟨a1, a2⟩ <;> rcases hj with ⟨b1, b2⟩ | ⟨b1, b2⟩
  ·rw [a1, b1]
  ·exact absurd ((g5 k).2 ⟨j, b1, b2⟩) (hd k a2)
  ·exact absurd ((g5 k).2 ⟨i, a1, a2⟩) (hd k b2)
  exact g3 i j k a2 b2
 ·rcases hk with hk | hk
  ·exact ⟨c, by simpa using hc, .inl ⟨rfl, hk⟩⟩
  obtain ⟨i, hi, hk⟩ := (g5 k).1 hk;exact ⟨i, by simpa using hi, .inr ⟨hi, hk⟩⟩
 obtain ⟨i, _, ⟨_, hk⟩ | ⟨hi, hk⟩⟩ := hk
 ·exact .inl hk
 exact .inr ((g5 k).2 ⟨i, hi, hk⟩)
section
variable {P : Program} [PT P] {C : Ctx} {Q : Exit → ASt → Prop} {s : ASt} {ops : Array Oper} {U U' : Nat → Prop} {a : Act} {w : World} {m : Nat → Option (Option Nat × Nat)}
def mNew (m : Nat → Option (Option Nat × Nat)) (new : List (Nat × Chunk)) (pm : Nat → Option Nat × Nat) (j : Nat) : Option (Option Nat × Nat) :=
 match getL j new with
 | some _ => some (pm j)
 | none => m j
theorem mNew_some {new : List (Nat × Chunk)} {pm : Nat → Option Nat × Nat} {j : Nat} {c : Chunk} (h : getL j new = some c) : mNew m new pm j = some (pm j) := by simp [mNew, h]
theorem mNew_none {new : List (Nat × Chunk)} {pm : Nat → Option Nat × Nat} {j : Nat} (h : getL j new = none) : mNew m new pm j = m j := by simp [mNew, h]
theorem RelM.repack (h : RelM C U s a w m) {t : ASt} (new : List (Nat × Chunk)) (pm : Nat → Option Nat × Nat) (gone : List Nat) (hn : t.n = s.n)
  (ht : ∀ id c, t.chunk id = some c → getL id new = some c ∨ (getL id new = none ∧ id ∉ gone ∧ s.chunk id = some c))
  (hU : ∀ id c, getL id new = some c → U id ∨ m id = some (pm id))
  (hU' : ∀ j, U' j → U j ∧ getL j new = none)
  (hocc : ∀ id c b, getL id new = some c → occ (pm id) c b → ∃ j c0 q, j ∈ gone ∧ s.chunk j = some c0 ∧ m j = some q ∧ occ q c0 b)
  (hdis : ∀ id id' c c' b, getL id new = some c → getL id' new = some c' → occ (pm id) c b → occ (pm id') c' b → id = id')
  (hrep : ∀ F', (∀ k, Fz C m s w k → F' k) → ∀ id c, getL id new = some c → CRep (mNew m new pm) F' w (pm id) c)
  (hsl : MLe m (mNew m new pm) → ∀ F', (∀ k, Fz C m s w k → F' k) → ∀ i, ARep (mNew m new pm) F' w (t.get i) (a.tmps.getD i undef)) : RelM C U' t a w (mNew m new pm) := by
 have hle : MLe m (mNew m new pm) := by
  intro j p hp;cases hg : getL j new with
  | none => rw [mNew_none hg]; exact hp
  | some c =>
   rcases hU j c hg with h1 | h1
   ·rw [h.un j h1] at hp; cases hp
   rw [hp] at h1; rw [mNew_some hg, h1]
 have hF : ∀ k, Fz C m s w k → Fz C (mNew m new pm) t w k := by
  intro k hk;refine ⟨hk.1, hk.2.1, fun id c p h1 h2 ho => ?_⟩;rcases ht id c h1 with g | ⟨g, _, g3⟩
  ·rw [mNew_some g] at h2;obtain rfl : pm id = p := by simpa using h2
   obtain ⟨j, c0, q, _, q2, q3, q4⟩ := hocc id c k g ho;exact hk.2.2 j c0 q q2 q3 q4
  rw [mNew_none g] at h2;exact hk.2.2 id c p g3 h2 ho
 refine ⟨h.fr, h.fin, by rw [hn]; exact h.sz, hsl hle _ hF, fun id c h1 => ?_, fun id id' c c' p p' h1 h2 hp hp' b hb hb' => ?_, fun j hj => ?_, h.defers, fun id p hp => hle id p (h.m0 id p hp), h.m0k⟩
 ·rcases ht id c h1 with g | ⟨g, _, g3⟩
  ·refine ⟨pm id, mNew_some g, hrep _ hF id c g, fun b hb => ?_⟩;obtain ⟨j, c0, q, _, q2, q3, q4⟩ := hocc id c b g hb;obtain ⟨q', hq', _, hl⟩ := h.ch j c0 q2;rw [q3] at hq';obtain rfl : q = q' := by simpa using hq'
   exact hl b q4
  obtain ⟨p, hp, hr, hl⟩ := h.ch id c g3;exact ⟨p, hle _ _ hp, hr.turn hle (fun k hk _ => ⟨hF k hk, rfl⟩) (fun _ _ => rfl), hl⟩
 ·rcases ht id c h1 with g | ⟨g, g2, g3⟩ <;> rcases ht id' c' h2 with g' | ⟨g', g2', g3'⟩
  ·rw [mNew_some g] at hp;rw [mNew_some g'] at hp';obtain rfl : pm id = p := by simpa using hp
   obtain rfl : pm id' = p' := by simpa using hp'
   exact hdis id id' c c' b g g' hb hb'
  ·rw [mNew_some g] at hp;rw [mNew_none g'] at hp';obtain rfl : pm id = p := by simpa using hp
   obtain ⟨j, c0, q, q1, q2, q3, q4⟩ := hocc id c b g hb;have := h.inj j id' c0 c' q p' q2 g3' q3 hp' b q4 hb';subst this;exact absurd q1 g2'
  ·rw [mNew_none g] at hp;rw [mNew_some g'] at hp';obtain rfl : pm id' = p' := by simpa using hp'
   obtain ⟨j, c0, q, q1, q2, q3, q4⟩ := hocc id' c' b g' hb';have := h.inj j id c0 c q p q2 g3 q3 hp b q4 hb;subst this;exact absurd q1 g2
  rw [mNew_none g] at hp;rw [mNew_none g'] at hp';exact h.inj id id' c c' p p' g3 g3' hp hp' b hb hb'
 obtain ⟨h1, h2⟩ := hU' j hj;rw [mNew_none h2];exact h.un j h1
theorem CRep.predAt {F : Nat → Prop} {p : Option Nat × Nat} {S : Nat → Prop} {K : World → Prop} (h : CRep m F w p (.pred S K)) : p = (none, 0) ∧ K w ∧ (∀ w w', (∀ k, S k → w'.heap[k]? = w.heap[k]?) → K w → K w') ∧ ∀ k, S k → k < w.heap.size := by
 cases h with
 | pred h1 h2 h3 => exact ⟨rfl, h1, h2, h3⟩
theorem occ_pred' {S : Nat → Prop} {K : World → Prop} {k : Nat} (h : occ (none, 0) (.pred S K) k) : S k := by
 rcases h with h | h
 ·cases h
 exact h
theorem Weak.join (id1 id2 : Nat) {S1 S2 : Nat → Prop} {K1 K2 : World → Prop} (K : World → Prop) (h1 : s.chunk id1 = some (.pred S1 K1)) (h2 : s.chunk id2 = some (.pred S2 K2)) (hne : Nat.beq id1 id2 = false)
  (hK : ∀ w, K1 w → K2 w → (∀ k, S1 k → ¬ S2 k) → K w) (hcl : ∀ w w', (∀ k, S1 k ∨ S2 k → w'.heap[k]? = w.heap[k]?) → K w → K w') :
  Weak C s { n := s.n, nx := s.nx, sl := s.sl, ch := (id1, some (.pred (fun k => S1 k ∨ S2 k) K)) :: (id2, none) :: s.ch } := by
 refine ⟨?_⟩;rintro a w ⟨m, hR⟩;have hne : id1 ≠ id2 := Nat.ne_of_beq_eq_false hne;obtain ⟨p1, q1, c1, l1⟩ := hR.ch id1 _ h1;obtain ⟨p2, q2, c2, l2⟩ := hR.ch id2 _ h2;obtain ⟨rfl, k1, cl1, lt1⟩ := c1.predAt;obtain ⟨rfl, k2, cl2, lt2⟩ := c2.predAt;have hd : ∀ k, S1 k → ¬ S2 k := fun k g1 g2 => hne (hR.inj id1 id2 _ _ _ _ h1 h2 q1 q2 k (.inr g1) (.inr g2))
 refine ⟨_, hR.repack (U' := fun i => s.nx ≤ i) [(id1, .pred (fun k => S1 k ∨ S2 k) K)] (fun _ => (none, 0)) [id1, id2] rfl (fun i c h => ?_) (fun i c h => .inr ?_) (fun i hi => ⟨hi, ?_⟩) (fun i c b h hb => ?_) (fun i i' c c' b h h' _ _ => ?_) (fun F' _ i c h => ?_) (fun hle F' hF i => (hR.sl i).turn hle (fun k hk _ => ⟨hF k hk, rfl⟩))⟩
 ·change (getL i (_ :: _ :: _)).getD none = _ at h
  rw [getL_cons] at h;rw [getL_cons]
  split at h
  ·rename_i ei; rw [if_pos ei]; exact .inl (by simpa using h)
  rename_i ei;rw [if_neg ei];rw [getL_cons] at h
  split at h
  ·cases h
  rename_i ei'; exact .inr ⟨rfl, by simp [ei, ei'], h⟩
 ·obtain ⟨rfl, _⟩ := getL_one h; exact q1
 ·rw [getL_cons]
  split
  ·rename_i ei; subst ei; have := hR.un i hi; rw [q1] at this; cases this
  rfl
 ·obtain ⟨rfl, rfl⟩ := getL_one h;rcases occ_pred' hb with g | g
  ·exact ⟨i, _, _, by simp, h1, q1, .inr g⟩
  exact ⟨id2, _, _, by simp, h2, q2, .inr g⟩
 ·rw [(getL_one h).1, (getL_one h').1]
 obtain ⟨rfl, rfl⟩ := getL_one h;exact .pred (hK w k1 k2 hd) hcl (fun k hk => hk.elim (lt1 k) (lt2 k))
theorem Weak.cons (id : Nat) {S : Nat → Prop} {K : World → Prop} (K' : World → Prop) (h0 : s.chunk id = some (.pred S K)) (hK : ∀ w, K w → K' w) (hcl : ∀ w w', (∀ k, S k → w'.heap[k]? = w.heap[k]?) → K' w → K' w') :
  Weak C s { n := s.n, nx := s.nx, sl := s.sl, ch := (id, some (.pred S K')) :: s.ch } := by
 refine ⟨?_⟩;rintro a w ⟨m, hR⟩;obtain ⟨p1, q1, c1, l1⟩ := hR.ch id _ h0;obtain ⟨rfl, k1, cl1, lt1⟩ := c1.predAt;refine ⟨_, hR.repack (U' := fun i => s.nx ≤ i) [(id, .pred S K')] (fun _ => (none, 0)) [id] rfl (fun i c h => ?_) (fun i c h => .inr ?_) (fun i hi => ⟨hi, ?_⟩) (fun i c b h hb => ?_) (fun i i' c c' b h h' _ _ => ?_) (fun F' _ i c h => ?_) (fun hle F' hF i => (hR.sl i).turn hle (fun k hk _ => ⟨hF k hk, rfl⟩))⟩
 ·change (getL i (_ :: _)).getD none = _ at h
  rw [getL_cons] at h;rw [getL_cons]
  split at h
  ·rename_i ei; rw [if_pos ei]; exact .inl (by simpa using h)
  rename_i ei;rw [if_neg ei];exact .inr ⟨rfl, by simpa using ei, h⟩
 ·obtain ⟨rfl, _⟩ := getL_one h; exact q1
 ·rw [getL_cons]
  split
  ·rename_i ei; subst ei; have := hR.un i hi; rw [q1] at this; cases this
  rfl
 ·obtain ⟨rfl, rfl⟩ := getL_one h;exact ⟨_, _, _, by simp, h0, q1, .inr (occ_pred' hb)⟩
 ·rw [(getL_one h).1, (getL_one h').1]
 obtain ⟨rfl, rfl⟩ := getL_one h;exact .pred (hK w k1) hcl lt1
end
section
variable {P : Program} [PT P] {C : Ctx} {s : ASt}
def DTo (c d : DV) : Prop := ∀ (F : Nat → Prop) (w : World) (v : Value), DRep F w c v → DRep F w d v
theorem DTo.refl (d : DV) : DTo d d := fun _ _ _ h => h
theorem DTo.nil {e sz : Nat} : DTo (.val (.slice none 0 0)) (.view e sz []) := fun F w v h => by
 cases h;exact .nil
end
theorem ownl {α : Type} (l : List α) (f : α → List DV) : l.length ≤ (l.map f).length := Nat.le_of_eq (List.length_map _).symm
theorem ownt {α : Type} (l : List α) (f : α → List DV) : (l.map f).take l.length = l.map f := List.take_of_length_le (Nat.le_of_eq (List.length_map _))
section
variable {P : Program} [PT P] {s : ASt} {dst : Option Nat} {ty : Nat} {pos : String} {af : Array Edge} {gd : Option (Nat × Bool)} {x y : Operand} {f t : Nat}
theorem g_slice_part {e n bt sz id k l h o : Nat} {zs : List ZK} {te : TS} {lo hi : Option Operand} (ht : PT.ty P t = some ⟨.slice e, n, bt, zs⟩) (he : PT.ty P e = some te) (hs : te.size = sz) {els : List (List DV)} {e' : Nat} (hx : s.ev x = .own id k) (hc : s.chunk id = some (.arr e' sz els)) (hlo : OptEv s lo 0 l) (hhi : OptEv s hi k h) (h1 : l ≤ h) (h2 : h ≤ els.length) (ho : l * sz = o) {q : Nat} (hq : h - l = q) :
  GOp P [id] s ⟨dst, .slice t x lo hi none, ty, pos, af, gd⟩ (.part id o q) := by
 subst ho hq;refine ⟨fun s' ha C U a w m hR => ?_⟩;have hv := hR.ev x;rw [ha.2.1 x (by simp [Op.operands]), hx] at hv;have hc' : s'.chunk id = some (.arr e' sz els) := by rw [ha.2.2 id (by simp)]; exact hc
 have olo := optEv_run ha hR hlo (by rintro x rfl; simp [Op.operands]);have ohi := optEv_run ha hR hhi (by rintro x rfl; cases lo <;> simp [Op.operands]);generalize hvv : a.eval x = v at hv;cases hv with
 | own hp h0 =>
  rename_i cap b
  have hle : els.length ≤ cap ∧ (0 < els.length → ∃ k, b = some k) := by
   cases hR.chunkAt hc' hp with
   | arr _ _ _ h _ => exact ⟨h, fun _ => ⟨_, rfl⟩⟩
   | nil => simp
  have hb := run_bounds (P := P) (isS := true) (len := k) (cap := cap) (mx := none) (l := l) (mm := cap) olo ohi (.inl ⟨rfl, rfl⟩) h1 (by omega) (Nat.le_refl _) w;refine ⟨_, ?_, .part (b := b) (cap := cap) (a := if cap = l then b.map (fun b => ⟨b, 0, none⟩) else (b.map (fun b => (⟨b, 0, none⟩ : Addr))).map (·.add (l * sz))) (c := cap - l) hp (fun hpos => ?_)⟩
  ·simp only [execOp, Sem.run_bind, hvv, Option.map_none, run_sliceS ht he hs hb, Result.andThen_ok, Sem.run_pure]
  obtain ⟨q, rfl⟩ := hle.2 (by omega);refine ⟨q, rfl, ?_⟩;rw [if_neg (by omega)];simp [addr_add]
theorem g_len_part {n bt e id o l : Nat} {zs : List ZK} (ht : PT.ty P t = some ⟨.slice e, n, bt, zs⟩) (h : s.ev x = .part id o l) (hl : l ≤ maxLen) : GOp P [] s ⟨dst, .call { callee := .builtin .len, args := #[x], argTypes := #[t] }, ty, pos, af, gd⟩ (aI (l : Int)) := by
 refine ⟨fun s' ha C U a w m hR => ?_⟩;have hx := hR.ev x;rw [ha.2.1 x (by simp [Op.operands, Call.operands]), h] at hx;generalize hv : a.eval x = v at hx;cases hx with
 | part hp h0 =>
  rename_i cap c b a;refine ⟨.int .i64 (l : Int), ?_, .d (.val (ok_len hl))⟩;simp [execOp, resolve, invoke, builtin, hv, run_len_slice w t ty a l c (elem_slice (PT.slice ht)), goInt]
end
section
variable {P : Program} [PT P] {s : ASt} {dst : Option Nat} {ty : Nat} {pos : String} {af : Array Edge} {gd : Option (Nat × Bool)} {x y : Operand} {f t : Nat}
theorem g_slice3_dead {e n bt sz id k l h m0 : Nat} {zs : List ZK} {te : TS} {lo hi mx : Operand} {I J L : Int} (ht : PT.ty P t = some ⟨.slice e, n, bt, zs⟩) (he : PT.ty P e = some te) (hs : te.size = sz) {els : List (List DV)} {e' : Nat} (hx : s.ev x = .own id k) (hc : s.chunk id = some (.arr e' sz els))
  (hlo : s.ev lo = aI I) (hI : I = (l : Int)) (hhi : s.ev hi = aI J) (hJ : J = (h : Int)) (hmx : s.ev mx = aI L) (hL : L = (m0 : Int)) (h1 : l ≤ h) (h2 : h ≤ m0) (h3 : m0 ≤ els.length) :
  GOp P [id] s ⟨dst, .slice t x (some lo) (some hi) (some mx), ty, pos, af, gd⟩ .dead := by
 subst hI hJ hL;refine ⟨fun s' ha C U a w m hR => ?_⟩;have hv := hR.ev x;rw [ha.2.1 x (by simp [Op.operands]), hx] at hv;have hc' : s'.chunk id = some (.arr e' sz els) := by rw [ha.2.2 id (by simp)]; exact hc
 have olo := hR.ev lo;rw [ha.2.1 lo (by simp [Op.operands]), hlo] at olo;have ohi := hR.ev hi;rw [ha.2.1 hi (by simp [Op.operands]), hhi] at ohi;have omx := hR.ev mx;rw [ha.2.1 mx (by simp [Op.operands]), hmx] at omx;generalize hvv : a.eval x = v at hv;cases hv with
 | own hp h0 =>
  rename_i cap b
  have hle : els.length ≤ cap := by
   cases hR.chunkAt hc' hp with
   | arr _ _ _ h _ => exact h
   | nil => simp
  have hb := run_bounds (P := P) (isS := true) (len := k) (cap := cap) (lo := some (a.eval lo)) (hi := some (a.eval hi)) (mx := some (a.eval mx)) (l := l) (h := h) (mm := m0) (.inr (by rw [olo.val_eq.1])) (.inr (by rw [ohi.val_eq.1])) (.inr ⟨by rw [omx.val_eq.1], by simp⟩) h1 h2 (by omega) w;refine ⟨.slice (if m0 = l then b.map (fun b => (⟨b, 0, none⟩ : Addr)) else (b.map (fun b => (⟨b, 0, none⟩ : Addr))).map (·.add (l * sz))) (h - l) (m0 - l), ?_, .dead⟩;simp only [execOp, Sem.run_bind, hvv, Option.map_some, run_sliceS ht he hs hb, Result.andThen_ok, Sem.run_pure]
theorem h_appendIn {tx e e2 n bt n2 bt2 id sz i k : Nat} {zs zs2 : List ZK} {te : TS} {els new : List (List DV)} {ids2 : List Nat} {e' : Nat} (ht : PT.ty P t = some ⟨.slice e, n, bt, zs⟩) (htx : PT.ty P tx = some ⟨.slice e2, n2, bt2, zs2⟩) (he : PT.ty P e = some te) (hs : te.size = sz) (hx : s.ev x = .own id i) (hc : s.chunk id = some (.arr e' sz els)) (harg : AppArg s y sz new ids2) (hne : 0 < els.length) (hik : i + new.length ≤ els.length) (hk : i + new.length = k) :
  NOp P (id :: ids2) s ⟨dst, .call { callee := .builtin .append, args := #[x, y], argTypes := #[t, tx] }, ty, pos, af, gd⟩ f ⟨.own id k, [(id, some (.arr e' sz (els.take i ++ new ++ els.drop (i + new.length))))]⟩ := by
 subst hk;refine ⟨fun s' hag C U U' a w m hR hU hU' hd K Q hK => ?_⟩;have hc' : s'.chunk id = some (.arr e' sz els) := by rw [hag.2.2 id (by simp)]; exact hc
 have hxr := hR.ev x;rw [hag.2.1 x (by simp [Op.operands, Call.operands]), hx] at hxr;obtain ⟨vs, hv⟩ := harg.rows (hag.2.1 y (by simp [Op.operands, Call.operands])) (fun j hj => hag.2.2 j (List.mem_cons_of_mem _ hj)) hR;obtain ⟨p, hp, hC, hloc⟩ := hR.ch id _ hc';obtain ⟨i0, _, _, hi0, _, _, hsz0, _⟩ := PT.facts he;have hinfo : i0.size = sz := by rw [hsz0]; exact hs
 have hsrc : Src P i0.size tx (a.eval y) new.length vs w := by rw [hinfo]; exact src_of hv (PT.slice htx)
 obtain ⟨_, hvl, hone, hrep, hrows⟩ := hv;generalize hvx : a.eval x = xv at hxr;cases hC with
 | nil hz0 => simp at hne
 | arr hb hf hsz hl hm h0 hrow hel =>
  rename_i b cap arr fz;cases hxr with
  | own hp' hn0 =>
   rw [hp] at hp';simp only [Option.some.injEq, Prod.mk.injEq] at hp';obtain ⟨q1, q2⟩ := hp';subst q1 q2;have hin : (i + new.length) * sz ≤ arr.size := by rw [hsz]; exact Nat.mul_le_mul_right _ (by omega)
   rw [Nat.add_mul] at hin
   have hrun := run_append_room_src (P := P) w t tx ty e i0 (PT.slice ht) hi0 b 0 i cap (a.eval y) new.length vs hsrc (by omega) (fun j hj => by rw [hinfo, Nat.zero_add, cell_getD hb (by omega)]; rfl) (fun j hj => by
    rw [hinfo, Nat.zero_add];have := hf (i * sz + j) (by omega);simp only [World.frozen?, hb]
    simpa using this)
   rw [hinfo, Nat.zero_add] at hrun
   have hg : ∀ q, (setSeg arr (i * sz) vs).getD q undef = if i * sz ≤ q ∧ q < i * sz + new.length * sz then vs.getD (q - i * sz) undef else arr.getD q undef := by
    intro q;rw [setSeg_get _ _ _ (by omega) q, hvl]
   have hlen : (els.take i ++ new ++ els.drop (i + new.length)).length = els.length := by simp; omega
   have hat : ∀ (q : Nat) (row : List DV), (els.take i ++ new ++ els.drop (i + new.length))[q]? = some row → (i ≤ q ∧ q < i + new.length ∧ new[q - i]? = some row) ∨ ((q < i ∨ i + new.length ≤ q) ∧ els[q]? = some row) := by
    intro q row hq;rcases Nat.lt_or_ge q i with h2 | h2
    ·right;rw [List.append_assoc, List.getElem?_append_left (by simp; omega), List.getElem?_take, if_pos h2] at hq;exact ⟨.inl h2, hq⟩
    rcases Nat.lt_or_ge q (i + new.length) with h3 | h3
    ·left;rw [List.getElem?_append_left (by simp; omega), List.getElem?_append_right (by simp; omega)] at hq;refine ⟨h2, h3, ?_⟩;rw [← hq]; congr 1; simp; omega
    right;rw [List.getElem?_append_right (by simp; omega), List.getElem?_drop] at hq;refine ⟨.inr h3, ?_⟩;rw [← hq]; congr 1; simp; omega
   have hR' := hR.turned (i := dst) (r := .own id (i + new.length)) (v := .slice (some ⟨b, 0, none⟩) (i + new.length) cap) (w' := w.setCells b (i * sz) vs) (c' := .arr e' sz (els.take i ++ new ++ els.drop (i + new.length))) hd hc' hp (fr_setCells _ w _) (fun F' hF => ⟨.own (b := some b) hp (by simp), .arr (heap_setCells_at _ w _ _ hb) (by rw [setSeg_size]; exact hf) (by rw [setSeg_size]; exact hsz) (by rw [hlen]; exact hl) hm h0 (fun q row hq => ?_) (fun q row j dd hq hj => ?_)⟩)
   ·unfold Oper.wp;simp only [execOp, resolve, invoke, builtin, Sem.run_bind, Sem.run_pure, Result.andThen_ok, Oper.upon];have hvx' : a.eval x = .slice (some ⟨b, 0, none⟩) i cap := by rw [hvx]; rfl
    simp [hvx', hrun, Result.andThen];exact hK _ _ m (hR'.weaken rfl (fun _ => .inr rfl) (fun _ _ h => h) (fun j hj => (hU' j hj).1))
   ·rcases hat q row hq with ⟨_, _, h2⟩ | ⟨_, h2⟩
    ·exact hrows _ _ h2
    exact hrow _ _ h2
   rw [hg];rcases hat q row hq with ⟨h2, h3, h4⟩ | ⟨h2, h4⟩
   ·have hj2 : j < sz := by
     have := hrows _ _ h4;have := (List.getElem?_eq_some_iff.1 hj).1;omega
    have e1 : q * sz = i * sz + (q - i) * sz := by rw [← Nat.add_mul]; congr 1; omega
    have e2 : (q - i + 1) * sz ≤ new.length * sz := Nat.mul_le_mul_right _ (by omega);rw [Nat.succ_mul] at e2;rw [if_pos (by omega), show q * sz + j - i * sz = (q - i) * sz + j from by omega];exact (hrep _ _ j dd h4 hj).turn (fun k hk _ => hF k hk)
   have hj2 : j < sz := by
    have := hrow _ _ h4;have := (List.getElem?_eq_some_iff.1 hj).1;omega
   rw [if_neg]
   ·exact (hel q row j dd h4 hj).turn (fun k hk _ => hF k hk)
   rintro ⟨q1, q2⟩;rcases h2 with h2 | h2
   ·have : (q + 1) * sz ≤ i * sz := Nat.mul_le_mul_right _ h2;rw [Nat.succ_mul] at this;omega
   have : (i + new.length) * sz ≤ q * sz := Nat.mul_le_mul_right _ h2;rw [Nat.add_mul] at this;omega
theorem h_clear {e n bt id sz i q : Nat} {zs : List ZK} {te : TS} {els : List (List DV)} {e' : Nat} (ht : PT.ty P t = some ⟨.slice e, n, bt, zs⟩) (he : PT.ty P e = some te) (hs : te.size = sz) (hz0 : te.zero.length = te.size) (hx : s.ev x = .part id (i * sz) q) (hc : s.chunk id = some (.arr e' sz els)) (hq : 0 < q) (hik : i + q ≤ els.length) :
  NOp P [id] s ⟨dst, .call { callee := .builtin .clear, args := #[x], argTypes := #[t] }, ty, pos, af, gd⟩ f ⟨.dead, [(id, some (.arr e' sz (els.take i)))]⟩ := by
 refine ⟨fun s' hag C U U' a w m hR hU hU' hd K Q hK => ?_⟩;have hc' : s'.chunk id = some (.arr e' sz els) := by rw [hag.2.2 id (by simp)]; exact hc
 have hxr := hR.ev x;rw [hag.2.1 x (by simp [Op.operands, Call.operands]), hx] at hxr;obtain ⟨p, hp, hC, hloc⟩ := hR.ch id _ hc';obtain ⟨i0, _, z, hi0, _, _, hsz0, _, hiz, hzc⟩ := PT.facts he;have hinfo : i0.size = sz := by rw [hsz0]; exact hs
 have hzs : z.cells.size = sz := by rw [hzc]; simp [hz0, hs]
 generalize hvx : a.eval x = xv at hxr;cases hC with
 | nil _ => simp at hik; omega
 | arr hb hf hsz hl hm h0 hrow hel =>
  rename_i b cap arr fz;cases hxr with
  | part hp' hn0 =>
   rename_i cap' c' bo ad;rw [hp] at hp';simp only [Option.some.injEq] at hp';obtain ⟨bb, hbb, rfl⟩ := hn0 hq
   have hbb2 : b = bb := by
    have h9 : (some b : Option Nat) = bo := congrArg Prod.fst hp';rw [hbb] at h9; simpa using h9
   subst hbb2;have hin : (i + q) * sz ≤ arr.size := by rw [hsz]; exact Nat.mul_le_mul_right _ (by omega)
   rw [Nat.add_mul] at hin;obtain ⟨cs, hcs⟩ := eqx ((Builtin.zeroCells z.cells q).toList);have hcl : cs.length = q * sz := by rw [hcs]; simp [Builtin.zeroCells, hzs]
   have hone : ∀ v ∈ cs, v.oneCell' = true := by
    intro v hv;rw [hcs] at hv;simp only [Builtin.zeroCells, Array.toList_map, List.mem_map, Array.toList_range, List.mem_range] at hv;obtain ⟨j, hj, rfl⟩ := hv;have hlt : j % z.cells.size < z.cells.size := Nat.mod_lt _ (by rw [hzs]; omega)
    have hv2 : z.cells[j % z.cells.size]! ∈ z.cells := by
     rw [getElem!_pos z.cells _ hlt]; exact Array.getElem_mem hlt
    have key : ∀ v, v ∈ z.cells → v.oneCell' = true := by
     intro v hv;rw [hzc] at hv;simp only [List.mem_toArray, List.mem_map] at hv;obtain ⟨zz, _, rfl⟩ := hv;cases zz <;> rfl
    exact key _ hv2
   have hst := run_storeCells_cells (P := P) b (i * sz) cs 0 w (fun j hj => by rw [Nat.add_zero, cell_getD hb (by omega)]; rfl) (fun j hj => by
    have := hf (i * sz + j) (by omega);simp only [World.frozen?, hb]
    simpa using this) hone
   simp only [Nat.add_zero] at hst
   have hrun : (Builtin.clear_ #[t] ty #[.slice (some ⟨b, i * sz, none⟩) q c']).run P w = .ok (.tuple #[]) (w.setCells b (i * sz) cs) := by
    obtain ⟨q', rfl⟩ : ∃ q', q = q' + 1 := ⟨q - 1, by omega⟩;have hzv : (zeroValue e).run P w = .ok z w := by simp [zeroValue, typeInfo, hi0, hiz]
    rw [hcs] at hst;simp [Builtin.clear_, run_underlying (PT.slice ht), hzv, hst, Result.andThen, hcs]
   have hg : ∀ r, r < i * sz → (setSeg arr (i * sz) cs).getD r undef = arr.getD r undef := by
    intro r hr;rw [setSeg_get _ _ _ (by omega) r, if_neg (by omega)]
   have hR' := hR.turned (i := dst) (r := .dead) (v := .tuple #[]) (w' := w.setCells b (i * sz) cs) (c' := .arr e' sz (els.take i)) hd hc' hp (fr_setCells _ w _) (fun F' hF => ⟨.dead, .arr (heap_setCells_at _ w _ _ hb) (by rw [setSeg_size]; exact hf) (by rw [setSeg_size]; exact hsz) (by rw [List.length_take]; omega) hm h0 (fun r row hr => ?_) (fun r row j dd hr hj => ?_)⟩)
   ·unfold Oper.wp;simp only [execOp, resolve, invoke, builtin, Sem.run_bind, Sem.run_pure, Result.andThen_ok, Oper.upon];simp [hvx, hrun, Result.andThen];exact hK _ _ m (hR'.weaken rfl (fun _ => .inr rfl) (fun _ _ h => h) (fun j hj => (hU' j hj).1))
   ·rw [List.getElem?_take] at hr
    split at hr
    ·exact hrow _ _ hr
    cases hr
   rw [List.getElem?_take] at hr
   split at hr
   ·rename_i h2
    have hj2 : j < sz := by
     have := hrow _ _ hr;have := (List.getElem?_eq_some_iff.1 hj).1;omega
    have e2 : (r + 1) * sz ≤ i * sz := Nat.mul_le_mul_right _ h2;rw [Nat.succ_mul] at e2;rw [hg _ (by omega)];exact (hel r row j dd hr hj).turn (fun k hk _ => hF k hk)
   cases hr
end
theorem strsL_len (l : List (List UInt8)) : (strsL l).length = l.length := List.length_map _
theorem h_appendSt (acc new : List (List UInt8)) {s : ASt} {dst : Option Nat} {ty : Nat} {pos : String} {af : Array Edge} {gd : Option (Nat × Bool)} {x y : Operand} {f : Nat} {ids ids2 : List Nat} {gone : List (Nat × Option Chunk)}
  (hto : AppTo s x 9 1 (strsL acc) ids gone) (harg : AppArg s y 1 (strsL new) ids2) (h : (acc ++ new).length ≤ 100000000) (hnew : gone = [] → 0 < new.length) :
  NOp Tryz.prog (ids ++ ids2) s ⟨dst, .call { callee := .builtin .append, args := #[x, y], argTypes := #[24, 24] }, ty, pos, af, gd⟩ f ⟨.own f (acc ++ new).length, (f, some (.arr 9 1 (strsL (acc ++ new)))) :: gone⟩ := by
 have := h_append (P := Tryz.prog) (s := s) (dst := dst) (ty := ty) (pos := pos) (af := af) (gd := gd) (x := x) (y := y) (f := f) (t := 24) (tx := 24) (k := (acc ++ new).length) rfl rfl rfl rfl rfl rfl hto harg (by simp) (by omega) (by show (acc ++ new).length * 16 ≤ _; omega) (fun h => by rw [strsL_len]; exact hnew h)
 rwa [← List.map_append] at this
def cvB (n : Int) (l : List (List UInt8)) : Bool := (decide (1 ≤ n) && decide (n ≤ 8)) && (decide ((l.length : Int) ≤ 60) && l.all fun c => cubeB c n)
def covB (l : List (List UInt8)) (x : List UInt8) : Bool := l.any fun c => hasC c x
theorem cubeB_in3 {c : List UInt8} {n : Int} (h : cubeB c n = true) : (c.length : Int) = n ∧ 1 ≤ n ∧ n ≤ 8 := by
 simp only [cubeB, Bool.and_eq_true, decide_eq_true_eq] at h;exact h.2
theorem cvB_in {n : Int} {l : List (List UInt8)} (h : cvB n l = true) : (1 ≤ n ∧ n ≤ 8) ∧ l.length ≤ 60 ∧ ∀ c, c ∈ l → cubeB c n = true := by
 simp only [cvB, Bool.and_eq_true, decide_eq_true_eq, List.all_eq_true] at h;exact ⟨h.1, by omega, h.2.2⟩
theorem iCov1_spec (c : List UInt8) (n : Int) (hc : c.length ≤ 2000000) : ASpec Tryz.prog 81 [aS (bstr c), .d (.ref [dI n])] [] (Pure1 (aT (!cubeB c n))) := by
 have hK := isCube_spec c n hc;refine ASpec.of Tryz.func81 rfl rfl fun C hC => ?_
 refine AC.seq (AC.region ?_);refine za ?_;refine AL.nil (th_n (AC.seq (AC.region ?_)));refine zm ?_;refine zr ?_;refine kV en_isCube hK ?_;refine kC ?_;refine za ?_;refine AL.nil (th_n (AC.ret (bq_r ?_)));exact ret1 rfl rfl
theorem en_iCov1 : Enters Tryz.prog 81 := enters_of Tryz.func81 rfl rfl
theorem iCov_spec (n : Int) (l : List (List UInt8)) (hl : l.length ≤ 1000000) (hb : ∀ c, c ∈ l → c.length ≤ 2000000) : ASpec Tryz.prog 47 [aI n, .d (vSs l)] [] (Pure1 (aT (cvB n l))) := by
 have hW := within_spec n 1 8;have hF := cfStr_spec l hl 81 [.ref [dI n]] en_iCov1 (fun c => !cubeB c n) (fun c h => iCov1_spec c n (hb c h));have hR : cvB n l = ((decide (1 ≤ n) && decide (n ≤ 8)) && (decide ((l.length : Int) ≤ 60) && !l.any fun c => !cubeB c n)) := by unfold cvB; rw [List.all_eq_not_any_not]
 obtain ⟨b1, hb1⟩ := eqx ((decide (1 ≤ n) && decide (n ≤ 8)));obtain ⟨b2, hb2⟩ := eqx (l.any fun c => !cubeB c n)
 rw [← hb1] at hW hR;rw [← hb2] at hF hR;clear hb1 hb2;refine ASpec.of Tryz.func47 rfl rfl fun C hC => ?_
 refine AC.seq (AC.region ?_);refine kD ?_;refine za ?_;refine AL.nil (th_n (AC.seq (AC.region ?_)));refine zr ?_;refine kV en_within hW ?_;refine zm ?_;refine AL.caseGB rfl rfl (fun h0 => ?_) (fun h0 => ?_)
 ·refine zy ?_;refine zm ?_;refine zy ?_;refine kI l.length (strsL_len _) ?_;refine zy ?_;refine zc ?_;refine zQ ?_;refine zm ?_;refine AL.caseG rfl rfl (fun h1 => ?_) (fun h1 => ?_)
  ·refine zy ?_;refine zm ?_;refine zy ?_;refine AL.p (by exact g_fn rfl) rfl ?_;refine zy ?_;refine kV en_cfStr hF ?_;refine zy ?_;refine kC ?_;refine zQ ?_;refine za ?_;refine AL.nil (th_n (AC.ret (bq_r ?_)));exact ret1 rfl (by clear hW hF hC; rw [hR]; simp_all <;> omega)
  refine zn ?_;refine zn ?_;refine zn ?_;refine zn ?_;refine zP ?_;refine za ?_;refine AL.nil (th_n (AC.ret (bq_r ?_)));exact ret1 rfl (by clear hW hF hC; rw [hR]; simp_all <;> omega)
 refine zn ?_;refine zn ?_;refine zn ?_;refine zP ?_;refine zm ?_;refine zn ?_;refine zn ?_;refine zn ?_;refine zn ?_;refine zP ?_;refine za ?_;refine AL.nil (th_n (AC.ret (bq_r ?_)));exact ret1 rfl (by clear hW hF hC; rw [hR]; simp_all <;> omega)
theorem en_iCov : Enters Tryz.prog 47 := enters_of Tryz.func47 rfl rfl
theorem cubeB_ne {c : List UInt8} {n : Int} (h : (c.length : Int) ≠ n) : cubeB c n = false := by
 unfold cubeB;rw [decide_eq_false h, Bool.false_and, Bool.and_false]
set_option maxHeartbeats 1000000 in
theorem l13Good_spec (n : Int) (l : List (List UInt8)) (hl : l.length ≤ 1000000) (hb : ∀ c, c ∈ l → c.length ≤ 2000000) : ASpec Tryz.prog 64 [aI n, .d (vSs l)] [] (Pure1 (aT (cvB n l))) := by
 have hW := l1In_spec n 1 8;have hR : cvB n l = ((decide (1 ≤ n) && decide (n ≤ 8)) && (decide ((l.length : Int) ≤ 60) && l.all fun c => cubeB c n)) := rfl;obtain ⟨b1, hb1⟩ := eqx ((decide (1 ≤ n) && decide (n ≤ 8)));rw [← hb1] at hW hR;obtain ⟨G, hG⟩ := eqx (cvB n l);rw [← hG] at hR ⊢;clear hb1 hG;refine ASpec.of Tryz.func64 rfl rfl fun C hC => ?_
 refine AC.seq (AC.region ?_);refine za ?_;refine AL.nil (th_n (AC.seq (AC.seq (AC.region ?_))));refine zm ?_;refine kI l.length (strsL_len _) ?_;refine zm ?_;refine AL.nil (th_n (AC.block ?_));refine AC.loop (ι := Nat) (fun k => ⟨30, 100, [(0, aI n), (1, .d (vSs l)), (7, .d (vSs l)), (8, aI l.length), (9, aI k)], []⟩) (fun k => k ≤ l.length ∧ ∀ j (hj : j < l.length), j < k → cubeB l[j] n = true) (fun k => l.length - k) (0) ?_ (⟨Nat.zero_le _, fun j _ hj => by omega⟩) ?_
 ·refine Weak.ren _ [] hC rfl ?_ ?_ rfl rfl rfl <;> repeat (first | exact True.intro | refine And.intro ?_ ?_ | exact DLead.same)
 intro k ⟨hk, hall⟩;refine AC.seq (AC.region ?_);refine zc ?_;refine AL.nil (th_n (AC.seq ?_));refine AC.condD rfl (fun h0 => ?_) (fun h0 => ?_)
 ·refine AC.skip (th_n (AC.seq (AC.block (AC.seq ?_))));have hk1 : k < l.length := by omega
  have hget := strs_at hk1;have hcl := hb _ (List.getElem_mem hk1);have hno : cubeB l[k] n = false → G = false := fun q => hR.trans (by rw [List.all_eq_false.2 ⟨_, List.getElem_mem hk1, by rw [q]; simp⟩, Bool.and_false, Bool.and_false])
  have hall2 : cubeB l[k] n = true → ∀ j (hj : j < l.length), j < k + 1 → cubeB l[j] n = true := fun h j hj hj2 => by rcases Nat.lt_succ_iff_lt_or_eq.1 hj2 with q | rfl; exact hall j hj q; exact h
  obtain ⟨c, hc⟩ := eqx (l[k]);rw [← hc] at hget hcl hno hall2;have hK := l13Cube_spec c hcl;have hsz := bstr_size c;refine AC.region ?_;refine AL.p (by exact g_ia_view rfl rfl rfl rfl rfl (by rfl) (by assumption)) rfl ?_;refine zr ?_;refine za ?_;refine AL.nil (th_n (AC.seq (AC.region ?_)));refine zm ?_;refine kV en_l13Cube hK ?_;refine kC ?_;refine zm ?_;refine AL.caseGB rfl rfl (fun h1 => ?_) (fun h1 => ?_)
  ·refine zn ?_;refine zn ?_;refine zn ?_;refine zn ?_;refine zQ ?_;refine AL.nil (th_n ?_);refine AC.condT rfl ?_;refine AC.seq (AC.region ?_);refine za ?_;refine AL.nil (th_n (AC.ret (ib_r (th_r (th_r (ib_r (th_r (bq_r ?_))))))));have e := hno (by (have q : cubeB c c.length = false := (by simpa using h1); by_cases e : (c.length : Int) = n; (rw [← e]; exact q); exact cubeB_ne e));exact ret1 rfl (by rw [e])
  refine zy ?_;refine zm ?_;refine zy ?_;refine AL.p (by exact g_len_str (k := c.length) rfl rfl hsz) rfl ?_;refine zy ?_;refine zm ?_;refine zy ?_;refine zc ?_;refine zP ?_;refine AL.nil (th_n ?_);refine AC.condND rfl (fun h2 => ?_) (fun h2 => ?_)
  ·refine AC.seq (AC.region ?_);refine za ?_;refine AL.nil (th_n (AC.ret (ib_r (th_r (th_r (ib_r (th_r (bq_r ?_))))))));have e := hno (by exact cubeB_ne h2);exact ret1 rfl (by rw [e])
  refine AC.skip (ib_n (th_n (AC.region ?_)));refine zA ?_;refine zm ?_;refine AL.nil (th_n ?_);have e := hall2 (by have q : cubeB c c.length = true := (by simpa using h1); rwa [show ((c.length : Nat) : Int) = n from h2] at q);exact ⟨k + 1, ⟨by omega, e⟩, by omega, Weak.ren _ [] hC rfl (by repeat (first | exact True.intro | refine And.intro ?_ ?_ | exact DLead.same)) (by repeat (exact True.intro)) rfl rfl rfl⟩
 refine AC.exit (th_e (th_e (ib_y (th_n (AC.seq ?_)))));have e : G = (b1 && decide ((l.length : Int) ≤ 60)) := hR.trans (by rw [List.all_eq_true.2 (fun x hx => by obtain ⟨j, hj, rfl⟩ := List.getElem_of_mem hx; exact hall j hj (by omega)), Bool.and_true]);refine AC.region ?_;refine zm ?_;refine kV en_l1In hW ?_;refine zm ?_;refine AL.caseGB rfl rfl (fun h1 => ?_) (fun h1 => ?_)
 ·refine zy ?_;refine zm ?_;refine zy ?_;refine kI l.length (strsL_len _) ?_;refine zy ?_;refine zc ?_;refine zQ ?_;refine za ?_;refine AL.nil (th_n (AC.ret (bq_r ?_)));exact ret1 rfl (by clear hW hC hR; rw [e]; simp_all)
 refine zn ?_;refine zn ?_;refine zn ?_;refine zP ?_;refine za ?_;refine AL.nil (th_n (AC.ret (bq_r ?_)));exact ret1 rfl (by clear hW hC hR; rw [e]; simp_all)
theorem en_l13Good : Enters Tryz.prog 64 := enters_of Tryz.func64 rfl rfl
theorem coversI1_spec (c x : List UInt8) (hc : c.length ≤ 2000000) (hx : x.length = c.length) : ASpec Tryz.prog 84 [aS (bstr c), .d (.ref [dS (bstr x)])] [] (Pure1 (aT (hasC c x))) := by
 have hK := contains_spec c x hc hx;refine ASpec.of Tryz.func84 rfl rfl fun C hC => ?_
 refine AC.seq (AC.region ?_);refine za ?_;refine AL.nil (th_n (AC.seq (AC.region ?_)));refine zm ?_;refine zr ?_;refine kV en_contains hK ?_;refine za ?_;refine AL.nil (th_n (AC.ret (bq_r ?_)));exact ret1 rfl rfl
theorem en_coversI1 : Enters Tryz.prog 84 := enters_of Tryz.func84 rfl rfl
theorem coversI_spec (l : List (List UInt8)) (x : List UInt8) (hl : l.length ≤ 1000000) (hx : x.length ≤ 2000000) (hb : ∀ c, c ∈ l → x.length = c.length) : ASpec Tryz.prog 50 [.d (vSs l), aS (bstr x)] [] (Pure1 (aT (covB l x))) := by
 have hF := cfStr_spec l hl 84 [.ref [dS (bstr x)]] en_coversI1 (fun c => hasC c x) (fun c h => coversI1_spec c x (by have := hb c h; omega) (hb c h));refine ASpec.of Tryz.func50 rfl rfl fun C hC => ?_
 refine AC.seq (AC.region ?_);refine kD ?_;refine za ?_;refine AL.nil (th_n (AC.seq (AC.region ?_)));refine zm ?_;refine AL.p (by exact g_fn rfl) rfl ?_;refine kV en_cfStr hF ?_;refine za ?_;refine AL.nil (th_n (AC.ret (bq_r ?_)));exact ret1 rfl rfl
theorem en_coversI : Enters Tryz.prog 50 := enters_of Tryz.func50 rfl rfl
set_option maxHeartbeats 1000000 in
theorem l13In_spec (l : List (List UInt8)) (x : List UInt8) (hl : l.length ≤ 1000000) (hx : x.length ≤ 2000000) (hb : ∀ c, c ∈ l → x.length = c.length) : ASpec Tryz.prog 41 [.d (vSs l), aS (bstr x)] [] (Pure1 (aT (covB l x))) := by
 refine ASpec.of Tryz.func41 rfl rfl fun C hC => ?_
 refine AC.seq (AC.region ?_);refine za ?_;refine AL.nil (th_n (AC.seq (AC.seq (AC.region ?_))));refine zm ?_;refine kI l.length (strsL_len _) ?_;refine zm ?_;refine AL.nil (th_n (AC.block ?_));refine AC.loop (ι := Nat) (fun k => ⟨17, 100, [(0, .d (vSs l)), (1, aS (bstr x)), (7, .d (vSs l)), (8, aI l.length), (9, aI k)], []⟩) (fun k => k ≤ l.length ∧ ∀ j (hj : j < l.length), j < k → hasC l[j] x = false) (fun k => l.length - k) (0) ?_ (⟨Nat.zero_le _, fun j _ hj => by omega⟩) ?_
 ·refine Weak.ren _ [] hC rfl ?_ ?_ rfl rfl rfl <;> repeat (first | exact True.intro | refine And.intro ?_ ?_ | exact DLead.same)
 intro k ⟨hk, hall⟩;refine AC.seq (AC.region ?_);refine zc ?_;refine AL.nil (th_n (AC.seq ?_));refine AC.condD rfl (fun h0 => ?_) (fun h0 => ?_)
 ·refine AC.skip (th_n (AC.seq (AC.block (AC.seq ?_))));have hk1 : k < l.length := by omega
  have hget := strs_at hk1;have hcl := hb _ (List.getElem_mem hk1);have hyes : hasC l[k] x = true → covB l x = true := fun q => List.any_eq_true.2 ⟨_, List.getElem_mem hk1, q⟩
  have hall2 : hasC l[k] x = false → ∀ j (hj : j < l.length), j < k + 1 → hasC l[j] x = false := fun h j hj hj2 => by rcases Nat.lt_succ_iff_lt_or_eq.1 hj2 with q | rfl; exact hall j hj q; exact h
  have hK := l13Has_spec l[k] x (by omega) hcl;obtain ⟨b, hbb⟩ := eqx (hasC l[k] x);rw [← hbb] at hK hyes hall2;refine AC.region ?_;refine AL.p (by exact g_ia_view rfl rfl rfl rfl rfl (by rfl) (by assumption)) rfl ?_;refine zr ?_;refine za ?_;refine AL.nil (th_n (AC.seq (AC.region ?_)));refine zm ?_;refine zm ?_;refine kV en_l13Has hK ?_;refine AL.nil (th_n ?_);refine AC.condB rfl (fun h1 => ?_) (fun h1 => ?_)
  ·refine AC.seq (AC.region ?_);refine za ?_;refine AL.nil (th_n (AC.ret (ib_r (th_r (th_r (ib_r (th_r (bq_r ?_))))))));exact ret1 rfl (by rw [hyes h1])
  refine AC.skip (ib_n (th_n (AC.region ?_)));refine zA ?_;refine zm ?_;refine AL.nil (th_n ?_);exact ⟨k + 1, ⟨by omega, hall2 h1⟩, by omega, Weak.ren _ [] hC rfl (by repeat (first | exact True.intro | refine And.intro ?_ ?_ | exact DLead.same)) (by repeat (exact True.intro)) rfl rfl rfl⟩
 refine AC.exit (th_e (th_e (ib_y (th_n (AC.seq (AC.region ?_))))));refine za ?_;refine AL.nil (th_n (AC.ret (bq_r ?_)));have e : covB l x = false := List.any_eq_false.2 fun c hc => by obtain ⟨j, hj, rfl⟩ := List.getElem_of_mem hc; rw [hall j hj (by omega)]; simp
 exact ret1 rfl (by rw [e])
theorem en_l13In : Enters Tryz.prog 41 := enters_of Tryz.func41 rfl rfl
def codesN : Nat → List (List UInt8)
 | 0 => [[]]
 | n + 1 => (codesN n).flatMap fun c => [c ++ [48], c ++ [49]]
def nxtN (L : List (List UInt8)) (j : Nat) : List (List UInt8) := (L.take j).flatMap fun c => [c ++ [48], c ++ [49]]
theorem nxtN_succ {L : List (List UInt8)} {j : Nat} (hj : j < L.length) : nxtN L (j + 1) = nxtN L j ++ [L[j] ++ [48], L[j] ++ [49]] := by
 unfold nxtN;rw [List.take_add_one, List.getElem?_eq_getElem hj, List.flatMap_append]
 rfl
theorem nxtN_len {L : List (List UInt8)} : ∀ j, j ≤ L.length → (nxtN L j).length = 2 * j
 | 0, _ => rfl
 | j + 1, h => by
  rw [nxtN_succ (by omega), List.length_append, nxtN_len j (by omega)];simp only [List.length_cons, List.length_nil]; omega
theorem nxtN_all (n : Nat) : nxtN (codesN n) (codesN n).length = codesN (n + 1) := by unfold nxtN; rw [List.take_length]; rfl
theorem codesN_len : ∀ n, (codesN n).length = 2 ^ n
 | 0 => rfl
 | n + 1 => by rw [← nxtN_all, nxtN_len _ (Nat.le_refl _), codesN_len n, Nat.pow_succ]; omega
theorem codesN_mem : ∀ (n : Nat) (x : List UInt8), x ∈ codesN n → x.length = n ∧ ∀ b, b ∈ x → b = 48 ∨ b = 49
 | 0, x, h => by rw [List.mem_singleton.1 h]; exact ⟨rfl, fun b hb => absurd hb List.not_mem_nil⟩
 | n + 1, x, h => by
  obtain ⟨c, hc, hx⟩ := List.mem_flatMap.1 h;have ih := codesN_mem n c hc;have hx2 : x = c ++ [48] ∨ x = c ++ [49] := by simpa using hx
  rcases hx2 with rfl | rfl
  ·refine ⟨by rw [List.length_append, ih.1]; rfl, fun b hb => ?_⟩;rcases List.mem_append.1 hb with h | h
   ·exact ih.2 b h
   left; simpa using h
  refine ⟨by rw [List.length_append, ih.1]; rfl, fun b hb => ?_⟩;rcases List.mem_append.1 hb with h | h
  ·exact ih.2 b h
  right; simpa using h
theorem pow_le256 {k n : Nat} (hk : k ≤ n) (hn : n ≤ 8) : 2 ^ k ≤ 256 := Nat.le_trans (Nat.pow_le_pow_right (by omega) (Nat.le_trans hk hn)) (by decide)
set_option maxHeartbeats 4000000 in
theorem l13Codes_spec (n : Nat) (hn : n ≤ 8) : ASpec Tryz.prog 90 [aI n] [] (Fun1 (.own 0 (codesN n).length) [(0, .arr 9 1 (strsL (codesN n)))]) := by
 refine ASpec.of Tryz.func90 rfl rfl fun C hC => ?_
 refine AC.seq (AC.region ?_);refine za ?_;refine AL.nil (th_n (AC.seq (AC.region ?_)));refine AL.q (by exact h_lit rfl rfl rfl rfl rfl rfl rfl rfl) rfl ?_;refine AL.p (by exact as2 rfl) rfl ?_;refine AL.nil (th_n (AC.seq (AC.block ?_)));refine AC.loop (ι := Nat) (fun k => ⟨28, 300, [(0, aI ((n : Int) - k)), (3, .own 100 (codesN k).length)], [(100, some (.arr 9 1 (strsL (codesN k))))]⟩) (fun k => k ≤ n) (fun k => n - k) (0) ?_ (Nat.zero_le _) ?_
 ·exact zw [(100, _)] hC
 intro k hk;have hcl := codesN_len k;have hp2 := pow_le256 hk hn;refine AC.seq (AC.seq (AC.region ?_));refine zm ?_;refine zc ?_;refine AL.nil (th_n ?_);refine AC.condD rfl (fun h0 => ?_) (fun h0 => ?_)
 ·refine AC.skip (th_n (AC.seq (AC.block (AC.seq (AC.region ?_)))));refine za ?_;refine AL.nil (th_n (AC.seq (AC.seq (AC.region ?_))));refine kB ?_;refine AL.p (by exact g_len_own (sz := 1) (els := []) (e' := 0) rfl rfl (by simp only [maxLen]; omega)) rfl ?_;refine zm ?_;refine AL.nil (th_n (AC.block ?_));refine AC.loop (ι := Nat) (fun j => ⟨28, 600, [(0, aI ((n : Int) - k)), (4, .own 101 (nxtN (codesN k) j).length), (12, .own 100 (codesN k).length), (13, aI (codesN k).length), (14, aI j)], [(100, some (.arr 9 1 (strsL (codesN k)))), (101, some (.arr 9 1 (strsL (nxtN (codesN k) j))))]⟩) (fun j => j ≤ (codesN k).length) (fun j => (codesN k).length - j) (0) ?_ (Nat.zero_le _) ?_
  ·exact (Weak.nilOwn (i := 4) (e := 9) (sz := 1) rfl (by decide)).trans (zw [(100, 100), (101, _)] hC)
  intro j hj;refine AC.seq (AC.region ?_);refine zc ?_;refine AL.nil (th_n (AC.seq ?_));refine AC.condD rfl (fun h1 => ?_) (fun h1 => ?_)
  ·refine AC.skip (th_n (AC.seq (AC.block (AC.seq ?_))));have hj1 : j < (codesN k).length := by omega
   have hrow : (strsL (codesN k))[j]? = some [dS (bstr (codesN k)[j])] := strs_at hj1;have hnx := nxtN_succ hj1;have hnl := nxtN_len (L := codesN k) j (by omega);have hcm := (codesN_mem k _ (List.getElem_mem hj1)).1;obtain ⟨c, hc⟩ := eqx ((codesN k)[j]);rw [← hc] at hrow hnx hcm;refine AC.region ?_;refine AL.p (by exact g_ia_own (i := j) (l := (codesN k).length) rfl rfl rfl rfl rfl rfl hj1 rfl) rfl ?_;refine AL.p (by exact g_load_arr1 rfl rfl rfl rfl (by rw [Nat.mul_one]; exact hrow)) rfl ?_;refine za ?_;refine AL.nil (th_n (AC.region ?_));refine kB ?_;refine zm ?_;refine AL.p (by exact g_saddB (a := c) (b := [48]) rfl rfl (by simp only [List.length_cons, List.length_nil]; omega)) rfl ?_;refine zm ?_;refine AL.p (by exact g_saddB (a := c) (b := [49]) rfl rfl (by simp only [List.length_cons, List.length_nil]; omega)) rfl ?_;refine AL.q (by exact h_litF rfl rfl rfl rfl rfl rfl rfl rfl) rfl ?_;refine AL.q (by exact h_appendSt (nxtN (codesN k) j) [c ++ [48], c ++ [49]] (.own rfl rfl (strsL_len _).symm) (.view rfl) (by rw [List.length_append, hnl]; simp only [List.length_cons, List.length_nil]; omega) (by simp)) rfl ?_;refine AL.p (by exact as2 rfl) rfl ?_;refine AL.nil (ib_n (th_n (AC.region ?_)));refine zA ?_;refine zm ?_;refine AL.nil (th_n ?_);exact ⟨j + 1, by omega, by omega, zw [(100, 100), (101, _)] hC (by rw [hnx]; repeat (first | exact True.intro | refine And.intro ?_ ?_ | exact DLead.same | exact rfl | refine ⟨_, rfl, ?_⟩)) (by rw [hnx]; repeat (first | exact True.intro | refine And.intro ?_ ?_ | exact rfl | refine ⟨_, _, rfl, rfl, ?_⟩))⟩
  refine AC.exit (th_e (th_e (ib_y (th_n (AC.region ?_)))));refine kB ?_;refine AL.p (by exact as2 rfl) rfl ?_;refine AL.nil (ib_n (th_n (AC.region ?_)));refine zm ?_;refine zA ?_;refine za ?_;refine AL.nil (th_n ?_);have hjj : j = (codesN k).length := by omega
  subst hjj;exact ⟨k + 1, by omega, by omega, zw [(100, 101)] hC (by rw [← nxtN_all]; repeat (first | exact True.intro | refine And.intro ?_ ?_ | exact DLead.eqI (by omega) | exact rfl | refine ⟨_, rfl, ?_⟩)) (by rw [← nxtN_all]; repeat (first | exact True.intro | refine And.intro ?_ ?_ | exact rfl | refine ⟨_, _, rfl, rfl, ?_⟩))⟩
 refine AC.exit (th_e (th_e (ib_y (th_n (AC.seq (AC.region ?_))))));refine kB ?_;refine AL.p (by exact as2 rfl) rfl ?_;refine AL.nil (th_n (AC.ret (bq_r ?_)));have hkk : k = n := by omega
 subst hkk;exact retN [(0, 100)] rfl (by repeat (first | exact rfl | refine ⟨_, rfl, ?_⟩)) (by repeat (first | exact True.intro | refine And.intro ?_ ?_ | exact rfl | refine ⟨_, _, rfl, rfl, ?_⟩)) rfl rfl
theorem en_l13Codes : Enters Tryz.prog 90 := enters_of Tryz.func90 rfl rfl
theorem findI_or {α : Type} (p : α → Bool) (l : List α) : (findI p l = -1 ∧ ∀ j (hj : j < l.length), p l[j] = false) ∨ ∃ k, ∃ hk : k < l.length, findI p l = (k : Int) ∧ p l[k] = true ∧ ∀ j (hj : j < l.length), j < k → p l[j] = false := by
 by_cases h : l.findIdx p < l.length
 ·right;refine ⟨l.findIdx p, h, ?_, List.findIdx_getElem, fun j hj hjk => by simpa using List.not_of_lt_findIdx hjk⟩;unfold findI;rw [if_pos h]
 left;have e : l.findIdx p = l.length := by have := List.findIdx_le_length (p := p) (xs := l); omega
 refine ⟨by unfold findI; rw [if_neg h], fun j hj => ?_⟩;have := List.findIdx_eq_length.1 e l[j] (List.getElem_mem hj);simpa using this
theorem filter_no {α : Type} {p : α → Bool} {l : List α} (h : ∀ j (hj : j < l.length), p l[j] = false) : l.filter (fun x => !p x) = l := by
 rw [List.filter_eq_self];intro x hx;obtain ⟨j, hj, rfl⟩ := List.getElem_of_mem hx;rw [h j hj]; rfl
theorem filt_take {α : Type} {p : α → Bool} {l : List α} {k : Nat} (hk : k < l.length) : (l.take (k + 1)).filter (fun x => !p x) = (l.take k).filter (fun x => !p x) ++ (if p l[k] = true then [] else [l[k]]) := by
 rw [List.take_add_one, List.getElem?_eq_getElem hk, List.filter_append];congr 1;cases h : p l[k] <;> simp [h]
structure DelI {α : Type} (p : α → Bool) (l : List α) (i j : Nat) (e : List α) : Prop where
 len : e.length = l.length
 lt : i < j
 le : j ≤ l.length
 kept : e.take i = (l.take j).filter fun x => !p x
 rest : e.drop j = l.drop j
theorem DelI.get {α : Type} {p : α → Bool} {l e : List α} {i j : Nat} (h : DelI p l i j e) (hj : j < l.length) : e[j]? = some l[j] := by
 have : (e.drop j)[0]? = (l.drop j)[0]? := by rw [h.rest]
 rw [List.getElem?_drop, List.getElem?_drop, Nat.add_zero, List.getElem?_eq_getElem hj] at this;exact this
theorem DelI.skip {α : Type} {p : α → Bool} {l e : List α} {i j : Nat} (h : DelI p l i j e) (hj : j < l.length) (hp : p l[j] = true) : DelI p l i (j + 1) e :=
 ⟨h.len, by have := h.lt; omega, hj, by rw [filt_take hj, if_pos hp, List.append_nil]; exact h.kept, by
  have : (e.drop j).drop 1 = (l.drop j).drop 1 := by rw [h.rest]
  rwa [List.drop_drop, List.drop_drop] at this⟩
theorem DelI.move {α : Type} {p : α → Bool} {l e : List α} {i j : Nat} (h : DelI p l i j e) (hj : j < l.length) (hp : p l[j] = false) : DelI p l (i + 1) (j + 1) (e.set i l[j]) := by
 have h1 := h.len;have h2 := h.lt;refine ⟨by rw [List.length_set]; exact h1, by omega, hj, ?_, ?_⟩
 ·rw [filt_take hj, if_neg (by rw [hp]; simp), ← h.kept, List.take_add_one, List.take_set_of_le (Nat.le_refl _), List.getElem?_set_self (by omega)]
  rfl
 rw [List.drop_set_of_lt (by omega)];have : (e.drop j).drop 1 = (l.drop j).drop 1 := by rw [h.rest]
 rwa [List.drop_drop, List.drop_drop] at this
section
variable {P : Program} [PT P] {s : ASt} {dst : Option Nat} {ty : Nat} {pos : String} {af : Array Edge} {gd : Option (Nat × Bool)} {x y : Operand} {xt yt : Nat}
theorem g_neBr {a : Bool} {n bt : Nat} {zs : List ZK} (ht : PT.ty P xt = some ⟨.bool, n, bt, zs⟩) (hx : s.ev x = aT a) (hy : s.ev y = aT a) : GOp P [] s ⟨dst, .binOp .neq xt x y yt, ty, pos, af, gd⟩ (aT false) := by
 have h := g_neB (P := P) (dst := dst) (ty := ty) (pos := pos) (af := af) (gd := gd) (yt := yt) ht hx hy
 rwa [beq_self_eq_true] at h
theorem g_neIr {k : IntKind} {a b : Int} (hx : s.ev x = .d (.val (.int k a))) (hy : s.ev y = .d (.val (.int k b))) (h : a = b) : GOp P [] s ⟨dst, .binOp .neq xt x y yt, ty, pos, af, gd⟩ (aT false) := g_cmp hx hy (by show some (!decide (a = b)) = _; rw [decide_eq_true h]; rfl)
theorem g_neSr {a b : ByteArray} (hx : s.ev x = aS a) (hy : s.ev y = aS b) (h : a = b) : GOp P [] s ⟨dst, .binOp .neq xt x y yt, ty, pos, af, gd⟩ (aT false) := g_scmp hx hy (by show some (!decide (a = b)) = _; rw [decide_eq_true h]; rfl)
end
set_option maxHeartbeats 4000000 in
theorem delStr_spec (l : List (List UInt8)) (hl : l.length ≤ 1000000) (g : FuncId) (ds : List DV) (hen : Enters Tryz.prog g) (p : List UInt8 → Bool) (hp : ∀ t, t ∈ l → ASpec Tryz.prog g (aS (bstr t) :: ds.map .d) [] (Pure1 (aT (p t)))) :
  ASpec Tryz.prog 33 [.own 0 l.length, .clo g (ds.map .d)] [(0, .arr 9 1 (strsL l))] (Fun1 (.own 0 (l.filter fun x => !p x).length) [(0, .arr 9 1 (strsL (l.filter fun x => !p x)))]) := by
 have hIf := ifStr_spec l hl g ds hen p hp;have hor := findI_or p l;obtain ⟨F, hF⟩ := eqx (findI p l);rw [← hF] at hIf hor;have hFb : -1 ≤ F ∧ F ≤ 1000000 := by rcases hor with ⟨e, _⟩ | ⟨k, hk, e, _⟩ <;> omega
 clear hF;refine ASpec.of Tryz.func33 rfl rfl fun C hC => ?_
 refine AC.seq (AC.region ?_);refine za ?_;refine AL.nil (th_n (AC.seq (AC.region ?_)));refine kB ?_;refine AL.p (by exact mv6 rfl) rfl ?_;refine AL.q (by exact h_borrow [0] en_ifStr rfl rfl hIf (.cons (.of (.own (id := 0) rfl rfl (ownl _ _) (ownt _ _))) (.cons .clo .nil)) rfl) rfl ?_;refine za ?_;refine AL.nil (th_n (AC.seq (AC.seq (AC.region ?_))));refine zm ?_;refine zc ?_;refine AL.nil (th_n ?_);refine AC.condD rfl (fun h0 => ?_) (fun h0 => ?_)
 ·refine AC.seq (AC.region ?_);refine kB ?_;refine AL.p (by exact as2 rfl) rfl ?_;refine AL.nil (th_n (AC.ret (th_r (bq_r ?_))));have e := filter_no (hor.elim (fun h => h.2) (fun ⟨k, _, h, _⟩ => absurd h (by omega)));exact retN [] rfl (by rw [e]; repeat (first | exact rfl | refine ⟨_, rfl, ?_⟩)) (by rw [e]; repeat (first | exact True.intro | refine And.intro ?_ ?_ | exact rfl | refine ⟨_, _, rfl, rfl, ?_⟩)) rfl rfl
 refine AC.skip (th_n (AC.seq (AC.seq ?_)));obtain ⟨k0, hk0, rfl, hpk, hbef⟩ := hor.resolve_left fun h => h0 h.1
 have hI0 : DelI p l k0 (k0 + 1) l := ⟨rfl, Nat.lt_succ_self _, hk0, by rw [filt_take hk0, if_pos hpk, List.append_nil]; exact (List.filter_eq_self.2 fun x hx => by obtain ⟨j, hj, rfl⟩ := List.mem_take_iff_getElem.1 hx; rw [hbef j (by omega) (by omega)]; rfl).symm, rfl⟩;refine AC.region ?_;refine zm ?_;refine zA ?_;refine za ?_;refine AL.nil (th_n (AC.block ?_));refine AC.loop (ι := Nat × Nat × List (List UInt8)) (fun x => ⟨42, 300, [(0, .own 0 l.length), (1, .clo g (ds.map .d)), (5, aI x.1), (6, aI x.2.1)], [(0, some (.arr 9 1 (strsL x.2.2)))]⟩) (fun x => DelI p l x.1 x.2.1 x.2.2) (fun x => l.length - x.2.1) ((k0, k0 + 1, l)) ?_ (hI0) ?_
 ·exact Weak.ren _ [] hC rfl ⟨⟨_, rfl, rfl⟩, ⟨_, rfl, leadsL_data _ ds⟩, by repeat (first | exact True.intro | refine And.intro ?_ ?_ | exact DLead.same)⟩ (by repeat (first | exact True.intro | refine And.intro ?_ ?_ | exact rfl | refine ⟨_, _, rfl, rfl, ?_⟩)) rfl rfl rfl
 rintro ⟨i, j, e⟩ hI;dsimp only at hI ⊢;have hlt := hI.lt;have hle := hI.le;have hel := hI.len;refine AC.seq (AC.seq (AC.region ?_));refine zm ?_;refine kB ?_;refine AL.p (by exact g_len_own (sz := 1) (els := []) (e' := 0) rfl rfl (by simp only [maxLen]; omega)) rfl ?_;refine zc ?_;refine AL.nil (th_n ?_);refine AC.condD rfl (fun h1 => ?_) (fun h1 => ?_)
 ·refine AC.skip (th_n (AC.seq (AC.block (AC.seq ?_))));have hj1 : j < l.length := by omega
  have hrow : (strsL e)[j]? = some [dS (bstr l[j])] := by rw [List.getElem?_map, hI.get hj1]; rfl
  have hG := hp l[j] (List.getElem_mem hj1);have hsk := hI.skip hj1;have hmv := hI.move hj1;obtain ⟨x, hx⟩ := eqx (l[j]);rw [← hx] at hrow hG hsk hmv;obtain ⟨b, hb⟩ := eqx (p x);rw [← hb] at hG hsk hmv;have hrow2 : (strsL e)[i]? = some [dS (bstr e[i])] := strs_at (by omega);refine AC.region ?_;refine kB ?_;refine zm ?_;refine kO j l.length hj1 ?_;refine AL.p (by exact g_load_arr1 rfl rfl rfl rfl (by rw [Nat.mul_one]; exact hrow)) rfl ?_;refine za ?_;refine AL.nil (th_n (AC.seq (AC.region ?_)));refine AL.p (by exact mv6 rfl) rfl ?_;refine zm ?_;refine AL.q (by exact h_pure hen rfl rfl (by exact ⟨_, _, rfl, .same, leadsL_data _ ds⟩) hG rfl) rfl ?_;refine kC ?_;refine AL.nil (th_n ?_);refine AC.condB rfl (fun h2 => ?_) (fun h2 => ?_)
  ·refine AC.seq (AC.region ?_);refine kB ?_;refine zm ?_;refine zm ?_;refine AL.p (by exact g_ia_own (i := i) (l := l.length) rfl rfl rfl rfl rfl rfl (by omega) rfl) rfl ?_;refine AL.q (by exact h_store_arr (i := i) (j := 0) (d := dS (bstr x)) rfl rfl rfl rfl .same rfl hrow2 (by decide)) rfl ?_;refine AL.nil (th_n (AC.region ?_));refine zm ?_;refine zA ?_;refine za ?_;refine AL.nil (ib_n (th_n (AC.region ?_)));refine zm ?_;refine zA ?_;refine za ?_;refine AL.nil (th_n ?_)
   (have e2 := hmv (by simpa using ‹(!b) = true›); exact ⟨(i + 1, j + 1, e.set i x), e2, by dsimp only; omega, Weak.ren _ [] hC rfl ⟨⟨_, rfl, rfl⟩, ⟨_, rfl, leadsL_data _ ds⟩, by repeat (first | exact True.intro | refine And.intro ?_ ?_ | exact DLead.same)⟩ (by rw [show strsL (e.set i x) = (strsL e).set i [dS (bstr x)] by unfold strsL; rw [List.map_set]]; repeat (first | exact True.intro | refine And.intro ?_ ?_ | exact rfl | refine ⟨_, _, rfl, rfl, ?_⟩)) rfl rfl rfl⟩)
  refine AC.skip (ib_n (th_n (AC.region ?_)));refine zm ?_;refine zA ?_;refine za ?_;refine AL.nil (th_n ?_)
  (have e2 := hsk (by simpa using ‹(!b) = false›); exact ⟨(i, j + 1, e), e2, by dsimp only; omega, Weak.ren _ [] hC rfl ⟨⟨_, rfl, rfl⟩, ⟨_, rfl, leadsL_data _ ds⟩, by repeat (first | exact True.intro | refine And.intro ?_ ?_ | exact DLead.same)⟩ (by repeat (first | exact True.intro | refine And.intro ?_ ?_ | exact rfl | refine ⟨_, _, rfl, rfl, ?_⟩)) rfl rfl rfl⟩)
 refine AC.exit (th_e (th_e (ib_y (th_n (AC.seq ?_)))));have hjj : j = l.length := by omega
 subst hjj;have hkept := hI.kept;rw [List.take_length] at hkept;have hfl : (l.filter fun x => !p x).length = i := by rw [← hkept, List.length_take]; omega
 have hst : (strsL e).take i = strsL (l.filter fun x => !p x) := by rw [← hkept]; unfold strsL; rw [List.map_take]
 refine AC.region ?_;refine kB ?_;refine zm ?_;refine AL.p (by exact g_slice_part (els := strsL e) (e' := 9) (sz := 1) (l := i) (h := l.length) rfl rfl rfl rfl rfl (.some rfl rfl) .none (by omega) (by rw [strsL_len]; omega) rfl rfl) rfl ?_;refine AL.q (by exact h_clear (i := i) (q := l.length - i) (els := strsL e) (e' := 9) (sz := 1) rfl rfl rfl rfl rfl rfl (by omega) (by rw [strsL_len]; omega)) rfl ?_;refine AL.nil (th_n (AC.seq (AC.region ?_)));refine kB ?_;refine zm ?_;refine AL.p (by exact g_slice_own (els := (strsL e).take i) (e' := 9) (sz := 1) rfl rfl rfl rfl (.some rfl rfl) (by rw [List.length_take, strsL_len]; omega)) rfl ?_;refine AL.p (by exact as2 rfl) rfl ?_;refine AL.nil (th_n (AC.ret (bq_r ?_)));exact retN [] rfl (by rw [hfl]; repeat (first | exact rfl | refine ⟨_, rfl, ?_⟩)) (by rw [← hst]; repeat (first | exact True.intro | refine And.intro ?_ ?_ | exact rfl | refine ⟨_, _, rfl, rfl, ?_⟩)) rfl rfl
theorem en_delStr : Enters Tryz.prog 33 := enters_of Tryz.func33 rfl rfl
theorem cvB_n {n : Int} {l : List (List UInt8)} (h : cvB n l = true) : ∃ m : Nat, n = m ∧ 1 ≤ m ∧ m ≤ 8 ∧ ∀ c, c ∈ l → c.length = m := by
 obtain ⟨h1, h2, h3⟩ := cvB_in h;refine ⟨n.toNat, by omega, by omega, by omega, fun c hc => ?_⟩;have := (cubeB_in3 (h3 c hc)).1;omega
abbrev Tx := List UInt8
theorem tx_lt_trans {a b c : Tx} (h1 : a < b) (h2 : b < c) : a < c := List.lt_trans h1 h2
theorem tx_irr (a : Tx) : ¬ a < a := List.lt_irrefl a
theorem tx_le_total (a b : Tx) : a ≤ b ∨ b ≤ a := List.le_total a b
theorem tx_le_trans {a b c : Tx} (h1 : a ≤ b) (h2 : b ≤ c) : a ≤ c := List.le_trans h1 h2
theorem tx_le_anti {a b : Tx} (h1 : a ≤ b) (h2 : b ≤ a) : a = b := List.le_antisymm h1 h2
theorem tx_not_lt {a b : Tx} : ¬ a < b ↔ b ≤ a := List.not_lt
theorem tx_lt_of {a b : Tx} (h1 : a ≤ b) (h2 : a ≠ b) : a < b := Classical.byContradiction fun h => h2 (tx_le_anti h1 (tx_not_lt.1 h))
theorem tx_le_of {a b : Tx} (h : a < b) : a ≤ b := tx_not_lt.1 fun q => tx_irr a (tx_lt_trans h q)
theorem bytesLess_is : ∀ (x y : Tx), Op.bytesLess x y = decide (x < y)
 | [], [] => by simp [Op.bytesLess]
 | _ :: _, [] => by simp [Op.bytesLess]
 | [], _ :: _ => by simp [Op.bytesLess]
 | a :: x, b :: y => by
  rw [Op.bytesLess, bytesLess_is x y];simp only [List.cons_lt_cons_iff]
  by_cases h1 : a < b <;> by_cases h2 : a = b <;> by_cases h3 : x < y <;> simp [h1, h2, h3]
--PLAIN
def sortT (l : List Tx) : List Tx := l.mergeSort (fun x y => decide (x ≤ y))
theorem sortT_perm (l : List Tx) : (sortT l).Perm l := List.mergeSort_perm _ _
theorem sortT_len (l : List Tx) : (sortT l).length = l.length := (sortT_perm l).length_eq
theorem sortT_le (l : List Tx) : (sortT l).Pairwise (fun a b => a ≤ b) := by
 have := List.pairwise_mergeSort (le := fun x y : Tx => decide (x ≤ y)) (fun a b c h1 h2 => decide_eq_true (tx_le_trans (of_decide_eq_true h1) (of_decide_eq_true h2))) (fun a b => by
  rcases tx_le_total a b with h | h
  ·simp [h]
  simp [h]) l
 exact this.imp fun h => of_decide_eq_true h
theorem sorted_eq {a b : List Tx} (ha : a.Pairwise (fun a b => a ≤ b)) (hb : b.Pairwise (fun a b => a ≤ b)) (h : a.Perm b) : a = b :=
 List.Perm.eq_of_pairwise (le := fun a b : Tx => a ≤ b) (fun a b _ _ h1 h2 => tx_le_anti h1 h2) ha hb h
theorem sortT_nil : sortT [] = [] := by unfold sortT; exact List.mergeSort_nil
def putT (l : List Tx) (x : Tx) : List Tx := l.take (l.findIdx fun y => !decide (y < x)) ++ [x] ++ l.drop (l.findIdx fun y => !decide (y < x))
theorem putT_perm (l : List Tx) (x : Tx) : (putT l x).Perm (l ++ [x]) := by
 unfold putT;generalize l.findIdx (fun y => !decide (y < x)) = k
 have h1 : (l.take k ++ [x] ++ l.drop k).Perm (l.take k ++ l.drop k ++ [x]) := by
  rw [List.append_assoc, List.append_assoc];exact List.Perm.append_left _ List.perm_append_comm
 rw [List.take_append_drop] at h1;exact h1
theorem putT_le {l : List Tx} (h : l.Pairwise (fun a b => a ≤ b)) (x : Tx) : (putT l x).Pairwise (fun a b => a ≤ b) := by
 unfold putT;obtain ⟨k, hk⟩ := eqx (l.findIdx (fun y => !decide (y < x)));rw [← hk]
 have hlo : ∀ y, y ∈ l.take k → y ≤ x := fun y hy => by
  obtain ⟨j, hj, rfl⟩ := List.mem_take_iff_getElem.1 hy;have hj2 : j < l.findIdx (fun y => !decide (y < x)) := by omega
  have := List.not_of_lt_findIdx hj2;exact tx_le_of (by simpa using this)
 have hhi : ∀ y, y ∈ l.drop k → x ≤ y := fun y hy => by
  obtain ⟨j, hj, rfl⟩ := List.getElem_of_mem hy;rw [List.length_drop] at hj;have hkl : k < l.length := by omega
  have hx : x ≤ l[k] := by
   have := List.findIdx_getElem (p := fun y => !decide (y < x)) (xs := l) (w := by rw [← hk]; exact hkl);simp only [← hk] at this;exact tx_not_lt.1 (by simpa using this)
  rw [List.getElem_drop];rcases Nat.eq_zero_or_pos j with e | e
  ·subst e; exact hx
  exact tx_le_trans hx ((List.pairwise_iff_getElem.1 h) k (k + j) hkl (by omega) (by omega))
 rw [List.append_assoc, List.pairwise_append];refine ⟨h.sublist (List.take_sublist _ _), ?_, fun a ha b hb => ?_⟩
 ·rw [List.singleton_append, List.pairwise_cons];exact ⟨hhi, h.sublist (List.drop_sublist _ _)⟩
 rcases List.mem_cons.1 hb with rfl | hb
 ·exact hlo a ha
 exact tx_le_trans (hlo a ha) (hhi b hb)
theorem put_sort (l : List Tx) (x : Tx) : putT (sortT l) x = sortT (l ++ [x]) :=
 sorted_eq (putT_le (sortT_le l) x) (sortT_le _) ((putT_perm _ _).trans (((sortT_perm l).append_right [x]).trans (sortT_perm _).symm))
theorem put_len (l : List Tx) (x : Tx) : (putT l x).length = l.length + 1 := by rw [(putT_perm l x).length_eq, List.length_append]; rfl
def litC (c : Tx) : Nat := (c.filter fun b => !decide ((b.toNat : Int) = 45)).length
def litS (l : List Tx) : Nat := (l.map litC).sum
def ltL : List Tx → List Tx → Bool
 | x :: xs, y :: ys => if x = y then ltL xs ys else decide (x < y)
 | _, _ => false
def betT (l : List Tx) : Option (List Tx) → Bool
 | none => true
 | some b => decide (litS l < litS b) || (decide (litS l = litS b) && ltL l b)
def conT (l : List Tx) (B : Option (List Tx)) : Option (List Tx) := if betT l B = true then some l else B
theorem conT_some (l : List Tx) (B : Option (List Tx)) : (conT l B).isSome = true := by
 unfold conT;cases B with
 | none => rfl
 | some b => split <;> rfl
def chooseN (P : List Tx) : Nat → List Tx → List Tx → Option (List Tx) → Option (List Tx)
 | 0, on, l, B => if on = [] then conT (sortT l) B else B
 | m + 1, on, l, B => match on with
  | [] => B
  | c :: t => P.foldl (fun B p => if hasC p c = true then chooseN P m ((c :: t).filter fun x => !hasC p x) (l ++ [p]) B else B) B
def leafB (P : List Tx) : Nat → List Tx → Bool
 | 0, on => decide (on = [])
 | m + 1, on => match on with
  | [] => false
  | c :: t => P.any fun p => hasC p c && leafB P m ((c :: t).filter fun x => !hasC p x)
theorem foldl_some {α : Type} (f : Option (List Tx) → α → Option (List Tx)) (g : α → Bool) (hf : ∀ B a, (f B a).isSome = (B.isSome || g a)) : ∀ (L : List α) (B : Option (List Tx)), (L.foldl f B).isSome = (B.isSome || L.any g)
 | [], B => by simp
 | a :: L, B => by rw [List.foldl_cons, foldl_some f g hf L, hf, List.any_cons, Bool.or_assoc]
theorem choose_some (P : List Tx) : ∀ (m : Nat) (on l : List Tx) (B : Option (List Tx)), (chooseN P m on l B).isSome = (B.isSome || leafB P m on)
 | 0, on, l, B => by
  rw [chooseN, leafB]
  split
  ·rename_i h; rw [conT_some, decide_eq_true h, Bool.or_true]
  rename_i h; rw [decide_eq_false h, Bool.or_false]
 | m + 1, [], l, B => by rw [chooseN, leafB, Bool.or_false]
 | m + 1, c :: t, l, B => by
  rw [chooseN, leafB];refine foldl_some _ _ (fun B p => ?_) P B;cases h : hasC p c with
  | false => simp
  | true => rw [if_pos rfl, choose_some P m, Bool.true_and]
def unC (on l : List Tx) : List Tx := on.filter fun x => !covB l x
theorem covB_append (a b : List Tx) (x : Tx) : covB (a ++ b) x = (covB a x || covB b x) := by unfold covB; exact List.any_append
theorem covB_perm {a b : List Tx} (h : a.Perm b) (x : Tx) : covB a x = covB b x := by
 rw [Bool.eq_iff_iff];unfold covB;rw [List.any_eq_true, List.any_eq_true];exact ⟨fun ⟨c, h1, h2⟩ => ⟨c, h.mem_iff.1 h1, h2⟩, fun ⟨c, h1, h2⟩ => ⟨c, h.mem_iff.2 h1, h2⟩⟩
theorem unC_put (on l : List Tx) (p : Tx) : unC on (putT l p) = (unC on l).filter fun x => !hasC p x := by
 unfold unC;rw [List.filter_filter];refine List.filter_congr fun x _ => ?_
 rw [covB_perm (putT_perm l p), covB_append];have : covB [p] x = hasC p x := by unfold covB; simp
 rw [this];cases covB l x <;> cases hasC p x <;> rfl
theorem unC_snoc (on l : List Tx) (p : Tx) : unC on (l ++ [p]) = (unC on l).filter fun x => !hasC p x := by
 rw [← unC_put];unfold unC;exact List.filter_congr fun x _ => by rw [covB_perm (putT_perm l p)]
def searchN (P on : List Tx) : Nat → List Tx → Option (List Tx) → Option (List Tx)
 | m, taken, B => match unC on taken with
  | [] => conT taken B
  | c :: _ => match m with
   | 0 => B
   | m + 1 => P.foldl (fun B p => if hasC p c = true then searchN P on m (putT taken p) B else B) B
theorem searchN_nil {P on : List Tx} {m : Nat} {taken : List Tx} {B : Option (List Tx)} (h : unC on taken = []) : searchN P on m taken B = conT taken B := by
 cases m <;> rw [searchN, h]
theorem searchN_zero {P on : List Tx} {taken : List Tx} {B : Option (List Tx)} {c : Tx} {t : List Tx} (h : unC on taken = c :: t) : searchN P on 0 taken B = B := by rw [searchN, h]
theorem searchN_succ {P on : List Tx} {m : Nat} {taken : List Tx} {B : Option (List Tx)} {c : Tx} {t : List Tx} (h : unC on taken = c :: t) : searchN P on (m + 1) taken B = P.foldl (fun B p => if hasC p c = true then searchN P on m (putT taken p) B else B) B := by rw [searchN, h]
def noLess (P : List Tx) (m : Nat) (on : List Tx) : Prop := ∀ k, k < m → leafB P k on = false
theorem noLess_nil {P : List Tx} {m : Nat} (h : noLess P m []) : m = 0 := by
 rcases Nat.eq_zero_or_pos m with e | e
 ·exact e
 have := h 0 e; rw [leafB] at this; simp at this
theorem noLess_next {P : List Tx} {m : Nat} {c p : Tx} {t : List Tx} (h : noLess P (m + 1) (c :: t)) (hp : p ∈ P) (hc : hasC p c = true) : noLess P m ((c :: t).filter fun x => !hasC p x) := by
 intro k hk;have := h (k + 1) (by omega);rw [leafB, List.any_eq_false] at this;have := this p hp;rw [hc, Bool.true_and] at this;cases hl : leafB P k ((c :: t).filter fun x => !hasC p x) with
 | false => rfl
 | true => exact absurd hl this
theorem foldl_ext {α β : Type} (f g : β → α → β) : ∀ (L : List α) (B : β), (∀ B a, a ∈ L → f B a = g B a) → L.foldl f B = L.foldl g B
 | [], _, _ => rfl
 | a :: L, B, h => by rw [List.foldl_cons, List.foldl_cons, h B a List.mem_cons_self, foldl_ext f g L _ fun B a ha => h B a (List.mem_cons_of_mem _ ha)]
theorem search_choose (P on : List Tx) : ∀ (m : Nat) (l : List Tx) (B : Option (List Tx)), noLess P m (unC on l) → searchN P on m (sortT l) B = chooseN P m (unC on l) l B
 | m, l, B, h => by
  have hu : unC on (sortT l) = unC on l := by unfold unC; exact List.filter_congr fun x _ => by rw [covB_perm (sortT_perm l)]
  cases hr : unC on l with
  | nil =>
   rw [hr] at h;have hm := noLess_nil h;subst hm;rw [searchN_nil (hu.trans hr), chooseN, if_pos rfl]
  | cons c t =>
   cases m with
   | zero => rw [searchN_zero (hu.trans hr), chooseN, if_neg (by simp)]
   | succ m =>
    rw [searchN_succ (hu.trans hr), chooseN];refine foldl_ext _ _ P B fun B p hp => ?_
    by_cases hc : hasC p c = true
    ·rw [if_pos hc, if_pos hc, put_sort];have e : unC on (l ++ [p]) = (c :: t).filter fun x => !hasC p x := by rw [unC_snoc, hr]
     rw [← e];exact search_choose P on m (l ++ [p]) B (by rw [e]; rw [hr] at h; exact noLess_next h hp hc)
    rw [if_neg hc, if_neg hc]
structure LeafT (P : List Tx) (m : Nat) (on l b : List Tx) : Prop where
 ex : ∃ q : List Tx, b = sortT (l ++ q) ∧ q.length = m ∧ (∀ p, p ∈ q → p ∈ P) ∧ ∀ x, x ∈ on → covB q x = true
theorem foldl_or {α : Type} (f : Option (List Tx) → α → Option (List Tx)) (Q : List Tx → Prop) (L : List α) (hf : ∀ B a, a ∈ L → f B a = B ∨ ∃ b, f B a = some b ∧ Q b) : ∀ (B : Option (List Tx)), L.foldl f B = B ∨ ∃ b, L.foldl f B = some b ∧ Q b := by
 induction L with
 | nil => exact fun B => .inl rfl
 | cons a L ih =>
  intro B;rw [List.foldl_cons];have ih := ih (fun B a ha => hf B a (List.mem_cons_of_mem _ ha)) (f B a);rcases ih with h | h
  ·rw [h]; exact hf B a List.mem_cons_self
  exact .inr h
theorem conT_or (l : List Tx) (B : Option (List Tx)) : conT l B = B ∨ conT l B = some l := by
 unfold conT
 split
 ·exact .inr rfl
 exact .inl rfl
theorem choose_or (P : List Tx) : ∀ (m : Nat) (on l : List Tx) (B : Option (List Tx)), chooseN P m on l B = B ∨ ∃ b, chooseN P m on l B = some b ∧ LeafT P m on l b
 | 0, on, l, B => by
  rw [chooseN]
  split
  ·rename_i h;rcases conT_or (sortT l) B with e | e
   ·exact .inl e
   exact .inr ⟨_, e, ⟨[], by rw [List.append_nil], rfl, fun p hp => absurd hp List.not_mem_nil, fun x hx => by rw [h] at hx; exact absurd hx List.not_mem_nil⟩⟩
  exact .inl rfl
 | m + 1, [], l, B => by rw [chooseN]; exact .inl rfl
 | m + 1, c :: t, l, B => by
  rw [chooseN];refine foldl_or _ _ P (fun B p hp => ?_) B
  by_cases hc : hasC p c = true
  ·rw [if_pos hc];rcases choose_or P m ((c :: t).filter fun x => !hasC p x) (l ++ [p]) B with e | ⟨b, e, ⟨q, h1, h2, h3, h4⟩⟩
   ·exact .inl e
   refine .inr ⟨b, e, ⟨p :: q, by rw [h1, List.append_assoc]; rfl, by rw [List.length_cons, h2], fun x hx => ?_, fun x hx => ?_⟩⟩
   ·rcases List.mem_cons.1 hx with rfl | hx
    ·exact hp
    exact h3 x hx
   have e2 : covB (p :: q) x = (hasC p x || covB q x) := by unfold covB; rw [List.any_cons]
   rw [e2];cases hpx : hasC p x with
   | true => rfl
   | false => rw [Bool.false_or]; exact h4 x (List.mem_filter.2 ⟨hx, by rw [hpx]; rfl⟩)
  rw [if_neg hc]; exact .inl rfl
def minAt (P on : List Tx) : Nat → Nat → Option (List Tx)
 | 0, _ => none
 | f + 1, m => match chooseN P m on [] none with
  | some b => some b
  | none => minAt P on f (m + 1)
def minT (P on : List Tx) : Option (List Tx) := minAt P on 7 0
theorem choose_leaf {P on : List Tx} {m : Nat} (h : chooseN P m on [] none = none) : leafB P m on = false := by
 have := choose_some P m on [] none;rw [h] at this;simpa using this.symm
theorem minAt_is {P on : List Tx} {b : List Tx} : ∀ (f m : Nat), minAt P on f m = some b → noLess P m on → ∃ j, m ≤ j ∧ j < m + f ∧ noLess P j on ∧ LeafT P j on [] b
 | 0, m, h, _ => by rw [minAt] at h; cases h
 | f + 1, m, h, hn => by
  rw [minAt] at h;cases hc : chooseN P m on [] none with
  | some b' =>
   rw [hc] at h;obtain rfl : b' = b := Option.some.inj h;rcases choose_or P m on [] none with e | ⟨b2, e, hl⟩
   ·rw [hc] at e; cases e
   rw [hc] at e;obtain rfl : b' = b2 := Option.some.inj e;exact ⟨m, Nat.le_refl _, by omega, hn, hl⟩
  | none =>
   rw [hc] at h;have hlf := choose_leaf hc
   obtain ⟨j, h1, h2, h3, h4⟩ := minAt_is f (m + 1) h fun k hk => by
    rcases Nat.lt_succ_iff_lt_or_eq.1 hk with q | rfl
    ·exact hn k q
    exact hlf
   exact ⟨j, by omega, by omega, h3, h4⟩
theorem minT_is {P on b : List Tx} (h : minT P on = some b) : ∃ j, j < 7 ∧ noLess P j on ∧ LeafT P j on [] b := by
 obtain ⟨j, _, h2, h3, h4⟩ := minAt_is 7 0 h fun k hk => absurd hk (Nat.not_lt_zero _)
 exact ⟨j, by omega, h3, h4⟩
theorem cover_leaf {P : List Tx} : ∀ (k : Nat) (q on : List Tx), q.length = k → (∀ p, p ∈ q → p ∈ P) → (∀ x, x ∈ on → covB q x = true) → ∃ j, j ≤ k ∧ leafB P j on = true
 | k, q, [], _, _, _ => ⟨0, Nat.zero_le _, by rw [leafB]; rfl⟩
 | 0, q, c :: t, hk, _, hc => by
  have := hc c List.mem_cons_self;rw [List.eq_nil_of_length_eq_zero hk] at this;cases this
 | k + 1, q, c :: t, hk, hq, hc => by
  have h0 := hc c List.mem_cons_self;unfold covB at h0;obtain ⟨p, hp, hpc⟩ := List.any_eq_true.1 h0;have hperm := List.perm_cons_erase hp
  obtain ⟨j, hj, hl⟩ := cover_leaf (P := P) k (q.erase p) ((c :: t).filter fun x => !hasC p x) (by rw [List.length_erase_of_mem hp, hk]; rfl) (fun y hy => hq y (List.mem_of_mem_erase hy)) (fun x hx => by
   obtain ⟨hx1, hx2⟩ := List.mem_filter.1 hx;have h1 := hc x hx1;rw [covB_perm hperm] at h1;have e2 : covB (p :: q.erase p) x = (hasC p x || covB (q.erase p) x) := by unfold covB; rw [List.any_cons]
   rw [e2] at h1;rw [Bool.not_eq_true'] at hx2
   rwa [hx2, Bool.false_or] at h1)
  refine ⟨j + 1, by omega, ?_⟩;rw [leafB, List.any_eq_true];exact ⟨p, hq p hp, by rw [hpc, hl]; rfl⟩
structure MinOf (P on b : List Tx) : Prop where
 sub : ∀ p, p ∈ b → p ∈ P
 cov : ∀ x, x ∈ on → covB b x = true
 len : b.length < 7
 least : ∀ q : List Tx, (∀ p, p ∈ q → p ∈ P) → (∀ x, x ∈ on → covB q x = true) → b.length ≤ q.length
theorem minT_of {P on b : List Tx} (h : minT P on = some b) : MinOf P on b := by
 obtain ⟨j, hj, hn, ⟨q, h1, h2, h3, h4⟩⟩ := minT_is h;rw [List.nil_append] at h1;have hp := sortT_perm q;rw [← h1] at hp;refine ⟨fun p hpb => h3 p (hp.mem_iff.1 hpb), fun x hx => by rw [covB_perm hp]; exact h4 x hx, by rw [hp.length_eq]; omega, fun r hr hc => ?_⟩;obtain ⟨i, hi, hl⟩ := cover_leaf r.length r on rfl hr hc;rw [hp.length_eq, h2];exact Classical.byContradiction fun w => by rw [hn i (by omega)] at hl; cases hl
def gainN (p : Tx) (left : List Tx) : Nat := (left.filter fun x => hasC p x).length
def pickS (left : List Tx) (s : Tx × Nat) (p : Tx) : Tx × Nat := if gainN p left > s.2 ∨ (gainN p left = s.2 ∧ gainN p left > 0 ∧ litC p < litC s.1) then (p, gainN p left) else s
def pickT (P left : List Tx) (j : Nat) : Tx × Nat := (P.take j).foldl (pickS left) ([], 0)
theorem pickT_succ {P left : List Tx} {j : Nat} (h : j < P.length) : pickT P left (j + 1) = pickS left (pickT P left j) P[j] := by
 unfold pickT;rw [List.take_add_one, List.getElem?_eq_getElem h, List.foldl_append]; rfl
theorem pickT_or (P left : List Tx) : ∀ j, j ≤ P.length → (pickT P left j = ([], 0) ∧ ∀ p, p ∈ P.take j → gainN p left = 0) ∨ ∃ p, p ∈ P ∧ pickT P left j = (p, gainN p left) ∧ 0 < gainN p left
 | 0, _ => .inl ⟨rfl, fun p h => absurd h (by simp)⟩
 | j + 1, h => by
  have ih := pickT_or P left j (by omega);have hmem := List.getElem_mem (l := P) (n := j) (by omega);rw [pickT_succ (by omega)];unfold pickS
  split
  ·rename_i hc;exact .inr ⟨P[j], hmem, rfl, by omega⟩
  rename_i hc;rcases ih with ⟨h1, h2⟩ | ⟨p, h1, h2, h3⟩
  ·refine .inl ⟨h1, fun p hp => ?_⟩;rw [h1] at hc;rw [List.take_add_one, List.getElem?_eq_getElem (show j < P.length by omega)] at hp;rcases List.mem_append.1 hp with q | q
   ·exact h2 p q
   obtain rfl : p = P[j] := by simpa using q
   dsimp only at hc;omega
  exact .inr ⟨p, h1, h2, h3⟩
def grT (P : List Tx) : Nat → List Tx → List Tx → List Tx
 | 0, _, acc => acc
 | f + 1, left, acc => if left = [] then acc else grT P f (left.filter fun x => !hasC (pickT P left P.length).1 x) (acc ++ [(pickT P left P.length).1])
theorem gain_pos {p : Tx} {left : List Tx} (h : 0 < gainN p left) : ∃ x, x ∈ left ∧ hasC p x = true := by
 unfold gainN at h;obtain ⟨x, hx⟩ := List.exists_mem_of_length_pos h;exact ⟨x, (List.mem_filter.1 hx).1, (List.mem_filter.1 hx).2⟩
theorem filt_lt {p : Tx} {left : List Tx} (h : 0 < gainN p left) : (left.filter fun x => !hasC p x).length < left.length := by
 obtain ⟨x, h1, h2⟩ := gain_pos h;rcases Nat.lt_or_ge (left.filter fun x => !hasC p x).length left.length with q | q
 ·exact q
 have := List.length_filter_le (fun x => !hasC p x) left;have e : (left.filter fun x => !hasC p x).length = left.length := by omega
 have := List.length_filter_eq_length_iff.1 e x h1;rw [h2] at this; cases this
def covers (P on : List Tx) : Prop := ∀ x, x ∈ on → ∃ p, p ∈ P ∧ hasC p x = true
theorem pick_gain {P left : List Tx} (h : covers P left) (hl : left ≠ []) : ∃ p, p ∈ P ∧ pickT P left P.length = (p, gainN p left) ∧ 0 < gainN p left := by
 rcases pickT_or P left P.length (Nat.le_refl _) with ⟨_, h2⟩ | h2
 ·exfalso;obtain ⟨x, hx⟩ := List.exists_mem_of_ne_nil _ hl;obtain ⟨p, hp, hpx⟩ := h x hx;have := h2 p (by rw [List.take_length]; exact hp);unfold gainN at this;have hm := List.mem_filter.2 ⟨hx, hpx⟩;rw [List.eq_nil_of_length_eq_zero this] at hm;cases hm
 exact h2
theorem covers_filter {P left : List Tx} (h : covers P left) (f : Tx → Bool) : covers P (left.filter f) := fun x hx => h x (List.mem_filter.1 hx).1
theorem grT_fuel {P : List Tx} : ∀ (f g : Nat) (left acc : List Tx), covers P left → left.length ≤ f → left.length ≤ g → grT P f left acc = grT P g left acc
 | 0, g, left, acc, _, hf, _ => by
  have : left = [] := List.eq_nil_of_length_eq_zero (by omega);subst this;cases g <;> simp [grT]
 | f + 1, 0, left, acc, _, _, hg => by
  have : left = [] := List.eq_nil_of_length_eq_zero (by omega);subst this;simp [grT]
 | f + 1, g + 1, left, acc, h, hf, hg => by
  rw [grT, grT]
  split
  ·rfl
  rename_i hl;obtain ⟨p, hp, he, hgn⟩ := pick_gain h hl;rw [he];exact grT_fuel f g _ _ (covers_filter h _) (Nat.le_of_lt_succ (Nat.lt_of_lt_of_le (filt_lt hgn) hf)) (Nat.le_of_lt_succ (Nat.lt_of_lt_of_le (filt_lt hgn) hg))
def grL (P on : List Tx) : List Tx := grT P on.length on []
theorem grT_step {P left acc : List Tx} (h : covers P left) (hl : left ≠ []) : grT P left.length left acc = grT P (left.filter fun x => !hasC (pickT P left P.length).1 x).length (left.filter fun x => !hasC (pickT P left P.length).1 x) (acc ++ [(pickT P left P.length).1]) := by
 obtain ⟨p, hp, he, hgn⟩ := pick_gain h hl;have h2 := filt_lt hgn;rw [he];dsimp only;obtain ⟨n, hn⟩ : ∃ n, left.length = n + 1 := ⟨left.length - 1, by omega⟩;rw [hn, grT, if_neg hl, he];exact grT_fuel _ _ _ _ (covers_filter h _) (Nat.le_of_lt_succ (Nat.lt_of_lt_of_eq (filt_lt hgn) hn)) (Nat.le_refl _)
theorem grT_is {P : List Tx} : ∀ (f : Nat) (left acc : List Tx), covers P left → left.length ≤ f → (∀ p, p ∈ acc → p ∈ P) → (∀ p, p ∈ grT P f left acc → p ∈ P) ∧ (∀ x, (x ∈ left ∨ covB acc x = true) → covB (grT P f left acc) x = true) ∧ (grT P f left acc).length ≤ acc.length + left.length
 | 0, left, acc, _, hf, ha => by
  have : left = [] := List.eq_nil_of_length_eq_zero (by omega);subst this;exact ⟨ha, fun x hx => hx.resolve_left List.not_mem_nil, by simp [grT]⟩
 | f + 1, left, acc, h, hf, ha => by
  rw [grT]
  split
  ·rename_i hl;subst hl;exact ⟨ha, fun x hx => hx.resolve_left List.not_mem_nil, Nat.le_add_right _ _⟩
  rename_i hl;obtain ⟨p, hp, he, hgn⟩ := pick_gain h hl;rw [he];dsimp only
  obtain ⟨g1, g2, g3⟩ := grT_is f (left.filter fun x => !hasC p x) (acc ++ [p]) (covers_filter h _) (Nat.le_of_lt_succ (Nat.lt_of_lt_of_le (filt_lt hgn) hf)) (fun y hy => by
   rcases List.mem_append.1 hy with q | q
   ·exact ha y q
   rw [List.mem_singleton.1 q]; exact hp)
  refine ⟨g1, fun x hx => g2 x ?_, by rw [List.length_append] at g3; exact Nat.le_trans g3 (by rw [show acc.length + [p].length = acc.length + 1 from rfl, Nat.add_assoc, Nat.add_comm 1]; exact Nat.add_le_add_left (filt_lt hgn) _)⟩;rw [covB_append];have e2 : covB [p] x = hasC p x := by unfold covB; simp
  rw [e2];cases hpx : hasC p x with
  | true => exact .inr (by simp)
  | false =>
   rcases hx with q | q
   ·exact .inl (List.mem_filter.2 ⟨q, by rw [hpx]; rfl⟩)
   exact .inr (by rw [q]; rfl)
theorem grL_is {P on : List Tx} (h : covers P on) : (∀ p, p ∈ grL P on → p ∈ P) ∧ (∀ x, x ∈ on → covB (grL P on) x = true) ∧ (grL P on).length ≤ on.length := by
 obtain ⟨h1, h2, h3⟩ := grT_is on.length on [] h (Nat.le_refl _) (fun p hp => absurd hp List.not_mem_nil);refine ⟨h1, fun x hx => h2 x (.inl hx), ?_⟩;rw [show ([] : List Tx).length = 0 from rfl, Nat.zero_add] at h3;exact h3
def covAll (l codes : List Tx) : Bool := codes.all fun x => covB l x
def irrT (on : List Tx) : List Tx → List Tx → List Tx
 | pre, [] => pre
 | pre, x :: xs => if covAll (pre ++ xs) on = true then irrT on pre xs else irrT on (pre ++ [x]) xs
theorem irrT_is (on : List Tx) : ∀ (rest pre : List Tx), covAll (pre ++ rest) on = true → covAll (irrT on pre rest) on = true ∧ (irrT on pre rest).Sublist (pre ++ rest)
 | [], pre, h => by rw [irrT]; rw [List.append_nil] at h ⊢; exact ⟨h, List.Sublist.refl _⟩
 | x :: xs, pre, h => by
  rw [irrT]
  split
  ·rename_i hc;obtain ⟨h1, h2⟩ := irrT_is on xs pre hc;exact ⟨h1, h2.trans (List.Sublist.append_left (List.sublist_cons_self x xs) pre)⟩
  obtain ⟨h1, h2⟩ := irrT_is on xs (pre ++ [x]) (by rw [List.append_assoc]; exact h);rw [List.append_assoc] at h2;exact ⟨h1, h2⟩
theorem irrT_min {P on : List Tx} : ∀ (rest pre : List Tx), (∀ p, p ∈ pre ++ rest → p ∈ P) → (∀ q : List Tx, (∀ p, p ∈ q → p ∈ P) → (∀ x, x ∈ on → covB q x = true) → (pre ++ rest).length ≤ q.length) → irrT on pre rest = pre ++ rest
 | [], pre, _, _ => by rw [irrT, List.append_nil]
 | x :: xs, pre, hs, h => by
  rw [irrT, if_neg ?_]
  ·rw [irrT_min xs (pre ++ [x]) (by rw [List.append_assoc]; exact hs) (by rw [List.append_assoc]; exact h), List.append_assoc]; rfl
  intro hc;unfold covAll at hc;have := h (pre ++ xs) (fun p hp => hs p (by rcases List.mem_append.1 hp with q | q; exact List.mem_append_left _ q; exact List.mem_append_right _ (List.mem_cons_of_mem _ q))) (fun x hx => List.all_eq_true.1 hc x hx);simp only [List.length_append, List.length_cons] at this;omega
theorem bit_lit (x : UInt8) : bit x = (lit3 x && !(x == 45)) := by
 by_cases h48 : (x.toNat : Int) = 48
 ·have : x = 48 := UInt8.toNat_inj.1 (by show x.toNat = 48; omega);subst this; decide
 by_cases h49 : (x.toNat : Int) = 49
 ·have : x = 49 := UInt8.toNat_inj.1 (by show x.toNat = 49; omega);subst this; decide
 by_cases h45 : (x.toNat : Int) = 45
 ·have : x = 45 := UInt8.toNat_inj.1 (by show x.toNat = 45; omega);subst this; decide
 unfold bit lit3;rw [decide_eq_false h48, decide_eq_false h49, decide_eq_false h45]; rfl
theorem bits_lits (l : List UInt8) : l.all bit = (l.all lit3 && !l.contains 45) := by
 induction l with
 | nil => rfl
 | cons x l ih =>
  rw [List.all_cons, List.all_cons, ih, bit_lit, List.contains_cons];have e : (45 == x) = (x == 45) := by rw [Bool.eq_iff_iff, beq_iff_eq, beq_iff_eq]; exact eq_comm
  rw [e];cases lit3 x <;> cases (x == 45) <;> cases l.all lit3 <;> cases l.contains 45 <;> rfl
theorem codeB_eq (c : List UInt8) (n : Int) : codeB c n = (bitsB c n && (decide (1 ≤ n) && decide (n ≤ 8))) := by
 unfold codeB bitsB cubeB;rw [bits_lits];cases c.all lit3 <;> cases c.contains 45 <;> cases decide ((c.length : Int) = n) <;> cases decide (1 ≤ n) <;> cases decide (n ≤ 8) <;> rfl
theorem bits_len' {m : List UInt8} {n : Int} (h : bitsB m n = true) : (m.length : Int) = n := by
 simp only [bitsB, Bool.and_eq_true, decide_eq_true_eq] at h; exact h.2
theorem set_parts {c : List UInt8} {i : Nat} {b : UInt8} (h : i < c.length) : bstr (c.take i) ++ bstr [b] ++ bstr (c.drop (i + 1)) = bstr (c.set i b) := by
 rw [bstr_append, bstr_append, List.set_eq_take_append_cons_drop, if_pos h]; simp
set_option maxHeartbeats 1000000 in
theorem l5Set_spec (c : List UInt8) (i : Nat) (b : UInt8) (hc : c.length ≤ 2000000) (hi : i < c.length) : ASpec Tryz.prog 93 [aS (bstr c), aI i, aS (bstr [b])] [] (Pure1 (aS (bstr (c.set i b)))) := by
 have hsz := bstr_size c;have hx1 : (bstr c).extract 0 i = bstr (c.take i) := by rw [bstr_cut c (Nat.zero_le _) (by omega)]; simp
 have hx2 : (bstr c).extract (i + 1) (bstr c).size = bstr (c.drop (i + 1)) := by rw [hsz, bstr_cut c (by omega) (Nat.le_refl _), List.take_length]
 have hs1 : (bstr (c.take i)).size = i := by rw [bstr_size, List.length_take]; omega
 have hs2 : (bstr [b]).size = 1 := rfl;have hs3 : (bstr (c.drop (i + 1))).size = c.length - (i + 1) := by rw [bstr_size, List.length_drop]
 have hst := set_parts (b := b) hi;refine ASpec.of Tryz.func93 rfl rfl fun C hC => ?_
 refine AC.seq (AC.region ?_);refine za ?_;refine AL.nil (th_n (AC.seq ?_));refine AC.drawn' mixed_ok [[], [], [0,1], [], [0,1,2,3], [], [], [6], [5,6,7], [0,1,2,3,4,5,6,7,8], [0,1,2,3,4,5,6,7,8,9]] (by decide) ?_;refine zd 0 [] 11 (by exact mv1 rfl) ?_;refine zd 1 [] 11 (by exact mv1 rfl) ?_;refine zd 2 [0,1] 11 (by exact g_slice_str (h := i) rfl rfl .none (.some rfl rfl) (Nat.zero_le _) (by omega) hx1) ?_;refine zd 3 [] 11 (by exact mv1 rfl) ?_;refine zd 4 [0,1,2,3] 11 (by exact g_sadd rfl rfl (by omega)) ?_;refine zd 5 [] 11 (by exact mv1 rfl) ?_;refine zd 6 [] 11 (by exact mv1 rfl) ?_;refine zd 7 [6] 11 (by exact g_arith rfl rfl rfl (by exact wrap_i64 (by omega))) ?_;refine zd 8 [5,6,7] 11 (by exact g_slice_str (l := i + 1) rfl rfl (.some rfl rfl) .none (by omega) (Nat.le_refl _) hx2) ?_;refine zd 9 (List.range 9) 11 (by exact g_sadd rfl rfl (by rw [ByteArray.size_append]; omega)) ?_;refine zd 10 (List.range 10) 11 (by exact as1 rfl) ?_;refine zj 11 ?_;refine th_n (AC.ret (bq_r ?_));exact ret1 rfl (by rw [hst])
theorem en_l5Set : Enters Tryz.prog 93 := enters_of Tryz.func93 rfl rfl
theorem bless (a b : Tx) : Op.bytesLess (bstr a).toList (bstr b).toList = decide (a < b) := by
 rw [ByteArray.toList_eq, ByteArray.toList_eq, bstr_data, bstr_data, bytesLess_is]
theorem tx_at {l : List Tx} {k : Nat} (h : k < l.length) : l.getD k [] = l[k] := by rw [List.getD_eq_getElem?_getD, List.getElem?_eq_getElem h]; rfl
theorem strs_get {l : List Tx} {k : Nat} (h : k < l.length) : (strsL l)[k]? = some [dS (bstr (l.getD k []))] := by rw [strs_at h, tx_at h]
set_option maxHeartbeats 1000000 in
theorem indexStr2_spec (l : List Tx) (hl : l.length ≤ 2000000) (v : Tx) : ASpec Tryz.prog 80 [.d (vSs l), aS (bstr v)] [] (Pure1 (aI (findI (fun x => decide (v = x)) l))) := by
 refine ASpec.of Tryz.func80 rfl rfl fun C hC => ?_
 refine AC.seq (AC.region ?_);refine za ?_;refine AL.nil (th_n (AC.seq (AC.seq (AC.region ?_))));refine zm ?_;refine kH ?_;refine zm ?_;refine AL.nil (th_n (AC.block ?_));refine AC.loop (ι := Nat) (fun k => ⟨19, 0, [(0, .d (vSs l)), (1, aS (bstr v)), (6, .d (vSs l)), (7, aI l.length), (8, aI k)], []⟩) (fun k => k ≤ l.length ∧ ∀ j (hj : j < l.length), j < k → (fun x => decide (v = x)) l[j] = false) (fun k => l.length - k) (0) ?_ (⟨Nat.zero_le _, fun j _ hj => by omega⟩) ?_
 ·refine Weak.ren _ [] hC rfl ?_ ?_ rfl rfl rfl <;> repeat (first | exact True.intro | refine And.intro ?_ ?_ | exact DLead.same)
 intro k ⟨hk, hall⟩;refine AC.seq (AC.region ?_);refine zc ?_;refine AL.nil (th_n (AC.seq ?_));refine AC.condD rfl (fun h0 => ?_) (fun h0 => ?_)
 ·refine AC.skip (th_n (AC.seq (AC.block (AC.seq ?_))));have hk1 : k < l.length := by omega
  have hget := strs_at hk1;refine AC.region ?_;refine zm ?_;refine za ?_;refine AL.nil (th_n (AC.seq (AC.region ?_)));refine zm ?_;refine zm ?_;refine zm ?_;refine AL.p (by exact g_ia_view rfl rfl rfl rfl rfl (by rfl) (by assumption)) rfl ?_;refine zr ?_;refine AL.p (by exact g_scmp rfl rfl rfl) rfl ?_;refine AL.nil (th_n ?_);refine AC.condD rfl (fun h1 => ?_) (fun h1 => ?_)
  ·refine AC.seq (AC.region ?_);refine zm ?_;refine za ?_;refine AL.nil (th_n (AC.ret (ib_r (th_r (th_r (ib_r (th_r (bq_r ?_))))))));exact ret1 rfl (by rw [findI_at hk1 (p := fun x => decide (v = x)) (decide_eq_true (bstr_inj h1)) (fun j hj => hall j (by omega) hj)])
  refine AC.skip (ib_n (th_n (AC.region ?_)));refine zA ?_;refine zm ?_;refine AL.nil (th_n ?_);exact ⟨k + 1, ⟨by omega, fun j hj hj2 => by rcases Nat.lt_succ_iff_lt_or_eq.1 hj2 with h | rfl; exact hall j hj h; exact decide_eq_false (fun e => h1 (by rw [e]))⟩, by omega, Weak.ren _ [] hC rfl (by repeat (first | exact True.intro | refine And.intro ?_ ?_ | exact DLead.same)) (by repeat (exact True.intro)) rfl rfl rfl⟩
 refine AC.exit (th_e (th_e (ib_y (th_n (AC.seq (AC.region ?_))))));refine za ?_;refine AL.nil (th_n (AC.ret (bq_r ?_)));exact ret1 rfl (by rw [findI_none (fun j hj => hall j hj (by omega))])
theorem en_indexStr : Enters Tryz.prog 80 := enters_of Tryz.func80 rfl rfl
def inT (l : List Tx) (v : Tx) : Bool := l.any fun x => decide (v = x)
theorem containsStr2_spec (l : List Tx) (hl : l.length ≤ 2000000) (v : Tx) : ASpec Tryz.prog 46 [.d (vSs l), aS (bstr v)] [] (Pure1 (aT (inT l v))) := by
 have hI := indexStr2_spec l hl v;refine ASpec.of Tryz.func46 rfl rfl fun C hC => ?_
 refine AC.seq (AC.region ?_);refine za ?_;refine AL.nil (th_n (AC.seq (AC.region ?_)));refine zm ?_;refine zm ?_;refine kV en_indexStr hI ?_;refine zc ?_;refine za ?_;refine AL.nil (th_n (AC.ret (bq_r ?_)));exact ret1 rfl (by rw [findI_any]; rfl)
theorem en_containsStr : Enters Tryz.prog 46 := enters_of Tryz.func46 rfl rfl
set_option maxHeartbeats 1000000 in
theorem l1HasS2_spec (l : List Tx) (hl : l.length ≤ 2000000) (v : Tx) : ASpec Tryz.prog 72 [.d (vSs l), aS (bstr v)] [] (Pure1 (aT (inT l v))) := by
 refine ASpec.of Tryz.func72 rfl rfl fun C hC => ?_
 refine AC.seq (AC.region ?_);refine za ?_;refine AL.nil (th_n (AC.seq (AC.seq (AC.region ?_))));refine zm ?_;refine kH ?_;refine zm ?_;refine AL.nil (th_n (AC.block ?_));refine AC.loop (ι := Nat) (fun k => ⟨17, 0, [(1, aS (bstr v)), (7, .d (vSs l)), (8, aI l.length), (9, aI k)], []⟩) (fun k => k ≤ l.length ∧ ∀ j (hj : j < l.length), j < k → ¬ v = l[j]) (fun k => l.length - k) (0) ?_ (⟨Nat.zero_le _, fun j _ hj => by omega⟩) ?_
 ·refine Weak.ren _ [] hC rfl ?_ ?_ rfl rfl rfl <;> repeat (first | exact True.intro | refine And.intro ?_ ?_ | exact DLead.same)
 intro k ⟨hk, hall⟩;refine AC.seq (AC.region ?_);refine zc ?_;refine AL.nil (th_n (AC.seq ?_));refine AC.condD rfl (fun h0 => ?_) (fun h0 => ?_)
 ·refine AC.skip (th_n (AC.seq (AC.block (AC.seq ?_))));have hk1 : k < l.length := by omega
  have hget := strs_at hk1;refine AC.region ?_;refine AL.p (by exact g_ia_view rfl rfl rfl rfl rfl (by rfl) (by assumption)) rfl ?_;refine zr ?_;refine za ?_;refine AL.nil (th_n (AC.seq (AC.region ?_)));refine zm ?_;refine zm ?_;refine AL.p (by exact g_scmp rfl rfl rfl) rfl ?_;refine AL.nil (th_n ?_);refine AC.condD rfl (fun h1 => ?_) (fun h1 => ?_)
  ·refine AC.seq (AC.region ?_);refine za ?_;refine AL.nil (th_n (AC.ret (ib_r (th_r (th_r (ib_r (th_r (bq_r ?_))))))));exact ret1 rfl (by unfold inT; rw [List.any_eq_true.2 ⟨_, List.getElem_mem hk1, decide_eq_true (bstr_inj h1).symm⟩])
  refine AC.skip (ib_n (th_n (AC.region ?_)));refine zA ?_;refine zm ?_;refine AL.nil (th_n ?_);exact ⟨k + 1, ⟨by omega, fun j hj hj2 => by rcases Nat.lt_succ_iff_lt_or_eq.1 hj2 with h | rfl; exact hall j hj h; exact fun e => h1 (by rw [e])⟩, by omega, Weak.ren _ [] hC rfl (by repeat (first | exact True.intro | refine And.intro ?_ ?_ | exact DLead.same)) (by repeat (exact True.intro)) rfl rfl rfl⟩
 refine AC.exit (th_e (th_e (ib_y (th_n (AC.seq (AC.region ?_))))));refine za ?_;refine AL.nil (th_n (AC.ret (bq_r ?_)));exact ret1 rfl (by unfold inT; rw [List.any_eq_false.2 (fun x hx => by obtain ⟨j, hj, rfl⟩ := List.getElem_of_mem hx; have := hall j hj (by omega); simpa using this)])
theorem en_l1HasS : Enters Tryz.prog 72 := enters_of Tryz.func72 rfl rfl
def cdA (n : Int) (l : List Tx) (i : Nat) : Bool := bitsB (l.getD i []) n && (decide (i = 0) || decide (l.getD (i - 1) [] < l.getD i []))
def cdsB (n : Int) (l : List Tx) : Bool := allN l.length (cdA n l)
theorem cdA_no1 {n : Int} {l : List Tx} {i : Nat} (h : bitsB (l.getD i []) n = false) : cdA n l i = false := by unfold cdA; rw [h]; rfl
theorem cdA_no2 {n : Int} {l : List Tx} {i : Nat} (h0 : 0 < i) (h : decide (l.getD (i - 1) [] < l.getD i []) = false) : cdA n l i = false := by unfold cdA; rw [h, decide_eq_false (by omega)]; simp
theorem cdA_yes {n : Int} {l : List Tx} {i : Nat} (h : bitsB (l.getD i []) n = true) (h2 : i = 0 ∨ decide (l.getD (i - 1) [] < l.getD i []) = true) : cdA n l i = true := by
 unfold cdA;rw [h, Bool.true_and, Bool.or_eq_true];exact h2.imp (fun e => decide_eq_true e) id
set_option maxHeartbeats 4000000 in
theorem areCodes_spec (n : Int) (l : List Tx) (k : Int) (hn : 1 ≤ n ∧ n ≤ 8) (hl : l.length ≤ 1000000) (hb : ∀ c, c ∈ l → c.length ≤ 2000000) : ASpec Tryz.prog 43 [aI n, .d (vSs l), aI k] [] (Pure1 (aT (cdsB n l && decide ((l.length : Int) ≤ k)))) := by
 have hC : ∀ c : Tx, c.length ≤ 2000000 → ASpec Tryz.prog 79 [aS (bstr c), aI n] [] (Pure1 (aT (bitsB c n))) := fun c h => by
  have := isCode_spec c n h
  rwa [codeB_eq, decide_eq_true hn.1, decide_eq_true hn.2, Bool.and_true, Bool.and_true] at this
 refine ASpec.of Tryz.func43 rfl rfl fun C hCC => ?_
 have hC0 : C.k = [].length := hCC;refine AC.seq (AC.region ?_);refine za ?_;refine AL.nil (th_n (AC.seq (AC.seq (AC.region ?_))));refine zm ?_;refine kI l.length (strsL_len _) ?_;refine zm ?_;refine AL.nil (th_n (AC.block ?_));refine AC.loop (ι := Nat) (fun i => ⟨38, 100, [(0, aI n), (1, .d (vSs l)), (2, aI k), (9, .d (vSs l)), (10, aI l.length), (11, aI i)], []⟩) (fun i => i ≤ l.length ∧ ∀ j, j < i → cdA n l j = true) (fun i => l.length - i) (0) ?_ (⟨Nat.zero_le _, fun j hj => by omega⟩) ?_
 ·exact Weak.ren _ [] hC0 rfl (by repeat (first | exact True.intro | refine And.intro ?_ ?_ | exact DLead.same)) (by repeat (exact True.intro)) rfl rfl rfl
 intro i ⟨hi, hall⟩;refine AC.seq (AC.region ?_);refine zc ?_;refine AL.nil (th_n (AC.seq ?_));refine AC.condD rfl (fun h0 => ?_) (fun h0 => ?_)
 ·refine AC.skip (th_n (AC.seq (AC.block (AC.seq ?_))));have hi1 : i < l.length := by omega
  have hget := strs_get hi1;have hci := hC (l.getD i []) (by rw [tx_at hi1]; exact hb _ (List.getElem_mem hi1));have hn1 := @cdA_no1 n l i;have hn2 := @cdA_no2 n l i;have hy := @cdA_yes n l i;have hge := bless (l.getD (i - 1) []) (l.getD i []);have hgp : 0 < i → (strsL l)[i - 1]? = some [dS (bstr (l.getD (i - 1) []))] := fun h => strs_get (by omega)
  obtain ⟨lt, hlt⟩ := eqx (decide (l.getD (i - 1) [] < l.getD i []));rw [← hlt] at hn2 hy hge;obtain ⟨b1, hb1⟩ := eqx (bitsB (l.getD i []) n);rw [← hb1] at hci hn1 hy;obtain ⟨x, hx⟩ := eqx (l.getD i []);obtain ⟨y, hy0⟩ := eqx (l.getD (i - 1) []);rw [← hx] at hget hci hge;rw [← hy0] at hge hgp;clear hlt hb1 hx hy0;refine AC.region ?_;refine zm ?_;refine AL.p (by exact g_ia_view (i := i) rfl rfl rfl rfl rfl rfl hget) rfl ?_;refine zr ?_;refine za ?_;refine za ?_;refine AL.nil (th_n (AC.seq (AC.region ?_)));refine zm ?_;refine zm ?_;refine kV en_isCode hci ?_;refine kC ?_;refine zm ?_;refine AL.caseGB rfl rfl (fun h1 => ?_) (fun h1 => ?_)
  ·refine zn ?_;refine zn ?_;refine zn ?_;refine AL.notU rfl rfl rfl ?_;refine AL.notU rfl rfl rfl ?_;refine AL.notU rfl rfl rfl ?_;refine AL.notU rfl rfl rfl ?_;refine AL.notU rfl rfl rfl ?_;refine AL.notU rfl rfl rfl ?_;refine AL.notU rfl rfl rfl ?_;refine zn ?_;refine zQ ?_;refine AL.nil (th_n ?_);refine AC.condT rfl ?_;refine AC.seq (AC.region ?_);refine za ?_;refine AL.nil (th_n (AC.ret (ib_r (th_r (th_r (ib_r (th_r (bq_r ?_))))))));have hf : cdA n l i = false := by exact hn1 (by have q := ‹(!b1) = true›; simpa using q)
   exact ret1 rfl (by unfold cdsB; rw [allN_false hi1 hf]; rfl)
  refine zy ?_;refine zm ?_;refine zy ?_;refine zc ?_;refine zy ?_;refine zm ?_;refine AL.caseG rfl rfl (fun h2 => ?_) (fun h2 => ?_)
  ·refine zy ?_;refine zm ?_;refine zy ?_;refine zm ?_;refine zy ?_;refine zA ?_;refine zy ?_;refine AL.p (by exact g_ia_view (i := i - 1) rfl rfl rfl rfl rfl (by omega) (hgp (by omega))) rfl ?_;refine zy ?_;refine zr ?_;refine zy ?_;refine zm ?_;refine zy ?_;refine AL.p (by exact g_scmp (r := !lt) rfl rfl (by show some (!_) = _; rw [hge])) rfl ?_;refine zy ?_;refine zQ ?_;refine zP ?_;refine AL.nil (th_n ?_);refine AC.condB rfl (fun h3 => ?_) (fun h3 => ?_)
   ·refine AC.seq (AC.region ?_);refine za ?_;refine AL.nil (th_n (AC.ret (ib_r (th_r (th_r (ib_r (th_r (bq_r ?_))))))));have hf : cdA n l i = false := by exact hn2 (by omega) (by have q := ‹(!lt) = true›; simpa using q)
    exact ret1 rfl (by unfold cdsB; rw [allN_false hi1 hf]; rfl)
   refine AC.skip (ib_n (th_n (AC.region ?_)));refine zA ?_;refine zm ?_;refine AL.nil (th_n ?_);have hf : cdA n l i = true := hy (by have q := ‹(!b1) = false›; simpa using q) (by exact .inr (by have q := ‹(!lt) = false›; simpa using q));exact ⟨i + 1, ⟨by omega, fun j hj => by rcases Nat.lt_succ_iff_lt_or_eq.1 hj with h | rfl; exact hall j h; exact hf⟩, by omega, Weak.ren _ [] hC0 rfl (by repeat (first | exact True.intro | refine And.intro ?_ ?_ | exact DLead.same)) (by repeat (exact True.intro)) rfl rfl rfl⟩
  refine zn ?_;refine zn ?_;refine zn ?_;refine zn ?_;refine zn ?_;refine zn ?_;refine zn ?_;refine zy ?_;refine zP ?_;refine zP ?_;refine AL.nil (th_n ?_);refine AC.condF rfl ?_;refine AC.skip (ib_n (th_n (AC.region ?_)));refine zA ?_;refine zm ?_;refine AL.nil (th_n ?_);have hf : cdA n l i = true := hy (by have q := ‹(!b1) = false›; simpa using q) (by exact .inl (by omega));exact ⟨i + 1, ⟨by omega, fun j hj => by rcases Nat.lt_succ_iff_lt_or_eq.1 hj with h | rfl; exact hall j h; exact hf⟩, by omega, Weak.ren _ [] hC0 rfl (by repeat (first | exact True.intro | refine And.intro ?_ ?_ | exact DLead.same)) (by repeat (exact True.intro)) rfl rfl rfl⟩
 refine AC.exit (th_e (th_e (ib_y (th_n (AC.seq (AC.region ?_))))));refine zm ?_;refine kI l.length (strsL_len _) ?_;refine zm ?_;refine zc ?_;refine za ?_;refine AL.nil (th_n (AC.ret (bq_r ?_)));have hf : cdsB n l = true := allN_true fun j hj => hall j (by omega)
 exact ret1 rfl (by rw [hf, Bool.true_and])
theorem en_areCodes : Enters Tryz.prog 43 := enters_of Tryz.func43 rfl rfl
set_option maxHeartbeats 4000000 in
theorem l14Codes_spec (n : Int) (l : List Tx) (hl : l.length ≤ 1000000) (hb : ∀ c, c ∈ l → c.length ≤ 2000000) : ASpec Tryz.prog 71 [aI n, .d (vSs l)] [] (Pure1 (aT (cdsB n l))) := by
 have hC := fun (c : Tx) h => l5Code_spec c n h
 refine ASpec.of Tryz.func71 rfl rfl fun C hCC => ?_
 have hC0 : C.k = [].length := hCC;refine AC.seq (AC.region ?_);refine za ?_;refine AL.nil (th_n (AC.seq (AC.seq (AC.region ?_))));refine zm ?_;refine kI l.length (strsL_len _) ?_;refine zm ?_;refine AL.nil (th_n (AC.block ?_));refine AC.loop (ι := Nat) (fun i => ⟨32, 100, [(0, aI n), (1, .d (vSs l)), (7, .d (vSs l)), (8, aI l.length), (9, aI i)], []⟩) (fun i => i ≤ l.length ∧ ∀ j, j < i → cdA n l j = true) (fun i => l.length - i) (0) ?_ (⟨Nat.zero_le _, fun j hj => by omega⟩) ?_
 ·exact Weak.ren _ [] hC0 rfl (by repeat (first | exact True.intro | refine And.intro ?_ ?_ | exact DLead.same)) (by repeat (exact True.intro)) rfl rfl rfl
 intro i ⟨hi, hall⟩;refine AC.seq (AC.region ?_);refine zc ?_;refine AL.nil (th_n (AC.seq ?_));refine AC.condD rfl (fun h0 => ?_) (fun h0 => ?_)
 ·refine AC.skip (th_n (AC.seq (AC.block (AC.seq ?_))));have hi1 : i < l.length := by omega
  have hget := strs_get hi1;have hci := hC (l.getD i []) (by rw [tx_at hi1]; exact hb _ (List.getElem_mem hi1));have hn1 := @cdA_no1 n l i;have hn2 := @cdA_no2 n l i;have hy := @cdA_yes n l i;have hge := bless (l.getD (i - 1) []) (l.getD i []);have hgp : 0 < i → (strsL l)[i - 1]? = some [dS (bstr (l.getD (i - 1) []))] := fun h => strs_get (by omega)
  obtain ⟨lt, hlt⟩ := eqx (decide (l.getD (i - 1) [] < l.getD i []));rw [← hlt] at hn2 hy hge;obtain ⟨b1, hb1⟩ := eqx (bitsB (l.getD i []) n);rw [← hb1] at hci hn1 hy;obtain ⟨x, hx⟩ := eqx (l.getD i []);obtain ⟨y, hy0⟩ := eqx (l.getD (i - 1) []);rw [← hx] at hget hci hge;rw [← hy0] at hge hgp;clear hlt hb1 hx hy0;refine AC.region ?_;refine zm ?_;refine AL.p (by exact g_ia_view (i := i) rfl rfl rfl rfl rfl rfl hget) rfl ?_;refine zr ?_;refine za ?_;refine za ?_;refine AL.nil (th_n (AC.seq (AC.region ?_)));refine zm ?_;refine zm ?_;refine kV en_l5Code hci ?_;refine kC ?_;refine zm ?_;refine AL.caseGB rfl rfl (fun h1 => ?_) (fun h1 => ?_)
  ·refine zn ?_;refine zn ?_;refine zn ?_;refine AL.notU rfl rfl rfl ?_;refine AL.notU rfl rfl rfl ?_;refine AL.notU rfl rfl rfl ?_;refine AL.notU rfl rfl rfl ?_;refine AL.notU rfl rfl rfl ?_;refine AL.notU rfl rfl rfl ?_;refine AL.notU rfl rfl rfl ?_;refine zn ?_;refine zQ ?_;refine AL.nil (th_n ?_);refine AC.condT rfl ?_;refine AC.seq (AC.region ?_);refine za ?_;refine AL.nil (th_n (AC.ret (ib_r (th_r (th_r (ib_r (th_r (bq_r ?_))))))));have hf : cdA n l i = false := by exact hn1 (by have q := ‹(!b1) = true›; simpa using q)
   exact ret1 rfl (by unfold cdsB; rw [allN_false hi1 hf])
  refine zy ?_;refine zm ?_;refine zy ?_;refine zc ?_;refine zy ?_;refine zm ?_;refine AL.caseG rfl rfl (fun h2 => ?_) (fun h2 => ?_)
  ·refine zy ?_;refine zm ?_;refine zy ?_;refine zm ?_;refine zy ?_;refine zA ?_;refine zy ?_;refine AL.p (by exact g_ia_view (i := i - 1) rfl rfl rfl rfl rfl (by omega) (hgp (by omega))) rfl ?_;refine zy ?_;refine zr ?_;refine zy ?_;refine zm ?_;refine zy ?_;refine AL.p (by exact g_scmp (r := !lt) rfl rfl (by show some (!_) = _; rw [hge])) rfl ?_;refine zy ?_;refine zQ ?_;refine zP ?_;refine AL.nil (th_n ?_);refine AC.condB rfl (fun h3 => ?_) (fun h3 => ?_)
   ·refine AC.seq (AC.region ?_);refine za ?_;refine AL.nil (th_n (AC.ret (ib_r (th_r (th_r (ib_r (th_r (bq_r ?_))))))));have hf : cdA n l i = false := by exact hn2 (by omega) (by have q := ‹(!lt) = true›; simpa using q)
    exact ret1 rfl (by unfold cdsB; rw [allN_false hi1 hf])
   refine AC.skip (ib_n (th_n (AC.region ?_)));refine zA ?_;refine zm ?_;refine AL.nil (th_n ?_);have hf : cdA n l i = true := hy (by have q := ‹(!b1) = false›; simpa using q) (by exact .inr (by have q := ‹(!lt) = false›; simpa using q));exact ⟨i + 1, ⟨by omega, fun j hj => by rcases Nat.lt_succ_iff_lt_or_eq.1 hj with h | rfl; exact hall j h; exact hf⟩, by omega, Weak.ren _ [] hC0 rfl (by repeat (first | exact True.intro | refine And.intro ?_ ?_ | exact DLead.same)) (by repeat (exact True.intro)) rfl rfl rfl⟩
  refine zn ?_;refine zn ?_;refine zn ?_;refine zn ?_;refine zn ?_;refine zn ?_;refine zn ?_;refine zy ?_;refine zP ?_;refine zP ?_;refine AL.nil (th_n ?_);refine AC.condF rfl ?_;refine AC.skip (ib_n (th_n (AC.region ?_)));refine zA ?_;refine zm ?_;refine AL.nil (th_n ?_);have hf : cdA n l i = true := hy (by have q := ‹(!b1) = false›; simpa using q) (by exact .inl (by omega));exact ⟨i + 1, ⟨by omega, fun j hj => by rcases Nat.lt_succ_iff_lt_or_eq.1 hj with h | rfl; exact hall j h; exact hf⟩, by omega, Weak.ren _ [] hC0 rfl (by repeat (first | exact True.intro | refine And.intro ?_ ?_ | exact DLead.same)) (by repeat (exact True.intro)) rfl rfl rfl⟩
 refine AC.exit (th_e (th_e (ib_y (th_n (AC.seq (AC.region ?_))))));refine za ?_;refine AL.nil (th_n (AC.ret (bq_r ?_)));have hf : cdsB n l = true := allN_true fun j hj => hall j (by omega)
 exact ret1 rfl (by rw [hf])
theorem en_l14Codes : Enters Tryz.prog 71 := enters_of Tryz.func71 rfl rfl
def metB (on off : List Tx) : Bool := on.any fun c => inT off c
def onoffB (n : Int) (on off : List Tx) : Bool := (decide (1 ≤ n) && decide (n ≤ 8)) && ((cdsB n on && decide ((on.length : Int) ≤ 64)) && ((cdsB n off && decide ((off.length : Int) ≤ 256)) && !metB on off))
theorem iOnOff1_spec (off : List Tx) (c : Tx) (hl : off.length ≤ 1000000) : ASpec Tryz.prog 45 [aS (bstr c), .d (.ref [vSs off])] [] (Pure1 (aT (inT off c))) := by
 have hI := containsStr2_spec off (by omega) c;refine ASpec.of Tryz.func45 rfl rfl fun C hC => ?_
 refine AC.seq (AC.region ?_);refine za ?_;refine AL.nil (th_n (AC.seq (AC.region ?_)));refine zr ?_;refine zm ?_;refine kV en_containsStr hI ?_;refine za ?_;refine AL.nil (th_n (AC.ret (bq_r ?_)));exact ret1 rfl rfl
theorem en_iOnOff1 : Enters Tryz.prog 45 := enters_of Tryz.func45 rfl rfl
set_option maxHeartbeats 4000000 in
theorem iOnOff_spec (n : Int) (on off : List Tx) (hl : on.length ≤ 1000000) (hl2 : off.length ≤ 1000000) (hb : ∀ c, c ∈ on → c.length ≤ 2000000) (hb2 : ∀ c, c ∈ off → c.length ≤ 2000000) : ASpec Tryz.prog 12 [aI n, .d (vSs on), .d (vSs off)] [] (Pure1 (aT (onoffB n on off))) := by
 have hW := within_spec n 1 8;have hA := fun h => areCodes_spec n on 64 h hl hb
 have hB := fun h => areCodes_spec n off 256 h hl2 hb2
 have hM := cfStr_spec on hl 45 [.ref [vSs off]] en_iOnOff1 (inT off) (fun c _ => iOnOff1_spec off c hl2);have hin : (decide (1 ≤ n) && decide (n ≤ 8)) = true → 1 ≤ n ∧ n ≤ 8 := fun h => by simpa using h
 unfold onoffB;rw [show (on.any (inT off)) = metB on off from rfl] at hM;obtain ⟨b1, e1⟩ := eqx ((decide (1 ≤ n) && decide (n ≤ 8)));obtain ⟨b2, e2⟩ := eqx ((cdsB n on && decide ((on.length : Int) ≤ 64)));obtain ⟨b3, e3⟩ := eqx ((cdsB n off && decide ((off.length : Int) ≤ 256)));obtain ⟨b4, e4⟩ := eqx (metB on off);rw [← e1] at hin ⊢;rw [← e2] at hA ⊢;rw [← e3] at hB ⊢;rw [← e4] at hM ⊢;have hW' : ASpec Tryz.prog 42 [aI n, aI 1, aI 8] [] (Pure1 (aT b1)) := by rw [e1]; exact hW
 refine ASpec.of Tryz.func12 rfl rfl fun C hC => ?_
 refine AC.seq (AC.region ?_);refine kD ?_;refine za ?_;refine AL.nil (th_n (AC.seq (AC.region ?_)));refine zm ?_;refine kV en_within hW' ?_;refine zm ?_;refine AL.caseGB rfl rfl (fun h0 => ?_) (fun h0 => ?_)
 ·refine zy ?_;refine zm ?_;refine zy ?_;refine zm ?_;refine zy ?_;refine kV en_areCodes (hA (hin ‹b1 = true›)) ?_;refine zQ ?_;refine zm ?_;refine AL.caseGB rfl rfl (fun h1 => ?_) (fun h1 => ?_)
  ·refine zy ?_;refine zm ?_;refine zy ?_;refine zr ?_;refine zy ?_;refine kV en_areCodes (hB (hin ‹b1 = true›)) ?_;refine zQ ?_;refine zm ?_;refine AL.caseGB rfl rfl (fun h2 => ?_) (fun h2 => ?_)
   ·refine zy ?_;refine zm ?_;refine zy ?_;refine AL.p (by exact g_fn rfl) rfl ?_;refine zy ?_;refine kV en_cfStr hM ?_;refine zy ?_;refine kC ?_;refine zQ ?_;refine za ?_;refine AL.nil (th_n (AC.ret (bq_r ?_)));exact ret1 rfl (by rw [‹b1 = true›, ‹b2 = true›, ‹b3 = true›]; cases b4 <;> rfl)
   refine zn ?_;refine zn ?_;refine zn ?_;refine zn ?_;refine zP ?_;refine za ?_;refine AL.nil (th_n (AC.ret (bq_r ?_)))
   (have q := ‹b3 = false›; exact ret1 rfl (by rw [q, ‹b1 = true›, ‹b2 = true›]; rfl))
  refine zn ?_;refine zn ?_;refine zn ?_;refine zP ?_;refine zm ?_;refine zn ?_;refine zn ?_;refine zn ?_;refine zn ?_;refine zP ?_;refine za ?_;refine AL.nil (th_n (AC.ret (bq_r ?_)))
  (have q := ‹b2 = false›; exact ret1 rfl (by rw [q]; cases b1 <;> rfl))
 refine zn ?_;refine zn ?_;refine zn ?_;refine zP ?_;refine zm ?_;refine zn ?_;refine zn ?_;refine zn ?_;refine zP ?_;refine zm ?_;refine zn ?_;refine zn ?_;refine zn ?_;refine zn ?_;refine zP ?_;refine za ?_;refine AL.nil (th_n (AC.ret (bq_r ?_)))
 (have q := ‹b1 = false›; exact ret1 rfl (by rw [q]; rfl))
theorem en_iOnOff : Enters Tryz.prog 12 := enters_of Tryz.func12 rfl rfl
set_option maxHeartbeats 8000000 in
theorem l14Sets_spec (n : Int) (on off : List Tx) (hl : on.length ≤ 1000000) (hl2 : off.length ≤ 1000000) (hb : ∀ c, c ∈ on → c.length ≤ 2000000) (hb2 : ∀ c, c ∈ off → c.length ≤ 2000000) : ASpec Tryz.prog 31 [aI n, .d (vSs on), .d (vSs off)] [] (Pure1 (aT (onoffB n on off))) := by
 have hW := l1In_spec n 1 8;have hA := l14Codes_spec n on hl hb;have hB := l14Codes_spec n off hl2 hb2;have hH := fun c => l1HasS2_spec off (by omega) c
 have hR : onoffB n on off = ((decide (1 ≤ n) && decide (n ≤ 8)) && ((cdsB n on && decide ((on.length : Int) ≤ 64)) && ((cdsB n off && decide ((off.length : Int) ≤ 256)) && !metB on off))) := rfl;obtain ⟨b1, e1⟩ := eqx ((decide (1 ≤ n) && decide (n ≤ 8)));obtain ⟨b2, e2⟩ := eqx (cdsB n on);obtain ⟨b3, e3⟩ := eqx (cdsB n off);obtain ⟨d1, f1⟩ := eqx (decide ((on.length : Int) ≤ 64));obtain ⟨d2, f2⟩ := eqx (decide ((off.length : Int) ≤ 256));have g1 : decide ((on.length : Int) > 64) = !d1 := by rw [f1, ← decide_not]; exact decide_eq_decide.2 ⟨fun h => by omega, fun h => by omega⟩
 have g2 : decide ((off.length : Int) > 256) = !d2 := by rw [f2, ← decide_not]; exact decide_eq_decide.2 ⟨fun h => by omega, fun h => by omega⟩
 rw [← e1, ← e2, ← e3, ← f1, ← f2] at hR;rw [← e2] at hA;rw [← e3] at hB;have hW' : ASpec Tryz.prog 70 [aI n, aI 1, aI 8] [] (Pure1 (aT b1)) := by rw [e1]; exact hW
 obtain ⟨R, hRR⟩ := eqx (onoffB n on off);rw [← hRR] at hR ⊢;clear e1 e2 e3 f1 f2 hRR hW;refine ASpec.of Tryz.func31 rfl rfl fun C hC => ?_
 refine AC.seq (AC.region ?_);refine za ?_;refine AL.nil (th_n (AC.seq (AC.seq (AC.region ?_))));refine zm ?_;refine kV en_l1In hW' ?_;refine kC ?_;refine zm ?_;refine AL.caseGB rfl rfl (fun h0 => ?_) (fun h0 => ?_)
 ·refine zn ?_;refine zn ?_;refine zn ?_;refine zQ ?_;refine zm ?_;refine zn ?_;refine zn ?_;refine zn ?_;refine zQ ?_;refine zm ?_;refine zn ?_;refine zn ?_;refine zn ?_;refine zn ?_;refine zQ ?_;refine zm ?_;refine zn ?_;refine zn ?_;refine zn ?_;refine zn ?_;refine zQ ?_;refine AL.nil (th_n ?_);refine AC.condT rfl ?_;refine AC.seq (AC.region ?_);refine za ?_;refine AL.nil (th_n (AC.ret (th_r (bq_r ?_))));have hf : R = false := by rw [hR]; (have q := ‹(!b1) = true›; revert q; cases b1 <;> simp)
  exact ret1 rfl (by rw [hf])
 refine zy ?_;refine zm ?_;refine zy ?_;refine kI on.length (strsL_len _) ?_;refine zy ?_;refine AL.p (by exact g_cmp (r := !d1) rfl rfl (congrArg some g1)) rfl ?_;refine zP ?_;refine zm ?_;refine AL.caseGB rfl rfl (fun h1 => ?_) (fun h1 => ?_)
 ·refine zn ?_;refine zn ?_;refine zn ?_;refine zQ ?_;refine zm ?_;refine zn ?_;refine zn ?_;refine zn ?_;refine zn ?_;refine zQ ?_;refine zm ?_;refine zn ?_;refine zn ?_;refine zn ?_;refine zn ?_;refine zQ ?_;refine AL.nil (th_n ?_);refine AC.condT rfl ?_;refine AC.seq (AC.region ?_);refine za ?_;refine AL.nil (th_n (AC.ret (th_r (bq_r ?_))));have hf : R = false := by rw [hR]; (have q := ‹(!d1) = true›; revert q; cases d1 <;> simp)
  exact ret1 rfl (by rw [hf])
 refine zy ?_;refine zm ?_;refine zy ?_;refine kI off.length (strsL_len _) ?_;refine zy ?_;refine AL.p (by exact g_cmp (r := !d2) rfl rfl (congrArg some g2)) rfl ?_;refine zP ?_;refine zm ?_;refine AL.caseGB rfl rfl (fun h2 => ?_) (fun h2 => ?_)
 ·refine zn ?_;refine zn ?_;refine zn ?_;refine zn ?_;refine zQ ?_;refine zm ?_;refine zn ?_;refine zn ?_;refine zn ?_;refine zn ?_;refine zQ ?_;refine AL.nil (th_n ?_);refine AC.condT rfl ?_;refine AC.seq (AC.region ?_);refine za ?_;refine AL.nil (th_n (AC.ret (th_r (bq_r ?_))));have hf : R = false := by rw [hR]; (have q := ‹(!d2) = true›; revert q; cases d2 <;> simp)
  exact ret1 rfl (by rw [hf])
 refine zy ?_;refine zm ?_;refine zy ?_;refine zm ?_;refine zy ?_;refine kV en_l14Codes hA ?_;refine zy ?_;refine kC ?_;refine zP ?_;refine zm ?_;refine AL.caseGB rfl rfl (fun h3 => ?_) (fun h3 => ?_)
 ·refine zn ?_;refine zn ?_;refine zn ?_;refine zn ?_;refine zQ ?_;refine AL.nil (th_n ?_);refine AC.condT rfl ?_;refine AC.seq (AC.region ?_);refine za ?_;refine AL.nil (th_n (AC.ret (th_r (bq_r ?_))));have hf : R = false := by rw [hR]; (have q := ‹(!b2) = true›; revert q; cases b2 <;> simp)
  exact ret1 rfl (by rw [hf])
 refine zy ?_;refine zm ?_;refine zy ?_;refine zm ?_;refine zy ?_;refine kV en_l14Codes hB ?_;refine zy ?_;refine kC ?_;refine zP ?_;refine AL.nil (th_n ?_);refine AC.condB rfl (fun h4 => ?_) (fun h4 => ?_)
 ·refine AC.seq (AC.region ?_);refine za ?_;refine AL.nil (th_n (AC.ret (th_r (bq_r ?_))));have hf : R = false := by rw [hR]; (have q := ‹(!b3) = true›; revert q; cases b3 <;> simp)
  exact ret1 rfl (by rw [hf])
 refine AC.skip (th_n (AC.seq (AC.seq ?_)));have c1 : b1 = true := by have q := ‹(!b1) = false›; simpa using q
 have c2 : d1 = true := by have q := ‹(!d1) = false›; simpa using q
 have c3 : d2 = true := by have q := ‹(!d2) = false›; simpa using q
 have c4 : b2 = true := by have q := ‹(!b2) = false›; simpa using q
 have c5 : b3 = true := by have q := ‹(!b3) = false›; simpa using q
 rw [c1, c2, c3, c4, c5] at hR;have hR : R = !metB on off := hR;refine AC.region ?_;refine zm ?_;refine kI on.length (strsL_len _) ?_;refine zm ?_;refine AL.nil (th_n (AC.block ?_));refine AC.loop (ι := Nat) (fun i => ⟨44, 300, [(2, .d (vSs off)), (34, .d (vSs on)), (35, aI on.length), (36, aI i)], []⟩) (fun i => i ≤ on.length ∧ ∀ j (hj : j < on.length), j < i → inT off on[j] = false) (fun i => on.length - i) (0) ?_ (⟨Nat.zero_le _, fun j _ hj => by omega⟩) ?_
 ·exact Weak.ren _ [] hC rfl (by repeat (first | exact True.intro | refine And.intro ?_ ?_ | exact DLead.same)) (by repeat (exact True.intro)) rfl rfl rfl
 intro i ⟨hi, hall⟩;refine AC.seq (AC.region ?_);refine zc ?_;refine AL.nil (th_n (AC.seq ?_));refine AC.condD rfl (fun h5 => ?_) (fun h5 => ?_)
 ·refine AC.skip (th_n (AC.seq (AC.block (AC.seq ?_))));have hi1 : i < on.length := by omega
  have hget := strs_at hi1;have hHi := hH on[i];obtain ⟨b, hb⟩ := eqx (inT off on[i]);rw [← hb] at hHi;refine AC.region ?_;refine AL.p (by exact g_ia_view (i := i) rfl rfl rfl rfl rfl rfl hget) rfl ?_;refine zr ?_;refine za ?_;refine AL.nil (th_n (AC.seq (AC.region ?_)));refine zm ?_;refine zm ?_;refine kV en_l1HasS hHi ?_;refine AL.nil (th_n ?_);refine AC.condB rfl (fun h6 => ?_) (fun h6 => ?_)
  ·refine AC.seq (AC.region ?_);refine za ?_;refine AL.nil (th_n (AC.ret (ib_r (th_r (th_r (ib_r (th_r (bq_r ?_))))))));have hf : metB on off = true := List.any_eq_true.2 ⟨_, List.getElem_mem hi1, hb.symm.trans ‹b = true›⟩;exact ret1 rfl (by rw [hR, hf]; rfl)
  refine AC.skip (ib_n (th_n (AC.region ?_)));refine zA ?_;refine zm ?_;refine AL.nil (th_n ?_);exact ⟨i + 1, ⟨by omega, fun j hj hj2 => by rcases Nat.lt_succ_iff_lt_or_eq.1 hj2 with h | rfl; exact hall j hj h; exact hb.symm.trans ‹b = false›⟩, by omega, Weak.ren _ [] hC rfl (by repeat (first | exact True.intro | refine And.intro ?_ ?_ | exact DLead.same)) (by repeat (exact True.intro)) rfl rfl rfl⟩
 refine AC.exit (th_e (th_e (ib_y (th_n (AC.seq (AC.region ?_))))));refine za ?_;refine AL.nil (th_n (AC.ret (bq_r ?_)));have hf : metB on off = false := List.any_eq_false.2 fun x hx => by obtain ⟨j, hj, rfl⟩ := List.getElem_of_mem hx; rw [hall j hj (by omega)]; decide
 exact ret1 rfl (by rw [hR, hf]; rfl)
theorem en_l14Sets : Enters Tryz.prog 31 := enters_of Tryz.func31 rfl rfl
end Go.Proofs.YtiaieidhhlmfmaaGreat
