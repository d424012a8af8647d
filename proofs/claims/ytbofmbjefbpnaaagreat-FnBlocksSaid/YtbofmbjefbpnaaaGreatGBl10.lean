/- Contracts of the functions of the program and of the reference, each proved by a walk through its code. -/
import Derived.Test.YtbofmbjefbpnaaaGreatGBl9
set_option linter.all false
set_option maxRecDepth 20000
namespace Go.Proofs.YtbofmbjefbpnaaaGreat
open Go.RowKit
def srtd (l : List Int) : Prop := l.Pairwise (fun a b => a < b)
theorem srtd_ext : ∀ {a b : List Int}, srtd a → srtd b → (∀ x, x ∈ a ↔ x ∈ b) → a = b
 | [], [], _, _, _ => rfl
 | [], y :: b, _, _, h => by have := (h y).2 List.mem_cons_self; cases this
 | x :: a, [], _, _, h => by have := (h x).1 List.mem_cons_self; cases this
 | x :: a, y :: b, ha, hb, h => by
  have ha' := List.pairwise_cons.1 ha;have hb' := List.pairwise_cons.1 hb
  have hxy : x = y := by
   rcases List.mem_cons.1 ((h x).1 List.mem_cons_self) with e | e
   ·exact e
   rcases List.mem_cons.1 ((h y).2 List.mem_cons_self) with e2 | e2
   ·exact e2.symm
   have := hb'.1 x e;have := ha'.1 y e2;omega
  subst hxy;congr 1;refine srtd_ext ha'.2 hb'.2 fun z => ?_
  have hz := h z;rw [List.mem_cons, List.mem_cons] at hz;constructor
  ·intro q;rcases hz.1 (.inr q) with e | e
   ·subst e; have := ha'.1 _ q; omega
   exact e
  intro q;rcases hz.2 (.inr q) with e | e
  ·subst e; have := hb'.1 _ q; omega
  exact e
theorem findIdx_le {l : List Int} {x : Int} {i : Nat} (hi : i < l.findIdx (fun y => decide (x ≤ y))) (hl : i < l.length) : l[i] < x := by
 have := List.not_of_lt_findIdx hi;simp only [decide_eq_true_eq, decide_eq_false_iff_not, Bool.not_eq_true] at this;omega
theorem putI_srtd {l : List Int} (h : srtd l) (x : Int) : srtd (putI l x) ∧ ∀ y, y ∈ putI l x ↔ (y ∈ l ∨ y = x) := by
 unfold putI;obtain ⟨k, hk⟩ := eqx (l.findIdx (fun y => decide (x ≤ y)));rw [← hk]
 by_cases he : l[k]? = some x
 ·rw [if_pos he];refine ⟨h, fun y => ⟨.inl, ?_⟩⟩;rintro (q | rfl)
  ·exact q
  exact List.mem_of_getElem? he
 rw [if_neg he];have hlow : ∀ i (hi : i < l.length), i < k → l[i] < x := fun i hi hik => findIdx_le (by omega) hi
 have hhigh : ∀ i (hi : i < l.length), k ≤ i → x < l[i] := by
  intro i hi hki;have hkl : k < l.length := by omega
  have h1 : x ≤ l[k] := by
   have := List.findIdx_getElem (w := show l.findIdx (fun y => decide (x ≤ y)) < l.length by omega);have := of_decide_eq_true this;simpa only [← hk] using this
  have h2 : l[k] ≠ x := fun e => he (by rw [List.getElem?_eq_getElem hkl, e])
  by_cases e : k = i
  ·subst e; omega
  have := (List.pairwise_iff_getElem.1 h) k i hkl hi (by omega);omega
 refine ⟨?_, ?_⟩
 ·unfold srtd;rw [List.pairwise_append, List.pairwise_append];refine ⟨⟨List.Pairwise.sublist (List.take_sublist _ _) h, List.pairwise_singleton _ _, ?_⟩, List.Pairwise.sublist (List.drop_sublist _ _) h, ?_⟩
  ·intro a ha b hb;rw [List.mem_singleton] at hb; subst hb;obtain ⟨i, hi, rfl⟩ := List.mem_take_iff_getElem.1 ha;exact hlow i (by omega) (by omega)
  intro a ha b hb;obtain ⟨j, hj, rfl⟩ := List.mem_drop_iff_getElem.1 hb;have h2 := hhigh (k + j) (by omega) (by omega);rcases List.mem_append.1 ha with ha | ha
  ·obtain ⟨i, hi, rfl⟩ := List.mem_take_iff_getElem.1 ha;have := hlow i (by omega) (by omega);omega
  rw [List.mem_singleton] at ha; subst ha; exact h2
 intro y;have : y ∈ l ↔ (y ∈ l.take k ∨ y ∈ l.drop k) := by rw [← List.mem_append, List.take_append_drop]
 rw [this, List.mem_append, List.mem_append, List.mem_singleton];constructor
 ·rintro ((q | q) | q)
  ·exact .inl (.inl q)
  ·exact .inr q
  exact .inl (.inr q)
 rintro ((q | q) | q)
 ·exact .inl (.inl q)
 ·exact .inr q
 exact .inl (.inr q)
def setP (l : List Int) : List Int := l.foldl putI []
theorem setF_srtd : ∀ (l a : List Int), srtd a → srtd (l.foldl putI a) ∧ ∀ y, y ∈ l.foldl putI a ↔ (y ∈ a ∨ y ∈ l)
 | [], a, h => ⟨h, fun y => by simp⟩
 | x :: l, a, h => by
  have h1 := putI_srtd h x;have h2 := setF_srtd l (putI a x) h1.1;refine ⟨h2.1, fun y => ?_⟩;rw [List.foldl_cons, h2.2 y, h1.2 y, List.mem_cons, or_assoc]
theorem setP_srtd (l : List Int) : srtd (setP l) ∧ ∀ y, y ∈ setP l ↔ y ∈ l := by
 have := setF_srtd l [] List.Pairwise.nil;exact ⟨this.1, fun y => by rw [setP, this.2 y]; simp⟩
theorem sort_perm (l : List Int) : (sortI l).Perm l := List.mergeSort_perm _ _
theorem sort_le (l : List Int) : (sortI l).Pairwise (fun a b => a ≤ b) := by
 have := List.pairwise_mergeSort (le := fun x y : Int => decide (x ≤ y)) (fun a b c h1 h2 => by have := of_decide_eq_true h1; have := of_decide_eq_true h2; exact decide_eq_true (by omega)) (fun a b => by
  by_cases h : a ≤ b
  ·simp [h]
  simp [h, show b ≤ a by omega]) l
 exact this.imp fun h => of_decide_eq_true h
theorem srtd_nodup {l : List Int} (h : srtd l) : l.Nodup := h.imp fun q => by omega
theorem nodup_len : ∀ (l s : List Int), s.Nodup → (∀ x, x ∈ s → x ∈ l) → s.length ≤ l.length
 | [], s, _, h => by
  cases s with
  | nil => exact Nat.le_refl _
  | cons x s => have := h x List.mem_cons_self; cases this
 | a :: l, s, hs, h => by
  by_cases ha : a ∈ s
  ·have := nodup_len l (s.erase a) (hs.erase a) (fun x hx => by
    have hx' := (hs.mem_erase_iff).1 hx;rcases List.mem_cons.1 (h x hx'.2) with e | e
    ·exact absurd e hx'.1
    exact e)
   rw [List.length_erase_of_mem ha] at this;rw [List.length_cons]; omega
  have := nodup_len l s hs (fun x hx => by
   rcases List.mem_cons.1 (h x hx) with e | e
   ·subst e; exact absurd hx ha
   exact e)
  rw [List.length_cons]; omega
inductive Rch (R : Nat → Nat → Prop) (S : Nat → Prop) : Nat → Prop
 | base {v : Nat} : S v → Rch R S v
 | step {u v : Nat} : Rch R S u → R u v → Rch R S v
noncomputable def rchB (R : Nat → Nat → Prop) (S : Nat → Prop) (v : Nat) : Bool := @decide (Rch R S v) (Classical.propDecidable _)
theorem rchB_iff {R : Nat → Nat → Prop} {S : Nat → Prop} {v : Nat} : rchB R S v = true ↔ Rch R S v := @decide_eq_true_iff _ (Classical.propDecidable _)
noncomputable def reaL (R : Nat → Nat → Prop) (S : Nat → Prop) (n : Nat) : List Int := nI ((List.range n).filter (rchB R S))
theorem range_srtd : ∀ n, srtd (nI (List.range n))
 | 0 => List.Pairwise.nil
 | n + 1 => by
  unfold srtd nI;rw [List.range_succ, List.map_append, List.pairwise_append];refine ⟨range_srtd n, List.pairwise_singleton _ _, fun a ha b hb => ?_⟩;obtain ⟨v, hv, rfl⟩ := List.mem_map.1 ha;obtain rfl := List.mem_singleton.1 hb;have := List.mem_range.1 hv;show ((v : Nat) : Int) < ((n : Nat) : Int);omega
theorem reaL_srtd (R : Nat → Nat → Prop) (S : Nat → Prop) (n : Nat) : srtd (reaL R S n) :=
 List.Pairwise.sublist (List.Sublist.map _ (List.filter_sublist (l := List.range n))) (range_srtd n)
theorem reaL_mem {R : Nat → Nat → Prop} {S : Nat → Prop} {n : Nat} {x : Int} : x ∈ reaL R S n ↔ ∃ v : Nat, x = (v : Int) ∧ v < n ∧ Rch R S v := by
 unfold reaL nI;rw [List.mem_map];constructor
 ·rintro ⟨v, hv, rfl⟩;rw [List.mem_filter, List.mem_range, rchB_iff] at hv;exact ⟨v, rfl, hv.1, hv.2⟩
 rintro ⟨v, rfl, h1, h2⟩;exact ⟨v, List.mem_filter.2 ⟨List.mem_range.2 h1, rchB_iff.2 h2⟩, rfl⟩
theorem reaL_len (R : Nat → Nat → Prop) (S : Nat → Prop) (n : Nat) : (reaL R S n).length ≤ n := by
 unfold reaL;rw [nI_len];have := List.length_filter_le (rchB R S) (List.range n)
 rwa [List.length_range] at this
theorem reaL_eq {R : Nat → Nat → Prop} {S : Nat → Prop} {n : Nat} {l : List Int} (hs : srtd l) (h1 : ∀ x, x ∈ l → ∃ v : Nat, x = (v : Int) ∧ v < n ∧ Rch R S v) (h2 : ∀ v, S v → (v : Int) ∈ l) (h3 : ∀ u v : Nat, (u : Int) ∈ l → R u v → (v : Int) ∈ l) : l = reaL R S n := by
 have key : ∀ v, Rch R S v → (v : Int) ∈ l := by
  intro v h
  induction h with
  | base h => exact h2 _ h
  | step _ hr ih => exact h3 _ _ ih hr
 refine srtd_ext hs (reaL_srtd R S n) fun x => ?_
 rw [reaL_mem];exact ⟨h1 x, fun ⟨v, e, _, hr⟩ => e ▸ key v hr⟩
def ArR (L : List Ar) (q : Ar → Bool) (u v : Nat) : Prop := ∃ a, a ∈ L ∧ q a = true ∧ a.from_ = (u : Int) ∧ a.to_ = (v : Int)
def ArC (L : List Ar) (q : Ar → Bool) (l : List Int) : Prop := ∀ a, a ∈ L → q a = true → a.from_ ∈ l → a.to_ ∈ l
structure PsI (L : List Ar) (q : Ar → Bool) (S : Nat → Prop) (n d j : Nat) (l : List Int) : Prop where
 srt : srtd l
 inn : ∀ x, x ∈ l → ∃ v : Nat, x = (v : Int) ∧ v < n ∧ Rch (ArR L q) S v
 bas : ∀ v, S v → (v : Int) ∈ l
 prg : ArC L q l ∨ d + 1 ≤ l.length ∨ (d ≤ l.length ∧ ∀ i (hi : i < L.length), i < j → q L[i] = true → L[i].from_ ∈ l → L[i].to_ ∈ l)
theorem PsI.len {L : List Ar} {q : Ar → Bool} {S : Nat → Prop} {n d j : Nat} {l : List Int} (h : PsI L q S n d j l) : l.length ≤ n := by
 have := nodup_len (nI (List.range n)) l (srtd_nodup h.srt) (fun x hx => by obtain ⟨v, rfl, hv, _⟩ := h.inn x hx; exact List.mem_map.2 ⟨v, List.mem_range.2 hv, rfl⟩)
 rwa [nI_len, List.length_range] at this
theorem PsI.no {L : List Ar} {q : Ar → Bool} {S : Nat → Prop} {n d j : Nat} {l : List Int} (h : PsI L q S n d j l) (hj : j < L.length) (hq : ¬ (q L[j] = true ∧ L[j].from_ ∈ l)) : PsI L q S n d (j + 1) l := by
 refine ⟨h.srt, h.inn, h.bas, ?_⟩;rcases h.prg with g | g | ⟨g1, g2⟩
 ·exact .inl g
 ·exact .inr (.inl g)
 refine .inr (.inr ⟨g1, fun i hi hij h1 h2 => ?_⟩);rcases Nat.lt_succ_iff_lt_or_eq.1 hij with h3 | rfl
 ·exact g2 i hi h3 h1 h2
 exact absurd ⟨h1, h2⟩ hq
theorem putI_mem {l : List Int} (h : srtd l) {x : Int} (hx : x ∈ l) : putI l x = l := srtd_ext (putI_srtd h x).1 h fun y => by
 rw [(putI_srtd h x).2 y];constructor
 ·rintro (q | rfl); exact q; exact hx
 exact .inl
theorem putI_new {l : List Int} {x : Int} (hx : ¬ x ∈ l) : (putI l x).length = l.length + 1 := by
 unfold putI;rw [if_neg (fun e => hx (List.mem_of_getElem? e)), List.length_append, List.length_append, List.length_take, List.length_drop];simp only [List.length_cons, List.length_nil];have := List.findIdx_le_length (xs := l) (p := fun y => decide (x ≤ y));omega
theorem PsI.yes {L : List Ar} {q : Ar → Bool} {S : Nat → Prop} {n d j : Nat} {l : List Int} (h : PsI L q S n d j l) (hj : j < L.length) (hq : q L[j] = true) (hf : L[j].from_ ∈ l) (ht : 0 ≤ L[j].to_ ∧ L[j].to_ < n) : PsI L q S n d (j + 1) (putI l L[j].to_) := by
 have hp := putI_srtd h.srt L[j].to_;refine ⟨hp.1, fun x hx => ?_, fun v hv => (hp.2 _).2 (.inl (h.bas v hv)), ?_⟩
 ·rcases (hp.2 x).1 hx with g | g
  ·exact h.inn x g
  obtain ⟨u, hu, _, hr⟩ := h.inn _ hf;exact ⟨L[j].to_.toNat, by omega, by omega, .step hr ⟨L[j], List.getElem_mem hj, hq, hu, by omega⟩⟩
 by_cases hm : L[j].to_ ∈ l
 ·rw [putI_mem h.srt hm];rcases h.prg with g | g | ⟨g1, g2⟩
  ·exact .inl g
  ·exact .inr (.inl g)
  refine .inr (.inr ⟨g1, fun i hi hij h1 h2 => ?_⟩);rcases Nat.lt_succ_iff_lt_or_eq.1 hij with h3 | rfl
  ·exact g2 i hi h3 h1 h2
  exact hm
 rw [putI_new hm];rcases h.prg with g | g | ⟨g1, g2⟩
 ·exact absurd (g _ (List.getElem_mem hj) hq hf) hm
 ·exact .inr (.inl (by omega))
 exact .inr (.inl (by omega))
theorem PsI.next {L : List Ar} {q : Ar → Bool} {S : Nat → Prop} {n d j : Nat} {l : List Int} (h : PsI L q S n d j l) (hj : j = L.length) : PsI L q S n (d + 1) 0 l := by
 refine ⟨h.srt, h.inn, h.bas, ?_⟩;rcases h.prg with g | g | ⟨g1, g2⟩
 ·exact .inl g
 ·exact .inr (.inr ⟨g, fun i _ hi => absurd hi (Nat.not_lt_zero _)⟩)
 refine .inl fun a ha h1 h2 => ?_
 obtain ⟨i, hi, rfl⟩ := List.getElem_of_mem ha;exact g2 i hi (by omega) h1 h2
theorem all_in {n : Nat} {l : List Int} (hs : srtd l) (h1 : ∀ x, x ∈ l → ∃ v : Nat, x = (v : Int) ∧ v < n) (hl : n ≤ l.length) {v : Nat} (hv : v < n) : (v : Int) ∈ l := by
 refine Classical.byContradiction fun hn => ?_
 have := nodup_len (nI (List.range n)) ((v : Int) :: l) (List.nodup_cons.2 ⟨hn, srtd_nodup hs⟩) (fun x hx => by
  rcases List.mem_cons.1 hx with rfl | hx
  ·exact List.mem_map.2 ⟨v, List.mem_range.2 hv, rfl⟩
  obtain ⟨u, rfl, hu⟩ := h1 x hx; exact List.mem_map.2 ⟨u, List.mem_range.2 hu, rfl⟩)
 rw [nI_len, List.length_range, List.length_cons] at this;omega
theorem PsI.end_ {L : List Ar} {q : Ar → Bool} {S : Nat → Prop} {n : Nat} {l : List Int} (h : PsI L q S n n 0 l) (hin : ∀ a, a ∈ L → ArIn n a) : l = reaL (ArR L q) S n := by
 have hc : ArC L q l := by
  rcases h.prg with g | g | ⟨g, _⟩
  ·exact g
  ·have := h.len; omega
  intro a ha _ _;have := hin a ha;unfold ArIn at this;have := all_in h.srt (fun x hx => by obtain ⟨v, e, hv, _⟩ := h.inn x hx; exact ⟨v, e, hv⟩) g (v := a.to_.toNat) (by omega)
  rwa [Int.toNat_of_nonneg (by omega)] at this
 refine reaL_eq h.srt h.inn h.bas fun u v hu ⟨a, ha, hq, h1, h2⟩ => ?_
 rw [← h2];exact hc a ha hq (by rw [h1]; exact hu)
def vW (W : List Bool) (v : Nat) : Bool := W.getD v false
theorem vW_set {W : List Bool} {i j : Nat} {x : Bool} : vW (W.set i x) j = if j = i ∧ i < W.length then x else vW W j := by
 unfold vW;rw [List.getD_eq_getElem?_getD, List.getElem?_set, List.getD_eq_getElem?_getD]
 by_cases h : i = j
 ·subst h
  by_cases h2 : i < W.length
  ·simp [h2]
  rw [if_pos rfl, if_neg h2, if_neg (fun q => h2 q.2), List.getElem?_eq_none (by omega)]
 rw [if_neg h, if_neg (fun q => h q.1.symm)]
theorem vW_lt {W : List Bool} {i : Nat} (h : vW W i = true) : i < W.length := by
 refine Classical.byContradiction fun hn => ?_
 unfold vW at h;rw [List.getD_eq_getElem?_getD, List.getElem?_eq_none (by omega)] at h;cases h
def cnT (W : List Bool) : Nat := W.countP id
theorem cnT_set : ∀ {W : List Bool} {i : Nat}, i < W.length → vW W i = false → cnT (W.set i true) = cnT W + 1
 | [], i, h, _ => by simp at h
 | x :: W, 0, _, h => by
  have : x = false := h;subst this;unfold cnT;rw [List.set_cons_zero, List.countP_cons_of_pos (by rfl), List.countP_cons_of_neg (by decide)]
 | x :: W, i + 1, hl, h => by
  have ih := cnT_set (W := W) (i := i) (by simpa using hl) h;unfold cnT at ih ⊢;rw [List.set_cons_succ, List.countP_cons, List.countP_cons, ih];omega
theorem cnT_all {W : List Bool} (h : W.length ≤ cnT W) {v : Nat} (hv : v < W.length) : vW W v = true := by
 have h2 := List.countP_eq_length.1 (Nat.le_antisymm List.countP_le_length h);unfold vW;rw [List.getD_eq_getElem?_getD, List.getElem?_eq_getElem hv];exact h2 _ (List.getElem_mem hv)
theorem cnT_le (W : List Bool) : cnT W ≤ W.length := List.countP_le_length
def ArV (L : List Ar) (q : Ar → Bool) (W : List Bool) : Prop := ∀ a, a ∈ L → q a = true → vW W a.from_.toNat = true → vW W a.to_.toNat = true
structure PsW (L : List Ar) (q : Ar → Bool) (S : Nat → Prop) (n d j : Nat) (W : List Bool) : Prop where
 len : W.length = n
 inn : ∀ v, vW W v = true → Rch (ArR L q) S v
 bas : ∀ v, S v → vW W v = true
 prg : ArV L q W ∨ d + 1 ≤ cnT W ∨ (d ≤ cnT W ∧ ∀ i (hi : i < L.length), i < j → q L[i] = true → vW W L[i].from_.toNat = true → vW W L[i].to_.toNat = true)
theorem PsW.no {L : List Ar} {q : Ar → Bool} {S : Nat → Prop} {n d j : Nat} {W : List Bool} (h : PsW L q S n d j W) (hj : j < L.length) (hq : ¬ (q L[j] = true ∧ vW W L[j].from_.toNat = true)) : PsW L q S n d (j + 1) W := by
 refine ⟨h.len, h.inn, h.bas, ?_⟩;rcases h.prg with g | g | ⟨g1, g2⟩
 ·exact .inl g
 ·exact .inr (.inl g)
 refine .inr (.inr ⟨g1, fun i hi hij h1 h2 => ?_⟩);rcases Nat.lt_succ_iff_lt_or_eq.1 hij with h3 | rfl
 ·exact g2 i hi h3 h1 h2
 exact absurd ⟨h1, h2⟩ hq
theorem set_same_b {W : List Bool} {i : Nat} (h : vW W i = true) : W.set i true = W := by
 have hl := vW_lt h;unfold vW at h;rw [List.getD_eq_getElem?_getD, List.getElem?_eq_getElem hl] at h;have h : W[i] = true := h;rw [← h];exact List.set_getElem_self ..
theorem PsW.yes {L : List Ar} {q : Ar → Bool} {S : Nat → Prop} {n d j : Nat} {W : List Bool} (h : PsW L q S n d j W) (hj : j < L.length) (hq : q L[j] = true) (hf : vW W L[j].from_.toNat = true) (ha : ArIn n L[j]) : PsW L q S n d (j + 1) (W.set L[j].to_.toNat true) := by
 unfold ArIn at ha;have hl := h.len;refine ⟨by rw [List.length_set]; exact hl, fun v hv => ?_, fun v hv => ?_, ?_⟩
 ·rw [vW_set] at hv
  split at hv
  ·rename_i g;exact .step (h.inn _ hf) ⟨L[j], List.getElem_mem hj, hq, by omega, by omega⟩
  exact h.inn v hv
 ·rw [vW_set]
  split
  ·rfl
  exact h.bas v hv
 cases hm : vW W L[j].to_.toNat with
 | true =>
  rw [set_same_b hm];rcases h.prg with g | g | ⟨g1, g2⟩
  ·exact .inl g
  ·exact .inr (.inl g)
  refine .inr (.inr ⟨g1, fun i hi hij h1 h2 => ?_⟩);rcases Nat.lt_succ_iff_lt_or_eq.1 hij with h3 | rfl
  ·exact g2 i hi h3 h1 h2
  exact hm
 | false =>
  rw [cnT_set (by omega) hm];rcases h.prg with g | g | ⟨g1, g2⟩
  ·rw [g _ (List.getElem_mem hj) hq hf] at hm; cases hm
  ·exact .inr (.inl (by omega))
  exact .inr (.inl (by omega))
theorem PsW.next {L : List Ar} {q : Ar → Bool} {S : Nat → Prop} {n d j : Nat} {W : List Bool} (h : PsW L q S n d j W) (hj : j = L.length) : PsW L q S n (d + 1) 0 W := by
 refine ⟨h.len, h.inn, h.bas, ?_⟩;rcases h.prg with g | g | ⟨g1, g2⟩
 ·exact .inl g
 ·exact .inr (.inr ⟨g, fun i _ hi => absurd hi (Nat.not_lt_zero _)⟩)
 refine .inl fun a ha h1 h2 => ?_
 obtain ⟨i, hi, rfl⟩ := List.getElem_of_mem ha;exact g2 i hi (by omega) h1 h2
theorem marks_eq {R : Nat → Nat → Prop} {S : Nat → Prop} {n : Nat} {W : List Bool} (hl : W.length = n) (h1 : ∀ v, vW W v = true → Rch R S v) (h2 : ∀ v, S v → vW W v = true) (h3 : ∀ u v, vW W u = true → R u v → vW W v = true) : W = (List.range n).map (rchB R S) := by
 have key : ∀ v, Rch R S v → vW W v = true := by
  intro v h
  induction h with
  | base h => exact h2 _ h
  | step _ hr ih => exact h3 _ _ ih hr
 refine List.ext_getElem (by rw [List.length_map, List.length_range]; exact hl) fun i hi hi2 => ?_
 rw [List.getElem_map, List.getElem_range];have e : vW W i = W[i] := by unfold vW; rw [List.getD_eq_getElem?_getD, List.getElem?_eq_getElem hi]; rfl
 rw [← e];cases hb : vW W i with
 | true => exact (rchB_iff.2 (h1 i hb)).symm
 | false =>
  cases hr : rchB R S i with
  | false => rfl
  | true => rw [key i (rchB_iff.1 hr)] at hb; cases hb
theorem PsW.end_ {L : List Ar} {q : Ar → Bool} {S : Nat → Prop} {n : Nat} {W : List Bool} (h : PsW L q S n n 0 W) (hin : ∀ a, a ∈ L → ArIn n a) : W = (List.range n).map (rchB (ArR L q) S) := by
 have hl := h.len
 have hc : ArV L q W := by
  rcases h.prg with g | g | ⟨g, _⟩
  ·exact g
  ·have := cnT_le W; omega
  intro a ha _ _;have := hin a ha;unfold ArIn at this;exact cnT_all (by omega) (by omega)
 refine marks_eq hl h.inn h.bas fun u v hu ⟨a, ha, hq, h1, h2⟩ => ?_
 have := hc a ha hq (by rw [h1]; exact hu)
 rwa [h2] at this
structure ChW (L : List Ar) (q : Ar → Bool) (S : Nat → Prop) (n u j : Nat) (W : List Bool) (ch : Bool) : Prop where
 len : W.length = n
 inn : ∀ v, vW W v = true → Rch (ArR L q) S v
 bas : ∀ v, S v → vW W v = true
 prg : (ch = true ∧ u < cnT W) ∨ (ch = false ∧ u = cnT W ∧ ∀ i (hi : i < L.length), i < j → q L[i] = true → vW W L[i].from_.toNat = true → vW W L[i].to_.toNat = true)
theorem ChW.no {L : List Ar} {q : Ar → Bool} {S : Nat → Prop} {n d j : Nat} {W : List Bool} {ch : Bool} (h : ChW L q S n d j W ch) (hj : j < L.length) (hq : q L[j] = true → vW W L[j].from_.toNat = true → vW W L[j].to_.toNat = true) : ChW L q S n d (j + 1) W ch := by
 refine ⟨h.len, h.inn, h.bas, ?_⟩;rcases h.prg with g | ⟨g0, g1, g2⟩
 ·exact .inl g
 refine .inr ⟨g0, g1, fun i hi hij h1 h2 => ?_⟩;rcases Nat.lt_succ_iff_lt_or_eq.1 hij with h3 | rfl
 ·exact g2 i hi h3 h1 h2
 exact hq h1 h2
theorem ChW.yes {L : List Ar} {q : Ar → Bool} {S : Nat → Prop} {n d j : Nat} {W : List Bool} {ch : Bool} (h : ChW L q S n d j W ch) (hj : j < L.length) (hq : q L[j] = true) (hf : vW W L[j].from_.toNat = true) (hm : vW W L[j].to_.toNat = false) (ha : ArIn n L[j]) : ChW L q S n d (j + 1) (W.set L[j].to_.toNat true) true := by
 unfold ArIn at ha;have hl := h.len;refine ⟨by rw [List.length_set]; exact hl, fun v hv => ?_, fun v hv => ?_, .inl ⟨rfl, ?_⟩⟩
 ·rw [vW_set] at hv
  split at hv
  ·rename_i g;exact .step (h.inn _ hf) ⟨L[j], List.getElem_mem hj, hq, by omega, by omega⟩
  exact h.inn v hv
 ·rw [vW_set]
  split
  ·rfl
  exact h.bas v hv
 rw [cnT_set (by omega) hm];rcases h.prg with g | g <;> omega
theorem ChW.end_ {L : List Ar} {q : Ar → Bool} {S : Nat → Prop} {n u j : Nat} {W : List Bool} (h : ChW L q S n u j W false) (hj : j = L.length) : W = (List.range n).map (rchB (ArR L q) S) := by
 rcases h.prg with g | ⟨_, _, g⟩
 ·cases g.1
 refine marks_eq h.len h.inn h.bas fun u v hu ⟨a, ha, hq, h1, h2⟩ => ?_
 obtain ⟨i, hi, rfl⟩ := List.getElem_of_mem ha;have := g i hi (by omega) hq (by rw [h1]; exact hu)
 rwa [h2] at this
section
variable {P : Program} [PT P]
variable {s : ASt} {dst : Option Nat} {ty : Nat} {pos : String} {af : Array Edge} {gd : Option (Nat × Bool)} {x y : Operand} {t : Nat}
theorem g_ia_part {id o l e n bt sz i k : Nat} {zs : List ZK} {te : TS} {I : Int} (ht : PT.ty P t = some ⟨.slice e, n, bt, zs⟩) (he : PT.ty P e = some te) (hs : te.size = sz) (h : s.ev x = .part id o l) (hy : s.ev y = aI I) (hI : I = (i : Int)) (hi : i < l) (hk : o + i * sz = k) : GOp P [] s ⟨dst, .indexAddr t x y, ty, pos, af, gd⟩ (.ptr id k) := by
 subst hk;refine ⟨fun s' ha C U a w m hR => ?_⟩;have hx := hR.ev x;rw [ha.2.1 x (by simp [Op.operands]), h] at hx;have h2 := hR.ev y;rw [ha.2.1 y (by simp [Op.operands]), hy] at h2;obtain ⟨e2, _⟩ := h2.val_eq;generalize hv : a.eval x = v at hx;cases hx with
 | part hp h0 =>
  obtain ⟨b, rfl, rfl⟩ := h0 (by omega);refine ⟨_, ?_, .ptr hp⟩;simp only [execOp, Sem.run_bind, hv, e2, hI, run_indexAddr ht ⟨te, he, hs⟩ hi, Result.andThen_ok, Sem.run_pure]
end
theorem en_slSort : Enters Tryz.prog 149 := enters_of Tryz.func149 rfl rfl
theorem slSort_spec (l : List Int) (hl : l.length ≤ 1000000) : ASpec Tryz.prog 149 [.own 0 l.length] [(0, .arr 3 1 (ints l))] (Fun1 (.tup []) [(0, .arr 3 1 (ints (sortI l)))]) :=
 ASpec.ofSort l hl (fun blk off cap w h1 h2 h3 => Tryz.slices_Sort_int blk off cap l w h1 h2 h3) (fun p cap w => Tryz.slices_Sort_int_none p cap w)
def ddN (l : List Int) : Nat → List Int
 | 0 => []
 | p + 1 => ddN l p ++ (if p = 0 ∨ ¬ l.getD p 0 = l.getD (p - 1) 0 then [l.getD p 0] else [])
theorem getI_at {l : List Int} {p : Nat} (h : p < l.length) : l.getD p 0 = l[p] := by rw [List.getD_eq_getElem?_getD, List.getElem?_eq_getElem h]; rfl
theorem ddN_all {l : List Int} : ∀ p, p ≤ l.length → (∀ j, 1 ≤ j → j < p → ¬ l.getD j 0 = l.getD (j - 1) 0) → ddN l p = l.take p
 | 0, _, _ => rfl
 | p + 1, hp, h => by
  have ih := ddN_all p (by omega) (fun j h1 h2 => h j h1 (by omega))
  have hc : p = 0 ∨ ¬ l.getD p 0 = l.getD (p - 1) 0 := by
   rcases Nat.eq_zero_or_pos p with e | e
   ·exact .inl e
   exact .inr (h p e (Nat.lt_succ_self _))
  rw [ddN, ih, if_pos hc, List.take_add_one, List.getElem?_eq_getElem (show p < l.length by omega), getI_at (show p < l.length by omega)]; rfl
structure DdI (l : List Int) (k p : Nat) (e : List Int) : Prop where
 len : e.length = l.length
 lt : k < p
 le : p ≤ l.length
 kept : e.take k = ddN l p
 rest : ∀ i (hi : i < l.length), p ≤ i + 1 → e.getD i 0 = l[i]
theorem DdI.kl {l e : List Int} {k p : Nat} (h : DdI l k p e) : (ddN l p).length = k := by rw [← h.kept, List.length_take]; have := h.lt; have := h.le; have := h.len; omega
theorem DdI.skip {l e : List Int} {k p : Nat} (h : DdI l k p e) (hp : p < l.length) (hq : l.getD p 0 = l.getD (p - 1) 0) : DdI l k (p + 1) e :=
 ⟨h.len, by have := h.lt; omega, hp, by rw [ddN, if_neg (by rintro (q | q); (have := h.lt; omega); exact q hq), List.append_nil]; exact h.kept, fun i hi hpi => h.rest i hi (by omega)⟩
theorem DdI.move {l e : List Int} {k p : Nat} (h : DdI l k p e) (hp : p < l.length) (hq : ¬ l.getD p 0 = l.getD (p - 1) 0) : DdI l (k + 1) (p + 1) (e.set k l[p]) := by
 have hl := h.len;have hlt := h.lt;refine ⟨by rw [List.length_set]; exact hl, by omega, hp, ?_, fun i hi hpi => ?_⟩
 ·rw [ddN, if_pos (.inr hq), ← h.kept, getI_at hp, List.take_add_one, List.getElem?_set_self (by omega), List.take_set_of_le (Nat.le_refl _)]; rfl
 rw [List.getD_eq_getElem?_getD, List.getElem?_set_ne (by omega), ← List.getD_eq_getElem?_getD];exact h.rest i hi (by omega)
set_option maxHeartbeats 8000000 in
theorem slCompact_spec (l : List Int) (hl : l.length ≤ 1000000) : ASpec Tryz.prog 150 [.own 0 l.length] [(0, .arr 3 1 (ints l))] (Fun1 (.own 0 (ddN l l.length).length) [(0, .arr 3 1 (ints (ddN l l.length)))]) := by
 have hAll := ddN_all (l := l) l.length (Nat.le_refl _);rw [List.take_length] at hAll;refine ASpec.of Tryz.func150 rfl rfl fun C hC => ?_
 refine AC.seq (AC.region ?_);refine za ?_;refine AL.nil (th_n (AC.seq (AC.seq (AC.region ?_))));refine kB ?_;refine AL.p (by exact g_len_own (sz := 1) (els := []) (e' := 0) rfl rfl (by simp only [maxLen]; omega)) rfl ?_;refine zc ?_;refine AL.nil (th_n ?_);refine AC.condD rfl (fun h0 => ?_) (fun h0 => ?_)
 ·refine AC.seq (AC.region ?_);refine kB ?_;refine AL.p (by exact as2 rfl) rfl ?_;refine AL.nil (th_n (AC.ret (th_r (bq_r ?_))));have e := hAll (fun j h1 h2 => by omega);exact retN [] rfl (by rw [e]; repeat (first | exact rfl | refine ⟨_, rfl, ?_⟩)) (by rw [e]; repeat (first | exact True.intro | refine And.intro ?_ ?_ | exact rfl | refine ⟨_, _, rfl, rfl, ?_⟩)) rfl rfl
 refine AC.skip (th_n (AC.seq (AC.seq (AC.region ?_))));refine za ?_;refine AL.nil (th_n (AC.block ?_));refine AC.loop (ι := Nat) (fun k => ⟨61, 100, [(0, .own 0 l.length), (3, aI k)], [(0, some (.arr 3 1 (ints l)))]⟩) (fun k => (1 ≤ k ∧ k ≤ l.length) ∧ ∀ j, 1 ≤ j → j < k → ¬ l.getD j 0 = l.getD (j - 1) 0) (fun k => l.length - k) (1) ?_ (⟨⟨Nat.le_refl _, by omega⟩, fun j h1 h2 => by omega⟩) ?_
 ·exact zw [] hC
 rintro k ⟨⟨hk1, hk⟩, hall⟩;refine AC.seq (AC.seq (AC.region ?_));refine zm ?_;refine kB ?_;refine AL.p (by exact g_len_own (sz := 1) (els := []) (e' := 0) rfl rfl (by simp only [maxLen]; omega)) rfl ?_;refine zc ?_;refine AL.nil (th_n ?_);refine AC.condD rfl (fun h1 => ?_) (fun h1 => ?_)
 ·refine AC.skip (th_n (AC.seq (AC.block (AC.seq ?_))));have hkl : k < l.length := by omega
  have hg1 := ints_at hkl;have hg2 := ints_at (l := l) (k := k - 1) (by omega);have hd1 := getI_at hkl;have hd2 := getI_at (l := l) (p := k - 1) (by omega);have hkI : ((k : Int) - 1) = ((k - 1 : Nat) : Int) := by omega
  refine AC.drawn' mixed_ok [[], [], [0,1], [0,1,2], [], [], [5], [4,5,6], [4,5,6,7], [0,1,2,3,4,5,6,7,8]] (by decide) ?_;refine zd 0 [] 10 (by exact mv2 rfl) ?_;refine zd 1 [] 10 (by exact mv1 rfl) ?_;refine zd 2 [0,1] 10 (by exact g_ia_own (i := k) (l := l.length) rfl rfl rfl rfl rfl rfl hkl rfl) ?_;refine zd 3 [0,1,2] 10 (by exact g_load_arr1 rfl rfl rfl rfl (by rw [Nat.mul_one]; exact hg1)) ?_;refine zd 4 [] 10 (by exact mv2 rfl) ?_;refine zd 5 [] 10 (by exact mv1 rfl) ?_;refine zd 6 [5] 10 (by exact g_arith rfl rfl rfl (by exact wrap_i64 (by omega))) ?_;refine zd 7 [4,5,6] 10 (by exact g_ia_own (i := k - 1) (l := l.length) rfl rfl rfl rfl rfl hkI (by omega) rfl) ?_;refine zd 8 [4,5,6,7] 10 (by exact g_load_arr1 rfl rfl rfl rfl (by rw [Nat.mul_one]; exact hg2)) ?_;refine zd 9 (List.range 9) 10 (by exact g_cmp rfl rfl rfl) ?_;refine zj 10 ?_;refine th_n ?_;refine AC.condD rfl (fun h2 => ?_) (fun h2 => ?_)
  ·refine AC.seq ?_;have heq : l.getD k 0 = l.getD (k - 1) 0 := by rw [hd1, hd2]; assumption
   have hI0 : DdI l k (k + 1) l := ⟨rfl, Nat.lt_succ_self _, hkl, by rw [ddN, if_neg (by rintro (q | q); omega; exact q heq), List.append_nil]; exact (ddN_all k hk hall).symm, fun i hi _ => getI_at hi⟩;have hlk : 1 ≤ l.length - k := by omega
   refine AC.region ?_;refine kB ?_;refine zm ?_;refine AL.p (by exact g_slice_part (els := ints l) (e' := 3) (sz := 1) (l := k) (h := l.length) rfl rfl rfl rfl rfl (.some rfl rfl) .none (by omega) (by rw [ints_len]; exact Nat.le_refl _) (Nat.mul_one _) rfl) rfl ?_;refine AL.p (by exact as10 rfl) rfl ?_;refine AL.nil (th_n (AC.seq (AC.seq (AC.region ?_))));refine za ?_;refine AL.nil (th_n (AC.block ?_));refine AC.loop (ι := Nat × Nat × List Int) (fun x => ⟨61, 300, [(0, .own 0 l.length), (3, aI x.1), (4, .part 0 k (l.length - k)), (5, aI x.2.1)], [(0, some (.arr 3 1 (ints x.2.2)))]⟩) (fun x => DdI l x.1 (k + x.2.1) x.2.2 ∧ 1 ≤ x.2.1) (fun x => l.length - x.2.1) ((k, 1, l)) ?_ (⟨hI0, Nat.le_refl _⟩) ?_
   ·exact zw [] hC
   rintro ⟨q, i, e⟩ ⟨hI, hi1⟩;dsimp only at hI hi1 ⊢;have hlt := hI.lt;have hle := hI.le;have hel := hI.len;refine AC.seq (AC.seq (AC.region ?_));refine zm ?_;refine AL.p (by exact mv10 rfl) rfl ?_;refine AL.p (by exact g_len_part rfl rfl (by simp only [maxLen]; omega)) rfl ?_;refine zc ?_;refine AL.nil (th_n ?_);refine AC.condD rfl (fun h3 => ?_) (fun h3 => ?_)
   ·refine AC.skip (th_n (AC.seq (AC.block (AC.seq ?_))));have hil : k + i < l.length := by omega
    have hr1 := hI.rest (k + i) hil (by omega);have hr2 := hI.rest (k + i - 1) (by omega) (by omega);have hd1 := getI_at hil;have hd2 := getI_at (l := l) (p := k + i - 1) (by omega);have hg1 : (ints e)[k + i * 1]? = some [dI l[k + i]] := by rw [Nat.mul_one, ints_at (by omega), ← hr1, getI_at (by omega)]
    have hg2 : (ints e)[k + (i - 1) * 1]? = some [dI l[k + i - 1]] := by rw [Nat.mul_one, show k + (i - 1) = k + i - 1 by omega, ints_at (by omega), ← hr2, getI_at (by omega)]
    have hiI : ((i : Int) - 1) = ((i - 1 : Nat) : Int) := by omega
    have hsk := hI.skip hil;have hmv := hI.move hil;rw [hd1, hd2] at hsk hmv;obtain ⟨a, ha⟩ := eqx (l[k + i]);obtain ⟨b, hb⟩ := eqx (l[k + i - 1]);rw [← ha] at hg1 hsk hmv;rw [← hb] at hg2 hsk hmv;obtain ⟨y, hy⟩ : ∃ y, (ints e)[q]? = some [y] := ⟨_, ints_at (by omega)⟩;clear ha hb hr1 hr2 hd1 hd2;refine AC.drawn' mixed_ok [[], [], [0,1], [0,1,2], [], [], [5], [4,5,6], [4,5,6,7], [0,1,2,3,4,5,6,7,8]] (by decide) ?_;refine zd 0 [] 10 (by exact mv10 rfl) ?_;refine zd 1 [] 10 (by exact mv1 rfl) ?_;refine zd 2 [0,1] 10 (by exact g_ia_part (i := i) (l := l.length - k) rfl rfl rfl rfl rfl rfl (by omega) rfl) ?_;refine zd 3 [0,1,2] 10 (by exact g_load_arr1 rfl rfl rfl rfl hg1) ?_;refine zd 4 [] 10 (by exact mv10 rfl) ?_;refine zd 5 [] 10 (by exact mv1 rfl) ?_;refine zd 6 [5] 10 (by exact g_arith rfl rfl rfl (by exact wrap_i64 (by omega))) ?_;refine zd 7 [4,5,6] 10 (by exact g_ia_part (i := i - 1) (l := l.length - k) rfl rfl rfl rfl rfl hiI (by omega) rfl) ?_;refine zd 8 [4,5,6,7] 10 (by exact g_load_arr1 rfl rfl rfl rfl hg2) ?_;refine zd 9 (List.range 9) 10 (by exact g_cmp rfl rfl rfl) ?_;refine zj 10 ?_;refine th_n ?_;refine AC.condND rfl (fun h4 => ?_) (fun h4 => ?_)
    ·refine AC.seq (AC.region ?_);refine kB ?_;refine zm ?_;refine AL.p (by exact mv10 rfl) rfl ?_;refine zm ?_;refine AL.p (by exact g_ia_part (i := i) (l := l.length - k) rfl rfl rfl rfl rfl rfl (by omega) rfl) rfl ?_;refine AL.p (by exact g_load_arr1 rfl rfl rfl rfl hg1) rfl ?_;refine AL.p (by exact g_ia_own (i := q) (l := l.length) rfl rfl rfl rfl rfl rfl (by omega) rfl) rfl ?_;refine AL.q (by exact h_store_arr (i := q) (j := 0) (d := dI a) rfl rfl rfl rfl .same rfl hy (by decide)) rfl ?_;refine AL.nil (th_n (AC.region ?_));refine zm ?_;refine zA ?_;refine za ?_;refine AL.nil (ib_n (th_n (AC.region ?_)));refine zm ?_;refine zA ?_;refine za ?_;refine AL.nil (th_n ?_)
     (have e2 := hmv (by assumption); exact ⟨(q + 1, i + 1, e.set q a), ⟨e2, by dsimp only; omega⟩, by dsimp only; omega, zw [] hC (b := by rw [ints_set]; repeat (first | exact True.intro | refine And.intro ?_ ?_ | exact rfl | refine ⟨_, _, rfl, rfl, ?_⟩))⟩)
    refine AC.skip (ib_n (th_n (AC.region ?_)));refine zm ?_;refine zA ?_;refine za ?_;refine AL.nil (th_n ?_)
    (have e2 := hsk (by assumption); exact ⟨(q, i + 1, e), ⟨e2, by dsimp only; omega⟩, by dsimp only; omega, zw [] hC⟩)
   refine AC.exit (th_e (th_e (ib_y (th_n (AC.seq ?_)))));have hii : k + i = l.length := by omega
   rw [hii] at hI;have hkl := hI.kl;have hst : (ints e).take q = ints (ddN l l.length) := by rw [← hI.kept]; unfold ints; rw [List.map_take]
   refine AC.region ?_;refine kB ?_;refine zm ?_;refine AL.p (by exact g_slice_part (els := ints e) (e' := 3) (sz := 1) (l := q) (h := l.length) rfl rfl rfl rfl rfl (.some rfl rfl) .none (by omega) (by rw [ints_len]; omega) rfl rfl) rfl ?_;refine AL.q (by exact h_clear (i := q) (q := l.length - q) (els := ints e) (e' := 3) (sz := 1) rfl rfl rfl rfl rfl rfl (by omega) (by rw [ints_len]; omega)) rfl ?_;refine AL.nil (th_n (AC.seq (AC.region ?_)));refine kB ?_;refine zm ?_;refine AL.p (by exact g_slice_own (els := (ints e).take q) (e' := 3) (sz := 1) rfl rfl rfl rfl (.some rfl rfl) (by rw [List.length_take, ints_len]; omega)) rfl ?_;refine AL.p (by exact as2 rfl) rfl ?_;refine AL.nil (th_n (AC.ret (ib_r (th_r (th_r (ib_r (th_r (bq_r ?_))))))));exact retN [] rfl (by rw [hkl]; repeat (first | exact rfl | refine ⟨_, rfl, ?_⟩)) (by rw [← hst]; repeat (first | exact True.intro | refine And.intro ?_ ?_ | exact rfl | refine ⟨_, _, rfl, rfl, ?_⟩)) rfl rfl
  refine AC.skip (ib_n (th_n (AC.region ?_)));refine zm ?_;refine zA ?_;refine za ?_;refine AL.nil (th_n ?_);have hne : ¬ l.getD k 0 = l.getD (k - 1) 0 := by rw [hd1, hd2]; assumption
  exact ⟨k + 1, ⟨⟨by omega, by omega⟩, fun j h1 h2 => by rcases Nat.lt_succ_iff_lt_or_eq.1 h2 with q | rfl; exact hall j h1 q; exact hne⟩, by omega, zw [] hC⟩
 refine AC.exit (th_e (th_e (ib_y (th_n (AC.seq (AC.region ?_))))));refine kB ?_;refine AL.p (by exact as2 rfl) rfl ?_;refine AL.nil (th_n (AC.ret (bq_r ?_)));have e := hAll (fun j h1 h2 => hall j h1 (by omega));exact retN [] rfl (by rw [e]; repeat (first | exact rfl | refine ⟨_, rfl, ?_⟩)) (by rw [e]; repeat (first | exact True.intro | refine And.intro ?_ ?_ | exact rfl | refine ⟨_, _, rfl, rfl, ?_⟩)) rfl rfl
theorem en_slCompact : Enters Tryz.prog 150 := enters_of Tryz.func150 rfl rfl
theorem dd_sorted {l : List Int} (h : l.Pairwise (fun a b => a ≤ b)) : ∀ p, p ≤ l.length → srtd (ddN l p) ∧ (∀ x, x ∈ ddN l p ↔ x ∈ l.take p) ∧ ∀ x, x ∈ ddN l p → 1 ≤ p ∧ x ≤ l.getD (p - 1) 0
 | 0, _ => ⟨List.Pairwise.nil, fun x => by simp [ddN], fun x hx => by cases hx⟩
 | p + 1, hp => by
  obtain ⟨h1, h2, h3⟩ := dd_sorted h p (by omega);have hpl : p < l.length := by omega
  have hle : ∀ x, x ∈ l.take p → x ≤ l[p] := fun x hx => by
   obtain ⟨j, hj, rfl⟩ := List.mem_take_iff_getElem.1 hx;exact (List.pairwise_iff_getElem.1 h) j p (by omega) hpl (by omega)
  have htk : l.take (p + 1) = l.take p ++ [l[p]] := by rw [List.take_add_one, List.getElem?_eq_getElem hpl]; rfl
  rw [ddN, getI_at hpl, Nat.add_sub_cancel, getI_at hpl, htk]
  split
  ·rename_i q;refine ⟨?_, fun x => ?_, fun x hx => ⟨by omega, ?_⟩⟩
   ·unfold srtd;rw [List.pairwise_append];refine ⟨h1, List.pairwise_singleton _ _, fun a ha b hb => ?_⟩;obtain rfl := List.mem_singleton.1 hb;obtain ⟨g1, g2⟩ := h3 a ha;rcases q with q | q
    ·omega
    have hd := getI_at (l := l) (p := p - 1) (by omega);have := hle _ (List.mem_take_iff_getElem.2 ⟨p - 1, by omega, rfl⟩);rw [hd] at q g2;omega
   ·rw [List.mem_append, List.mem_append, h2]
   rcases List.mem_append.1 hx with q2 | q2
   ·exact hle x ((h2 x).1 q2)
   rw [List.mem_singleton.1 q2]; exact Int.le_refl _
  rename_i q;rw [List.append_nil];have hp0 : ¬ p = 0 := fun e => q (.inl e)
  have hq : l[p] = l.getD (p - 1) 0 := Classical.byContradiction fun e => q (.inr e)
  have hd := getI_at (l := l) (p := p - 1) (by omega);have hm : l[p] ∈ l.take p := by rw [hq, hd]; exact List.mem_take_iff_getElem.2 ⟨p - 1, by omega, rfl⟩
  refine ⟨h1, fun x => ?_, fun x hx => ⟨by omega, hle x ((h2 x).1 hx)⟩⟩;rw [h2, List.mem_append, List.mem_singleton];constructor
  ·exact .inl
  rintro (g | rfl)
  ·exact g
  exact hm
theorem dd_set (l : List Int) : ddN (sortI l) (sortI l).length = setP l := by
 obtain ⟨h1, h2, _⟩ := dd_sorted (sort_le l) (sortI l).length (Nat.le_refl _);refine srtd_ext h1 (setP_srtd l).1 fun x => ?_
 rw [h2, List.take_length, (setP_srtd l).2];exact (sort_perm l).mem_iff
theorem tidy_spec (l : List Int) (hl : l.length ≤ 1000000) : ASpec Tryz.prog 99 [.own 0 l.length] [(0, .arr 3 1 (ints l))] (Fun1 (.own 0 (setP l).length) [(0, .arr 3 1 (ints (setP l)))]) := by
 have hS := slSort_spec l hl;have hlen := sortI_len l;have hCp := slCompact_spec (sortI l) (by rw [sortI_len]; exact hl);rw [dd_set, hlen] at hCp;obtain ⟨K, hK⟩ := eqx (setP l);rw [← hK] at hCp ⊢;obtain ⟨M, hM⟩ := eqx (sortI l);rw [← hM] at hCp hS;refine ASpec.of Tryz.func99 rfl rfl fun C hC => ?_
 refine AC.seq (AC.region ?_);refine za ?_;refine AL.nil (th_n (AC.seq (AC.region ?_)));refine kB ?_;refine kU [0] en_slSort hS ?_;refine AL.nil (th_n (AC.seq (AC.region ?_)));refine kB ?_;refine kU [0] en_slCompact hCp ?_;refine AL.p (by exact as2 rfl) rfl ?_;refine AL.nil (th_n (AC.ret (bq_r ?_)));exact retN [] rfl (by repeat (first | exact rfl | refine ⟨_, rfl, ?_⟩)) (by repeat (first | exact True.intro | refine And.intro ?_ ?_ | exact rfl | refine ⟨_, _, rfl, rfl, ?_⟩)) rfl rfl
theorem en_tidy : Enters Tryz.prog 99 := enters_of Tryz.func99 rfl rfl
theorem ofI64 {a : Nat} (ha : a < 1048576) : (BitVec.ofInt IntKind.i64.bits (a : Int)).toNat = a := by
 show (BitVec.ofInt 64 (a : Int)).toNat = a;rw [BitVec.ofInt_natCast, BitVec.toNat_ofNat];exact Nat.mod_eq_of_lt (by omega)
theorem bits_or {a b : Nat} (ha : a < 1048576) (hb : b < 1048576) : bitsOf .i64 .or (a : Int) (b : Int) = some ((a ||| b : Nat) : Int) := by
 have h : a ||| b < 2 ^ 20 := Nat.or_lt_two_pow ha hb
 simp only [bitsOf, BitVec.toNat_or, ofI64 ha, ofI64 hb];exact congrArg some (wrap_i64 (by omega))
theorem bits_and {a b : Nat} (ha : a < 1048576) (hb : b < 1048576) : bitsOf .i64 .and (a : Int) (b : Int) = some ((a &&& b : Nat) : Int) := by
 have h : a &&& b < 2 ^ 20 := Nat.and_lt_two_pow a hb;simp only [bitsOf, BitVec.toNat_and, ofI64 ha, ofI64 hb];exact congrArg some (wrap_i64 (by omega))
theorem shr_nat {a e : Nat} (he : e < 64) : Int.fdiv (a : Int) (2 ^ (min ((e : Nat) : Int).toNat IntKind.i64.bits)) = ((a >>> e : Nat) : Int) := by
 rw [Int.toNat_natCast, show IntKind.i64.bits = 64 from rfl, Nat.min_eq_left (by omega), Nat.shiftRight_eq_div_pow, Int.natCast_ediv];have : ((2 ^ e : Nat) : Int) = (2 : Int) ^ e := by simp
 rw [this, Int.fdiv_eq_ediv_of_nonneg _ (Int.le_of_lt (Int.pow_pos (by decide)))]
theorem shl_nat {a e : Nat} (ha : a ≤ 2) (he : e ≤ 18) : IntKind.i64.wrap ((a : Int) * 2 ^ (min ((e : Nat) : Int).toNat IntKind.i64.bits)) = ((a * 2 ^ e : Nat) : Int) := by
 rw [Int.toNat_natCast, show IntKind.i64.bits = 64 from rfl, Nat.min_eq_left (by omega)];have h2 : 2 ^ e ≤ 2 ^ 18 := Nat.pow_le_pow_right (by decide) he;have h3 : a * 2 ^ e ≤ 2 * 2 ^ 18 := Nat.mul_le_mul ha h2;have : ((2 ^ e : Nat) : Int) = (2 : Int) ^ e := by simp
 rw [← this, ← Int.natCast_mul];exact wrap_i64 (by omega)
theorem low2 {m g : Nat} : ((m >>> g) &&& 3 = 0) ↔ (m.testBit g = false ∧ m.testBit (g + 1) = false) := by
 have h1 : (m >>> g) &&& 3 = (m >>> g) % 4 := Nat.and_two_pow_sub_one_eq_mod (m >>> g) 2;have h2 : m.testBit g = (m >>> g).testBit 0 := by rw [Nat.testBit_shiftRight]; rfl
 have h3 : m.testBit (g + 1) = (m >>> g).testBit 1 := by rw [Nat.testBit_shiftRight]
 rw [h1, h2, h3, Nat.testBit_succ, Nat.testBit_zero, Nat.testBit_zero];simp only [decide_eq_false_iff_not];omega
def labM (a : Ar) : Nat := 2 ^ (2 * a.sig.toNat + bif a.up then 1 else 0)
def mskS (k : Int) (m : Nat) (a : Ar) : Nat := if 0 ≤ a.sig ∧ a.from_ = k then m ||| labM a else m
def mskN (L : List Ar) (k : Int) : Nat := L.foldl (mskS k) 0
theorem mskN_snoc (L : List Ar) (a : Ar) (k : Int) : mskN (L ++ [a]) k = mskS k (mskN L k) a := by unfold mskN; rw [List.foldl_append]; rfl
theorem msk_bit (k : Int) (i : Nat) : ∀ (L : List Ar) (m : Nat), (L.foldl (mskS k) m).testBit i = (m.testBit i || L.any fun a => (decide (0 ≤ a.sig) && decide (a.from_ = k)) && decide (2 * a.sig.toNat + (bif a.up then 1 else 0) = i))
 | [], m => by simp
 | a :: L, m => by
  rw [List.foldl_cons, msk_bit k i L, List.any_cons, ← Bool.or_assoc];congr 1;unfold mskS labM
  split
  ·rename_i q;rw [Nat.testBit_or, Nat.testBit_two_pow]; simp [q.1, q.2]
  rename_i q
  by_cases h1 : 0 ≤ a.sig
  ·have h2 : ¬ a.from_ = k := fun h => q ⟨h1, h⟩
   simp [h2]
  simp [h1]
theorem labM_lt {a : Ar} (h : a.sig < 8) : labM a < 65536 := by
 unfold labM;have h1 : 2 * a.sig.toNat + (bif a.up then 1 else 0) ≤ 15 := by cases a.up <;> simp <;> omega
 have h2 : 2 ^ (2 * a.sig.toNat + (bif a.up then 1 else 0)) ≤ 2 ^ 15 := Nat.pow_le_pow_right (by decide) h1;omega
theorem mskS_lt {a : Ar} {k : Int} {m : Nat} (h : a.sig < 8) (hm : m < 65536) : mskS k m a < 65536 := by
 unfold mskS
 split
 ·exact Nat.or_lt_two_pow (n := 16) hm (labM_lt h)
 exact hm
theorem msk_lt (k : Int) : ∀ (L : List Ar) (m : Nat), (∀ a, a ∈ L → a.sig < 8) → m < 65536 → L.foldl (mskS k) m < 65536
 | [], m, _, hm => hm
 | a :: L, m, h, hm => by
  rw [List.foldl_cons];exact msk_lt k L _ (fun b hb => h b (List.mem_cons_of_mem _ hb)) (mskS_lt (h a (List.mem_cons_self ..)) hm)
theorem mskN_lt {L : List Ar} (h : ∀ a, a ∈ L → a.sig < 8) (k : Int) : mskN L k < 65536 := msk_lt k L 0 h (by decide)
theorem msk_exc (c : SG) (k : Int) (g : Nat) : ((mskN c.arcs k >>> (2 * g)) &&& 3 = 0) ↔ excB c k g = false := by
 rw [low2];unfold mskN;rw [msk_bit, msk_bit, Nat.zero_testBit, Nat.zero_testBit, Bool.false_or, Bool.false_or];unfold excB;simp only [List.any_eq_false, Bool.and_eq_true, decide_eq_true_eq];constructor
 ·rintro ⟨h1, h2⟩ a ha ⟨e1, e2⟩;cases hu : a.up with
  | false => exact h1 a ha ⟨⟨by omega, e1⟩, by rw [hu]; show 2 * a.sig.toNat + 0 = _; omega⟩
  | true => exact h2 a ha ⟨⟨by omega, e1⟩, by rw [hu]; show 2 * a.sig.toNat + 1 = _; omega⟩
 intro h;constructor
 ·rintro a ha ⟨⟨e0, e1⟩, e2⟩;refine h a ha ⟨e1, ?_⟩;cases hu : a.up with
  | false => rw [hu] at e2; simp only [cond_false] at e2; omega
  | true => rw [hu] at e2; simp only [cond_true] at e2; omega
 rintro a ha ⟨⟨e0, e1⟩, e2⟩;refine h a ha ⟨e1, ?_⟩;cases hu : a.up with
 | false => rw [hu] at e2; simp only [cond_false] at e2; omega
 | true => rw [hu] at e2; simp only [cond_true] at e2; omega
def mskF (L : List Ar) (n : Nat) : List Int := (List.range n).map fun (k : Nat) => ((mskN L (k : Int) : Nat) : Int)
theorem mskF_len (L : List Ar) (n : Nat) : (mskF L n).length = n := by unfold mskF; simp
theorem mskF_get {L : List Ar} {n k : Nat} (h : k < n) : (ints (mskF L n))[k]? = some [dI ((mskN L (k : Int) : Nat) : Int)] := by
 unfold mskF;rw [List.getElem?_map, List.getElem?_map, List.getElem?_range h]; rfl
theorem mskF_zero (n : Nat) : mskF [] n = List.replicate n 0 := by
 refine List.ext_getElem? fun i => ?_
 unfold mskF;rw [List.getElem?_map, List.getElem?_replicate];rcases Nat.lt_or_ge i n with h | h
 ·rw [List.getElem?_range h, if_pos h]; rfl
 rw [List.getElem?_eq_none (by simpa using h), if_neg (by omega)]; rfl
theorem mskF_set {L : List Ar} {n f : Nat} {a : Ar} (hs : 0 ≤ a.sig) (hf : a.from_ = (f : Int)) : (mskF L n).set f (((mskN L (f : Int) ||| labM a) : Nat) : Int) = mskF (L ++ [a]) n := by
 refine List.ext_getElem? fun i => ?_
 unfold mskF;rw [List.getElem?_set]
 by_cases e : f = i
 ·subst e;rw [if_pos rfl];rcases Nat.lt_or_ge f n with h | h
  ·rw [if_pos (by simpa using h), List.getElem?_map, List.getElem?_range h];show some (((mskN L (f : Int) ||| labM a : Nat)) : Int) = some ((mskN (L ++ [a]) (f : Int) : Nat) : Int);rw [mskN_snoc];unfold mskS;rw [if_pos ⟨hs, hf⟩]
  rw [if_neg (by simpa using h), List.getElem?_eq_none (by simpa using h)]
 rw [if_neg e, List.getElem?_map, List.getElem?_map];rcases Nat.lt_or_ge i n with h | h
 ·rw [List.getElem?_range h];show some ((mskN L (i : Int) : Nat) : Int) = some ((mskN (L ++ [a]) (i : Int) : Nat) : Int);rw [mskN_snoc];unfold mskS;rw [if_neg (by rintro ⟨_, q⟩; omega)]
 rw [List.getElem?_eq_none (by simpa using h)]; rfl
theorem mskF_no {L : List Ar} {n : Nat} {a : Ar} (hs : ¬ 0 ≤ a.sig) : mskF (L ++ [a]) n = mskF L n := by
 unfold mskF;refine List.map_congr_left fun k _ => ?_
 rw [mskN_snoc];unfold mskS;rw [if_neg (fun q => hs q.1)]
theorem two_nat (g : Nat) : (2 : Int) * (g : Int) = ((2 * g : Nat) : Int) := by omega
theorem labMask_spec (a : Ar) (h0 : 0 ≤ a.sig) (h8 : a.sig < 8) : ASpec Tryz.prog 186 [.agg [aI a.sig, aT a.up]] [] (Pure1 (aI ((labM a : Nat) : Int))) := by
 have hl : labM a = 2 ^ (2 * a.sig.toNat + bif a.up then 1 else 0) := rfl;obtain ⟨g, hg⟩ := eqx a.sig.toNat;have hs : a.sig = (g : Int) := by omega
 rw [← hg] at hl;rw [hs];refine ASpec.of Tryz.func186 rfl rfl fun C hC => ?_
 refine AC.seq (AC.region ?_);refine kD ?_;refine za ?_;refine AL.nil (th_n (AC.seq (AC.seq (AC.region ?_))));refine zf ?_;refine zr ?_;refine AL.nil (th_n ?_);refine AC.condB rfl (fun h0 => ?_) (fun h0 => ?_)
 ·refine AC.seq (AC.region ?_);refine zf ?_;refine zr ?_;refine zA ?_;refine AL.p (by exact g_shl (c := ((2 * 2 ^ (2 * g) : Nat) : Int)) rfl rfl (by omega) (by rw [two_nat]; exact shl_nat (a := 2) (by decide) (by omega))) rfl ?_;refine za ?_;refine AL.nil (th_n (AC.ret (th_r (bq_r ?_))));exact ret1 rfl (by rw [hl, ‹a.up = true›]; show dI _ = dI ((2 ^ (2 * g + 1) : Nat) : Int); rw [Nat.pow_succ, Nat.mul_comm])
 refine AC.skip (th_n (AC.seq (AC.region ?_)));refine zf ?_;refine zr ?_;refine zA ?_;refine AL.p (by exact g_shl (c := ((1 * 2 ^ (2 * g) : Nat) : Int)) rfl rfl (by omega) (by rw [two_nat]; exact shl_nat (a := 1) (by decide) (by omega))) rfl ?_;refine za ?_;refine AL.nil (th_n (AC.ret (bq_r ?_)));exact ret1 rfl (by rw [hl, ‹a.up = false›]; show dI _ = dI ((2 ^ (2 * g + 0) : Nat) : Int); rw [Nat.one_mul]; rfl)
theorem en_labMask : Enters Tryz.prog 186 := enters_of Tryz.func186 rfl rfl
set_option maxHeartbeats 4000000 in
theorem labMasks_spec (c : SG) (hn : c.codes.length ≤ 100000) (hl : c.arcs.length ≤ 1000000) (hin : ∀ a, a ∈ c.arcs → ArIn c.codes.length a) (hsg : ∀ a, a ∈ c.arcs → a.sig < 8) : ASpec Tryz.prog 141 [sgA c] [] (Pure1 (.d (vI (mskF c.arcs c.codes.length)))) := by
 obtain ⟨n, hnn⟩ := eqx c.codes.length;rw [← hnn] at hn hin ⊢;refine ASpec.of Tryz.func141 rfl rfl fun C hC => ?_
 refine AC.seq (AC.region ?_);refine kD ?_;refine za ?_;refine AL.nil (th_n (AC.seq (AC.region ?_)));refine zf ?_;refine zr ?_;refine AL.p (by exact g_len_view (k := n) rfl rfl (by rw [hnn]; exact tsX_len _)) rfl ?_;refine AL.q (by exact h_make (k := n) rfl rfl rfl rfl rfl rfl rfl rfl (by show 8 * n ≤ _; omega) (by omega)) rfl ?_;refine AL.p (by exact as2 rfl) rfl ?_;refine AL.nil (th_n (AC.seq (AC.seq (AC.region ?_))));refine zf ?_;refine zr ?_;refine kI c.arcs.length (arL_len _) ?_;refine zm ?_;refine AL.nil (th_n (AC.block ?_));refine AC.loop (ι := Nat) (fun j => ⟨35, 300, [(1, .d (.ref (sgD c))), (3, .own 100 n), (11, .d (vArs c.arcs)), (12, aI c.arcs.length), (13, aI j)], [(100, some (.arr 3 1 (ints (mskF (c.arcs.take j) n))))]⟩) (fun j => j ≤ c.arcs.length) (fun j => c.arcs.length - j) (0) ?_ (Nat.zero_le _) ?_
 ·exact zw [(100, _)] hC (b := by rw [List.take_zero, mskF_zero, ← repZ]; repeat (first | exact True.intro | refine And.intro ?_ ?_ | exact rfl | refine ⟨_, _, rfl, rfl, ?_⟩))
 intro j hj;refine AC.seq (AC.region ?_);refine zc ?_;refine AL.nil (th_n (AC.seq ?_));refine AC.condD rfl (fun h0 => ?_) (fun h0 => ?_)
 ·refine AC.skip (th_n (AC.seq (AC.block (AC.seq ?_))));have hj1 : j < c.arcs.length := by omega
  have hget := arL_get hj1;have hia := hin _ (List.getElem_mem hj1);unfold ArIn at hia;have hsa := hsg _ (List.getElem_mem hj1);have htk : c.arcs.take (j + 1) = c.arcs.take j ++ [c.arcs[j]] := by rw [List.take_add_one, List.getElem?_eq_getElem hj1]; rfl
  have hlt := fun k => mskN_lt (L := c.arcs.take j) (fun a ha => hsg a (List.mem_of_mem_take ha)) k
  obtain ⟨L, hL⟩ := eqx (c.arcs.take j);rw [← hL] at htk hlt ⊢;obtain ⟨a, ha⟩ := eqx (c.arcs[j]);rw [← ha] at hget hia hsa htk;obtain ⟨f, hf⟩ := eqx a.from_.toNat;have hfe : a.from_ = (f : Int) := by omega
  rw [hfe] at hget;have hfn : f < n := by omega
  have hno := @mskF_no L n a;have hse := fun q => @mskF_set L n f a q hfe
  have hrow := mskF_get (L := L) hfn;have hltf := hlt (f : Int);have hlm := labM_lt hsa;clear ha hL hf;have hLm := fun q => labMask_spec a q hsa
  refine AC.region ?_;refine AL.p (by exact g_ia_view rfl rfl rfl rfl rfl (by rfl) (by assumption)) rfl ?_;refine kG ?_;refine kE ?_;refine zs ?_;refine AL.nil (th_n (AC.seq (AC.region ?_)));refine zF ?_;refine zl ?_;refine zc ?_;refine AL.nil (th_n ?_);refine AC.condD rfl (fun h1 => ?_) (fun h1 => ?_)
  ·refine AC.drawn' mixed_ok [[], [], [1], [0,1,2], [0,1,2,3], [], [5], [], [7], [5,6,7,8], [5,6,7,8,9], [0,1,2,3,4,5,6,7,8,9,10], [0,1,2,3,4,5,6,7,8,9,10,11], [0,1,2,3,4,5,6,7,8,9,10,11,12]] (by decide) ?_;refine zd 0 [] 14 (by exact mv2 rfl) ?_;refine zd 1 [] 14 (by exact g_fa_ptr rfl rfl rfl rfl rfl) ?_;refine zd 2 [1] 14 (by exact g_load_ptr rfl rfl rfl rfl rfl) ?_;refine zd 3 [0,1,2] 14 (by exact g_ia_own (i := f) (l := n) rfl rfl rfl rfl rfl rfl hfn rfl) ?_;refine zd 4 [0,1,2,3] 14 (by exact g_load_arr1 rfl rfl rfl rfl (by rw [Nat.mul_one]; exact hrow)) ?_;refine zd 5 [] 14 (by exact g_fa_ptr rfl rfl rfl rfl rfl) ?_;refine zd 6 [5] 14 (by exact g_load_ptr rfl rfl rfl rfl rfl) ?_;refine zd 7 [] 14 (by exact g_fa_ptr rfl rfl rfl rfl rfl) ?_;refine zd 8 [7] 14 (by exact g_load_ptr rfl rfl rfl rfl rfl) ?_;refine zd 9 [5,6,7,8] 14 (by exact g_build rfl rfl rfl) ?_;refine zh 10 [5,6,7,8,9] 14 (by exact h_pure en_labMask rfl rfl (by repeat (first | exact rfl | exact DLead.same | refine ⟨_, _, rfl, ?_, ?_⟩ | refine ⟨_, rfl, ?_⟩)) (hLm (by assumption)) rfl) ?_;refine zd 11 (List.range 11) 14 (by exact g_bits rfl rfl (bits_or (by omega) (by omega))) ?_;refine zd 12 (List.range 12) 14 (by exact g_ia_own (i := f) (l := n) rfl rfl rfl rfl rfl rfl hfn rfl) ?_;refine zh 13 (List.range 13) 14 (by exact h_store_arr (i := f) (j := 0) (d := dI ((mskN L (f : Int) ||| labM a : Nat) : Int)) rfl rfl rfl rfl .same rfl hrow (by decide)) ?_;refine zj 14 ?_;refine ib_n (th_n (AC.region ?_));refine zA ?_;refine zm ?_;refine AL.nil (th_n ?_)
   (have q := ‹0 ≤ a.sig›; have e := hse q; exact ⟨j + 1, by omega, by omega, zw [(100, 100)] hC (b := by rw [htk, ← e, ints_set]; repeat (first | exact True.intro | refine And.intro ?_ ?_ | exact rfl | refine ⟨_, _, rfl, rfl, ?_⟩))⟩)
  refine AC.skip (ib_n (th_n (AC.region ?_)));refine zA ?_;refine zm ?_;refine AL.nil (th_n ?_)
  (have q : ¬ 0 ≤ a.sig := (by omega); have e := hno q; exact ⟨j + 1, by omega, by omega, zw [(100, 100)] hC (b := by rw [htk, e]; repeat (first | exact True.intro | refine And.intro ?_ ?_ | exact rfl | refine ⟨_, _, rfl, rfl, ?_⟩))⟩)
 refine AC.exit (th_e (th_e (ib_y (th_n (AC.seq ?_)))));have hjj : j = c.arcs.length := by omega
 rw [hjj, List.take_length];refine AC.weak (Weak.freeze (i := 3) rfl rfl (by rw [ints_len, mskF_len]; exact Nat.le_refl _) (List.take_of_length_le (by rw [ints_len, mskF_len]; exact Nat.le_refl _))) ?_;refine AC.region ?_;refine zm ?_;refine za ?_;refine AL.nil (th_n (AC.ret (bq_r ?_)));exact ret1 rfl rfl
theorem en_labMasks : Enters Tryz.prog 141 := enters_of Tryz.func141 rfl rfl
def fromE (L : List Ar) : List (Nat × Nat) := (List.range L.length).map fun j => ((arAt L j).from_.toNat, j)
theorem fromE_len (L : List Ar) : (fromE L).length = L.length := by unfold fromE; simp
theorem fromE_take {L : List Ar} {j : Nat} (h : j < L.length) : (fromE L).take (j + 1) = (fromE L).take j ++ [(L[j].from_.toNat, j)] := by
 rw [List.take_add_one, List.getElem?_eq_getElem (by rw [fromE_len]; exact h)];unfold fromE;rw [List.getElem_map, List.getElem_range, arAt_nat h]; rfl
theorem fromE_next (L : List Ar) (k : Nat) : nextL (fromE L) k = (List.range L.length).filter fun j => decide ((arAt L j).from_.toNat = k) := by
 unfold nextL fromE;rw [List.filter_map, List.map_map];have : ((fun x : Nat × Nat => x.2) ∘ fun j => ((arAt L j).from_.toNat, j)) = id := rfl;rw [this, List.map_id]; rfl
set_option maxHeartbeats 16000000 in
theorem nextArcs_spec (c : SG) (hn : c.codes.length ≤ 100000) (hl : c.arcs.length ≤ 1000000) (hin : ∀ a, a ∈ c.arcs → ArIn c.codes.length a) : ASpec Tryz.prog 156 [sgA c] [] (Pure1 (.d (.view 30 1 (nxtR (fromE c.arcs) c.codes.length)))) := by
 have hFl := fromE_len c.arcs;have hFt := fun j (hj : j < c.arcs.length) => fromE_take hj
 obtain ⟨E, hE⟩ := eqx (fromE c.arcs);simp only [← hE] at hFl hFt ⊢;clear hE;obtain ⟨n, hnn⟩ := eqx c.codes.length;rw [← hnn] at hn hin ⊢;refine ASpec.of Tryz.func156 rfl rfl fun C hC => ?_
 refine AC.seq (AC.region ?_);refine kD ?_;refine za ?_;refine AL.nil (th_n (AC.seq (AC.region ?_)));refine zf ?_;refine zr ?_;refine AL.p (by exact g_len_view (k := n) rfl rfl (by rw [hnn]; exact tsX_len _)) rfl ?_;refine AL.q (by exact h_make (k := n) rfl rfl rfl rfl rfl rfl rfl rfl (by show 24 * n ≤ _; omega) (by omega)) rfl ?_;refine AL.p (by exact as2 rfl) rfl ?_;refine AL.nil (th_n (AC.seq (AC.seq (AC.region ?_))));refine zf ?_;refine zr ?_;refine kI c.arcs.length (arL_len _) ?_;refine zm ?_;refine AL.nil (th_n (AC.block ?_));refine AC.loop (ι := Nat × List Value × (Nat → Prop)) (fun x => ⟨32, 600, [(1, .d (.ref (sgD c))), (3, .own 101 n), (11, .d (vArs c.arcs)), (12, aI c.arcs.length), (13, aI x.1)], [(101, some (.arr 30 1 (rowsV 1 n x.2.1))), (102, some (.pred x.2.2 fun w => TL w x.2.2 (nxtD (E.take x.1) n) x.2.1))]⟩) (fun x => x.1 ≤ c.arcs.length ∧ x.2.1.length = n) (fun x => c.arcs.length - x.1) ((0, List.replicate n (.slice none 0 0), fun _ => False)) ?_ (⟨Nat.zero_le _, by simp⟩) ?_
 ·exact (Weak.nilsT 3 1 n).trans (zw [(101, 8), (102, 16)] hC (b := by dsimp only; rw [rows1_rep, List.take_zero, nxtD_nil]; repeat (first | exact True.intro | refine And.intro ?_ ?_ | exact rfl | refine ⟨_, _, rfl, rfl, ?_⟩)))
 rintro ⟨j, V, S⟩ ⟨hj, hV⟩;dsimp only at hj hV ⊢;refine AC.seq (AC.region ?_);refine zc ?_;refine AL.nil (th_n (AC.seq ?_));refine AC.condD rfl (fun h0 => ?_) (fun h0 => ?_)
 ·refine AC.skip (th_n (AC.seq (AC.block (AC.seq ?_))));have hj1 : j < c.arcs.length := by omega
  have hget := arL_get hj1;have hia := hin _ (List.getElem_mem hj1);unfold ArIn at hia;have htk := hFt j hj1;obtain ⟨a, ha⟩ := eqx (c.arcs[j]);rw [← ha] at hget hia htk;clear ha;obtain ⟨f, hf⟩ := eqx a.from_.toNat;have hfe : a.from_ = (f : Int) := by omega
  rw [hfe] at hget;rw [← hf] at htk;have hfn : f < n := by omega
  clear hf;refine AC.region ?_;refine zm ?_;refine AL.p (by exact g_ia_view rfl rfl rfl rfl rfl (by rfl) (by assumption)) rfl ?_;refine kG ?_;refine kE ?_;refine za ?_;refine zs ?_;refine AL.nil (th_n ?_);refine AC.weak (t := ⟨32, 700, [(1, .d (.ref (sgD c))), (3, .own 101 n), (4, aI j), (5, .ptr 103 0), (11, .d (vArs c.arcs)), (12, aI c.arcs.length), (13, aI j)], [(101, some (.arr 30 1 (rowsV 1 n V))), (102, some (.pred S fun w => TL w S (nxtD (E.take j) n) V)), (103, some (.cells 73 [aI f, aI a.sig, aT a.up, aI a.to_]))]⟩) (zw [(101, 101), (102, 102), (103, _)] hC) ?_;obtain ⟨v, hv⟩ : ∃ v, V[f]? = some v := ⟨_, List.getElem?_eq_getElem (by omega)⟩;have hrow0 := rows1_get hfn hv;refine AC.weakR (WeakR.splitT 102 f (L := nxtD (E.take j) n) (V := V) (d := vI (nI (nextL (E.take j) f))) (v := v) rfl (fun w h => h) (nxtD_get hfn) hv rfl) ?_;rintro _ ⟨S1, S2, hS, rfl⟩;refine AC.weakR (WeakR.openC 700 (e := 3) (sz := 1) (els := ints (nI (nextL (E.take j) f))) (v := v) rfl (fun w h => h) rfl rfl) ?_;rintro _ ⟨p, V', S', ⟨hv', hp, hVl, hrow, hSS, hx⟩, rfl⟩;rw [rows1_ints hVl hx];have hll := nextL_len (E.take j) f;rw [List.length_take] at hll;rw [ints_len] at hv' hp;have hDs := nxtD_snoc (E := E.take j) (n := n) (f := f) (t := j);rw [← htk] at hDs;have hDl := nxtD_len (E.take j) n;obtain ⟨l, hl⟩ := eqx (nI (nextL (E.take j) f));have hnl : l.length ≤ j := by rw [hl, nI_len]; omega
  rw [← hl] at hv' hp hDs ⊢;clear hl hVl hrow hx hSS;refine AC.drawnE mixed_ok [[], [], [1], [], [], [4], [3,4,5], [3,4,5,6], [], [8], [3,4,5,6,7,8,9], [0,1,2,3,4,5,6,7,8,9,10], [0,1,2,3,4,5,6,7,8,9,10,11]] (by decide) ?_;refine DE.op 0 [] 13 rfl rfl rfl (.free rfl (NOp.of (by exact mv2 rfl))) rfl ?_;refine DE.op 1 [] 13 rfl rfl rfl (.free rfl (NOp.of (by exact g_fa_ptr rfl rfl rfl rfl rfl))) rfl ?_;refine DE.op 2 [1] 13 rfl rfl rfl (.free rfl (NOp.of (by exact g_load_ptr rfl rfl rfl rfl rfl))) rfl ?_;refine DE.op 3 [] 13 rfl rfl rfl (.free rfl (NOp.of (by exact mv2 rfl))) rfl ?_;refine DE.op 4 [] 13 rfl rfl rfl (.free rfl (NOp.of (by exact g_fa_ptr rfl rfl rfl rfl rfl))) rfl ?_;refine DE.op 5 [4] 13 rfl rfl rfl (.free rfl (NOp.of (by exact g_load_ptr rfl rfl rfl rfl rfl))) rfl ?_;refine DE.op 6 [3,4,5] 13 rfl rfl rfl (.free rfl (NOp.of (by exact g_ia_own (i := f) (l := n) rfl rfl rfl rfl rfl rfl hfn rfl))) rfl ?_;refine DE.op 7 [3,4,5,6] 13 rfl rfl rfl (.free rfl (NOp.of (by exact g_load_lock (il := 709) (ia := 708) (p := p) (i := f) (j := 0) rfl rfl rfl rfl rfl hrow0 rfl rfl hv' hp))) rfl ?_;refine DE.op 8 [] 13 rfl rfl rfl (.free rfl (NOp.of (by exact mv1 rfl))) rfl ?_;refine DE.op 9 [8] 13 rfl rfl rfl (.free rfl (by exact h_litF rfl rfl rfl rfl rfl rfl rfl rfl)) rfl ?_;refine DE.op 10 [3,4,5,6,7,8,9] 13 rfl rfl rfl (.free rfl (by exact h_appendI l [(j : Int)] (.own rfl rfl (ints_len _).symm) (.view rfl) (by rw [List.length_append]; simp only [List.length_cons, List.length_nil]; omega) (by simp))) rfl ?_;refine DE.op 11 [0,1,2,3,4,5,6,7,8,9,10] 13 rfl rfl rfl (.free rfl (NOp.of (by exact g_ia_own (i := f) (l := n) rfl rfl rfl rfl rfl rfl hfn rfl))) rfl ?_;refine DE.opX 12 [0,1,2,3,4,5,6,7,8,9,10,11] 13 ((Value.int .i64 0, fun _ => False)) rfl rfl rfl rfl (h_storeRaw (i := f) (j := 0) rfl rfl rfl rfl rfl rfl (Nat.le_of_eq (ints_len _).symm) (List.take_of_length_le (Nat.le_of_eq (ints_len _))) (ints_fl _) rfl hrow0 (by decide) rfl) rfl (by decide) ?_;rintro ⟨v2, S3⟩;refine DE.fin (ps := [(0,1),(0,2),(0,3),(0,4),(0,5),(0,6),(0,7),(0,8),(0,9),(0,10),(1,0),(1,3),(1,4),(1,5),(1,6),(1,7),(1,8),(1,9),(1,10),(2,0),(2,3),(2,4),(2,5),(2,6),(2,7),(2,8),(2,9),(2,10),(3,0),(3,1),(3,2),(3,4),(3,5),(3,8),(3,9),(4,0),(4,1),(4,2),(4,3),(4,8),(4,9),(5,0),(5,1),(5,2),(5,3),(5,8),(5,9),(6,0),(6,1),(6,2),(6,8),(6,9),(7,0),(7,1),(7,2),(7,8),(7,9),(8,0),(8,1),(8,2),(8,3),(8,4),(8,5),(8,6),(8,7),(9,0),(9,1),(9,2),(9,3),(9,4),(9,5),(9,6),(9,7),(10,0),(10,1),(10,2)]) 13 rfl rfl (by decide +kernel) (by decide +kernel) (by rfl) ?_;refine ib_n (th_n (AC.region ?_));refine zA ?_;refine zm ?_;refine AL.nil (th_n ?_);have hsv := rows1_set (v := v2) hV hfn;exact ⟨(j + 1, V.set f v2, fun k => S2 k ∨ S3 k), ⟨hj1, by rw [List.length_set]; exact hV⟩, by dsimp only; omega, (Weak.cons 102 (fun w => TX w S2 f (nxtD (E.take j) n) (V.set f v2)) rfl (fun w h => h.setV v2) (fun w w' hk h => h.turn hk)).trans ((Weak.joinT 102 812 f (S := fun k => S2 k ∨ S3 k) rfl rfl (fun w h => h) (fun k => Iff.rfl) (by rw [hDl]; exact hfn) (by rw [List.getElem?_set_self (by omega)]) rfl).trans (zw [(101, 101), (102, 102)] hC (b := by rw [hDs, ← hsv]; repeat (first | exact True.intro | refine And.intro ?_ ?_ | exact rfl | refine ⟨_, _, rfl, rfl, ?_⟩))))⟩
 refine AC.exit (th_e (th_e (ib_y (th_n (AC.seq ?_)))));have hjj : j = E.length := by omega
 rw [hjj, List.take_length];refine AC.weakR (WeakR.closeN (els := nxtR E n) (V := V) 3 102 101 rfl (by simp) rfl (fun w h => by rw [nxtR_flat]; exact h) rfl (by simp) (nxtR_row E n) rfl) ?_;rintro _ ⟨v0, S0, rfl⟩;refine AC.weak (Weak.thaw 3 102 (x := .view 30 1 (nxtR E n)) rfl rfl (fun w h => h)) ?_;refine AC.region ?_;refine zm ?_;refine za ?_;refine AL.nil (th_n (AC.ret (bq_r ?_)));exact ret1 rfl rfl
theorem en_nextArcs : Enters Tryz.prog 156 := enters_of Tryz.func156 rfl rfl
def ownS (s : List Sig) (g : Int) : Bool := if g < 0 then true else !decide ((sAt s g.toNat).kind = 1)
theorem isInput_spec (c : SG) (g : Int) (hg : g < c.sigs.length) : ASpec Tryz.prog 201 [sgA c, aI g] [] (Pure1 (aT (!ownS c.sigs g))) := by
 have hI : ¬ g < 0 → g = ((g.toNat : Nat) : Int) := by omega
 have hget : ¬ g < 0 → (sigsL c.sigs)[g.toNat]? = some (sigD (sAt c.sigs g.toNat)) := by intro h; have h2 : g.toNat < c.sigs.length := by { omega }; rw [sAt_nat h2]; exact sigsL_get h2
 have hR : ownS c.sigs g = if g < 0 then true else !decide ((sAt c.sigs g.toNat).kind = 1) := rfl
 obtain ⟨R, hRR⟩ := eqx (ownS c.sigs g);rw [← hRR] at hR ⊢;clear hRR;refine ASpec.of Tryz.func201 rfl rfl fun C hC => ?_
 refine AC.seq (AC.region ?_);refine kD ?_;refine za ?_;refine AL.nil (th_n (AC.seq (AC.region ?_)));refine zm ?_;refine zc ?_;refine zm ?_;refine AL.caseG rfl rfl (fun h0 => ?_) (fun h0 => ?_)
 ·refine zy ?_;have hI1 := hI (by omega);have hget1 := hget (by omega);refine zf ?_;refine zy ?_;refine zr ?_;refine zy ?_;refine zm ?_;refine zy ?_;refine AL.p (by exact g_ia_view rfl rfl rfl rfl rfl (by assumption) (by assumption)) rfl ?_;refine zy ?_;refine zf ?_;refine zy ?_;refine zr ?_;refine zy ?_;refine zc ?_;refine zQ ?_;refine za ?_;refine AL.nil (th_n (AC.ret (bq_r ?_)));exact ret1 rfl (by rw [hR, if_neg (by omega), Bool.not_not])
 refine zn ?_;refine zn ?_;refine zn ?_;refine zn ?_;refine zn ?_;refine zn ?_;refine zn ?_;refine zP ?_;refine za ?_;refine AL.nil (th_n (AC.ret (bq_r ?_)))
 (have q := ‹¬ 0 ≤ g›; exact ret1 rfl (by rw [hR, if_pos (by omega)]; rfl))
theorem en_isInput : Enters Tryz.prog 201 := enters_of Tryz.func201 rfl rfl
def ownL (s : List Sig) (n : Nat) : List Int := nI ((List.range n).filter fun i => ownS s (i : Int))
theorem ownL_succ (s : List Sig) (n : Nat) : ownL s (n + 1) = ownL s n ++ (if ownS s (n : Int) = true then [(n : Int)] else []) := by
 unfold ownL nI;rw [List.range_succ, List.filter_append, List.map_append];congr 1
 by_cases h : ownS s (n : Int) = true <;> simp [h]
theorem ownL_len (s : List Sig) (n : Nat) : (ownL s n).length ≤ n := by
 unfold ownL;rw [nI_len];have := List.length_filter_le (fun i => ownS s ((i : Nat) : Int)) (List.range n)
 rwa [List.length_range] at this
theorem ownS_nat (s : List Sig) {i : Nat} (h : i < s.length) : ownS s (i : Int) = !decide (s[i].kind = 1) := by
 unfold ownS;rw [if_neg (by omega), Int.toNat_natCast, sAt_nat h]
set_option maxHeartbeats 2000000 in
theorem outputs_spec (c : SG) (hl : c.sigs.length ≤ 1000000) : ASpec Tryz.prog 155 [sgA c] [] (Pure1 (.d (vI (ownL c.sigs c.sigs.length)))) := by
 have hS := ownL_succ c.sigs;have hLl := ownL_len c.sigs;refine ASpec.of Tryz.func155 rfl rfl fun C hC => ?_
 refine AC.seq (AC.region ?_);refine kD ?_;refine za ?_;refine AL.nil (th_n (AC.seq (AC.region ?_)));refine AL.q (by exact h_lit rfl rfl rfl rfl rfl rfl rfl rfl) rfl ?_;refine AL.p (by exact as2 rfl) rfl ?_;refine AL.nil (th_n (AC.seq (AC.seq (AC.region ?_))));refine zf ?_;refine zr ?_;refine kI c.sigs.length (List.length_map _) ?_;refine zm ?_;refine AL.nil (th_n (AC.block ?_));refine AC.loop (ι := Nat) (fun k => ⟨24, 300, [(1, .d (.ref (sgD c))), (3, .own 100 (ownL c.sigs k).length), (8, .d (vSigs c.sigs)), (9, aI c.sigs.length), (10, aI k)], [(100, some (.arr 3 1 (ints (ownL c.sigs k))))]⟩) (fun k => k ≤ c.sigs.length) (fun k => c.sigs.length - k) (0) ?_ (Nat.zero_le _) ?_
 ·exact zw [(100, _)] hC
 intro k hk;refine AC.seq (AC.region ?_);refine zc ?_;refine AL.nil (th_n (AC.seq ?_));refine AC.condD rfl (fun h0 => ?_) (fun h0 => ?_)
 ·refine AC.skip (th_n (AC.seq (AC.block (AC.seq ?_))));have hk1 : k < c.sigs.length := by omega
  have hget := sigsL_get hk1;have hSk := hS k;have hO := ownS_nat c.sigs hk1;rw [hO] at hSk;have hl2 := hLl k;obtain ⟨x, hx⟩ := eqx (c.sigs[k]);rw [← hx] at hget hSk;clear hx hO;refine AC.region ?_;refine zm ?_;refine AL.p (by exact g_ia_view rfl rfl rfl rfl rfl (by rfl) (by assumption)) rfl ?_;refine kG ?_;refine kE ?_;refine za ?_;refine zs ?_;refine AL.nil (th_n (AC.seq (AC.region ?_)));refine zF ?_;refine zl ?_;refine zc ?_;refine AL.nil (th_n ?_);refine AC.condND rfl (fun h1 => ?_) (fun h1 => ?_)
  ·refine AC.region ?_;refine kB ?_;refine zm ?_;refine AL.q (by exact h_litF rfl rfl rfl rfl rfl rfl rfl rfl) rfl ?_;refine AL.q (by exact h_appendI (ownL c.sigs k) [(k : Int)] (.own rfl rfl (ints_len _).symm) (.view rfl) (by rw [List.length_append]; simp only [List.length_cons, List.length_nil]; omega) (by simp)) rfl ?_;refine AL.p (by exact as2 rfl) rfl ?_;refine AL.nil (ib_n (th_n (AC.region ?_)));refine zA ?_;refine zm ?_;refine AL.nil (th_n ?_)
   (have q := ‹¬ x.kind = 1›; rw [decide_eq_false q, Bool.not_false, if_pos rfl] at hSk; exact ⟨k + 1, by omega, by omega, zw [(100, _)] hC (by rw [hSk]; repeat (first | exact True.intro | refine And.intro ?_ ?_ | exact DLead.same | exact rfl | refine ⟨_, rfl, ?_⟩)) (by rw [hSk]; repeat (first | exact True.intro | refine And.intro ?_ ?_ | exact rfl | refine ⟨_, _, rfl, rfl, ?_⟩))⟩)
  refine AC.skip (ib_n (th_n (AC.region ?_)));refine zA ?_;refine zm ?_;refine AL.nil (th_n ?_)
  (have q := ‹x.kind = 1›; rw [decide_eq_true q, Bool.not_true, if_neg (by decide), List.append_nil] at hSk; exact ⟨k + 1, by omega, by omega, zw [(100, 100)] hC (by rw [hSk]; repeat (first | exact True.intro | refine And.intro ?_ ?_ | exact DLead.same | exact rfl | refine ⟨_, rfl, ?_⟩)) (by rw [hSk]; repeat (first | exact True.intro | refine And.intro ?_ ?_ | exact rfl | refine ⟨_, _, rfl, rfl, ?_⟩))⟩)
 refine AC.exit (th_e (th_e (ib_y (th_n (AC.seq ?_)))));have hkk : k = c.sigs.length := by omega
 rw [hkk];refine AC.weak (Weak.freeze (i := 3) rfl rfl (Nat.le_of_eq (ints_len _).symm) (List.take_of_length_le (Nat.le_of_eq (ints_len _)))) ?_;refine AC.region ?_;refine zm ?_;refine za ?_;refine AL.nil (th_n (AC.ret (bq_r ?_)));exact ret1 rfl rfl
theorem en_outputs : Enters Tryz.prog 155 := enters_of Tryz.func155 rfl rfl
theorem validC_at {c : SG} (h : validC c = true) : (1 ≤ c.codes.length ∧ c.codes.length ≤ 300) ∧ c.arcs.length ≤ 4000 ∧ (∀ a, a ∈ c.arcs → ArIn c.codes.length a) ∧ ∀ v, v < c.codes.length → 0 ≤ oa (distF (arcE c.arcs) c.codes.length 0) v := by
 unfold validC at h;simp only [Bool.and_eq_true, decide_eq_true_eq, List.all_eq_true] at h;obtain ⟨⟨⟨⟨⟨_, h2⟩, h3⟩, _⟩, h5⟩, h6⟩ := h;refine ⟨by omega, h3, fun a ha => arcG_in (h5 a ha), fun v hv => ?_⟩;unfold allU at h6;have := List.all_eq_true.1 h6 v (List.mem_range.2 hv);exact of_decide_eq_true this
inductive Chn (L : List Ar) : List Ar → Nat → Prop
 | nil : Chn L [] 0
 | snoc {p : List Ar} {f : Nat} {a : Ar} {v : Nat} : Chn L p f → a ∈ L → a.from_ = (f : Int) → a.to_ = (v : Int) → Chn L (p ++ [a]) v
def atP (p : List Ar) (j : Nat) : Int := match j with | 0 => 0 | j + 1 => (arAt p j).to_
theorem Chn.facts {L p : List Ar} {v : Nat} (h : Chn L p v) : (∀ j (hj : j < p.length), p[j] ∈ L ∧ p[j].from_ = atP p j) ∧ atP p p.length = (v : Int) := by
 induction h with
 | nil => exact ⟨fun j hj => by simp at hj, rfl⟩
 | snoc h ha hf ht ih =>
  rename_i p f a v;obtain ⟨h1, h2⟩ := ih
  have hat : ∀ j, j ≤ p.length → atP (p ++ [a]) j = atP p j := by
   intro j hj;cases j with
   | zero => rfl
   | succ j => show (arAt (p ++ [a]) j).to_ = (arAt p j).to_; rw [arAt_nat (by simp; omega), arAt_nat (by omega), List.getElem_append_left (by omega)]
  refine ⟨fun j hj => ?_, ?_⟩
  ·rw [List.length_append] at hj;simp only [List.length_cons, List.length_nil] at hj;rw [hat j (by omega)];rcases Nat.lt_or_ge j p.length with g | g
   ·have := h1 j g;rw [List.getElem_append_left g];exact ⟨this.1, this.2⟩
   obtain rfl : j = p.length := by omega
   rw [List.getElem_concat_length rfl, h2];exact ⟨ha, hf⟩
  rw [List.length_append];show (arAt (p ++ [a]) p.length).to_ = _;rw [arAt_nat (by simp), List.getElem_concat_length rfl, ht]
theorem validC_arc {c : SG} (h : validC c = true) {a : Ar} (ha : a ∈ c.arcs) : ((0 ≤ a.from_ ∧ a.from_ < c.codes.length) ∧ 0 ≤ a.to_ ∧ a.to_ < c.codes.length) ∧ labOk ⟨a.sig, a.up⟩ c.sigs.length = true ∧ fitS a (cAtS c a.from_.toNat) (cAtS c a.to_.toNat) = true := by
 obtain ⟨_, _, hin, _⟩ := validC_at h;unfold validC at h;simp only [Bool.and_eq_true, List.all_eq_true] at h;obtain ⟨⟨_, h5⟩, _⟩ := h;have := h5 a ha;unfold arcG at this;simp only [Bool.and_eq_true] at this;exact ⟨hin a ha, this.1.2, this.2⟩
structure SigOk (s : List Sig) : Prop where
 l : 1 ≤ s.length ∧ s.length ≤ 8
 n : ∀ x, x ∈ s → 1 ≤ x.name.length ∧ x.name.length ≤ 6
theorem SigOk.of {s : List Sig} (h : sigsB s = true) : SigOk s := by
 unfold sigsB at h;rw [Bool.and_eq_true] at h;have hl := inI_iff.1 h.2;refine ⟨by omega, fun x hx => ?_⟩;obtain ⟨j, hj, rfl⟩ := List.getElem_of_mem hx;have := allK_iff.1 h.1 j hj;unfold sigK at this;rw [sAt_nat hj, Bool.and_eq_true] at this;have h1 := this.1;unfold nameB at h1;rw [Bool.and_eq_true] at h1;have := inI_iff.1 h1.2;omega
theorem sig_names {c : SG} (h : validC c = true) : (1 ≤ c.sigs.length ∧ c.sigs.length ≤ 8) ∧ ∀ t, t ∈ c.sigs → t.name.length ≤ 1000 := by
 unfold validC at h;simp only [Bool.and_eq_true] at h;have hs := SigOk.of h.1.1.1.1.1;exact ⟨hs.l, fun t ht => by have := hs.n t ht; omega⟩
theorem arc_sig {c : SG} (h : validC c = true) {a : Ar} (ha : a ∈ c.arcs) : a.sig < c.sigs.length ∧ a.sig < 8 ∧ -1 ≤ a.sig := by
 have := (validC_arc h ha).2.1;have h8 := (sig_names h).1;unfold labOk at this;simp only [Bool.or_eq_true, Bool.and_eq_true, decide_eq_true_eq] at this;omega
theorem mask_dec (c : SG) (k : Int) (g : Nat) : decide ((((mskN c.arcs k >>> (2 * g)) &&& 3 : Nat) : Int) = 0) = !excB c k (g : Int) := by
 have := msk_exc c k g;cases h : excB c k (g : Int) with
 | false => rw [decide_eq_true (by have := this.2 h; omega)]; rfl
 | true => rw [decide_eq_false (fun e => by have := this.1 (by omega); rw [h] at this; cases this)]; rfl
theorem shr_le (m s : Nat) : m >>> s ≤ m := by rw [Nat.shiftRight_eq_div_pow]; exact Nat.div_le_self ..
abbrev isL (l : List (List Int)) : List (List DV) := l.map fun x => [vI x]
abbrev vIs (l : List (List Int)) : DV := .view 30 1 (isL l)
theorem isL_len (l : List (List Int)) : (isL l).length = l.length := List.length_map _
theorem isL_get {l : List (List Int)} {k : Nat} (h : k < l.length) : (isL l)[k]? = some [vI l[k]] := by rw [List.getElem?_map, List.getElem?_eq_getElem h]; rfl
theorem h_appendIs (acc new : List (List Int)) {s : ASt} {dst : Option Nat} {ty : Nat} {pos : String} {af : Array Edge} {gd : Option (Nat × Bool)} {x y : Operand} {f : Nat} {ids ids2 : List Nat} {gone : List (Nat × Option Chunk)}
  (hto : AppTo s x 30 1 (isL acc) ids gone) (harg : AppArg s y 1 (isL new) ids2) (h : (acc ++ new).length ≤ 100000000) (hnew : gone = [] → 0 < new.length) :
  NOp Tryz.prog (ids ++ ids2) s ⟨dst, .call { callee := .builtin .append, args := #[x, y], argTypes := #[33, 33] }, ty, pos, af, gd⟩ f ⟨.own f (acc ++ new).length, (f, some (.arr 30 1 (isL (acc ++ new)))) :: gone⟩ := by
 have := h_append (P := Tryz.prog) (s := s) (dst := dst) (ty := ty) (pos := pos) (af := af) (gd := gd) (x := x) (y := y) (f := f) (t := 33) (tx := 33) (k := (acc ++ new).length) rfl rfl rfl rfl rfl rfl hto harg (by simp) (by omega) (by show (acc ++ new).length * 24 ≤ _; omega) (fun h => by rw [isL_len]; exact hnew h)
 rwa [← List.map_append] at this
set_option maxHeartbeats 1000000 in
theorem ifIs_spec (l : List (List Int)) (hl : l.length ≤ 1000000) (g : FuncId) (ds : List DV) (hen : Enters Tryz.prog g) (p : List Int → Bool) (hp : ∀ t, t ∈ l → ASpec Tryz.prog g (.d (vI t) :: ds.map .d) [] (Pure1 (aT (p t)))) : ASpec Tryz.prog 204 [.d (vIs l), .clo g (ds.map .d)] [] (Pure1 (aI (findI p l))) := by
 refine ASpec.of Tryz.func204 rfl rfl fun C hC => ?_
 refine AC.seq (AC.region ?_);refine za ?_;refine AL.nil (th_n (AC.seq (AC.seq (AC.region ?_))));refine zm ?_;refine kH ?_;refine zm ?_;refine AL.nil (th_n (AC.block ?_));refine AC.loop (ι := Nat) (fun k => ⟨19, 0, [(0, .d (vIs l)), (1, .clo g (ds.map .d)), (6, .d (vIs l)), (7, aI l.length), (8, aI k)], []⟩) (fun k => k ≤ l.length ∧ ∀ j (hj : j < l.length), j < k → p l[j] = false) (fun k => l.length - k) (0) ?_ (⟨Nat.zero_le _, fun j _ hj => by omega⟩) ?_
 ·refine Weak.ren _ [] hC rfl ⟨.same, ⟨_, rfl, leadsL_data _ ds⟩, ?_⟩ trivial rfl rfl rfl; repeat (first | exact True.intro | refine And.intro ?_ ?_ | exact DLead.same)
 intro k ⟨hk, hall⟩;refine AC.seq (AC.region ?_);refine zc ?_;refine AL.nil (th_n (AC.seq ?_));refine AC.condD rfl (fun h0 => ?_) (fun h0 => ?_)
 ·refine AC.skip (th_n (AC.seq (AC.block (AC.seq ?_))));have hk1 : k < l.length := by omega
  have hget := isL_get hk1;refine AC.region ?_;refine zm ?_;refine za ?_;refine AL.nil (th_n (AC.seq (AC.region ?_)));refine AL.p (by exact mv6 rfl) rfl ?_;refine zm ?_;refine zm ?_;refine AL.p (by exact g_ia_view rfl rfl rfl rfl rfl (by rfl) (by assumption)) rfl ?_;refine zr ?_;refine AL.q (by exact h_pure hen rfl rfl (by exact ⟨_, _, rfl, .same, leadsL_data _ ds⟩) (hp l[k] (List.getElem_mem hk1)) rfl) rfl ?_;refine AL.nil (th_n ?_);refine AC.condB rfl (fun h1 => ?_) (fun h1 => ?_)
  ·refine AC.seq (AC.region ?_);refine zm ?_;refine za ?_;refine AL.nil (th_n (AC.ret (ib_r (th_r (th_r (ib_r (th_r (bq_r ?_))))))));exact ret1 rfl (by rw [findI_at hk1 h1 (fun j hj => hall j (by omega) hj)])
  refine AC.skip (ib_n (th_n (AC.region ?_)));refine zA ?_;refine zm ?_;refine AL.nil (th_n ?_);exact ⟨k + 1, ⟨by omega, fun j hj hj2 => by rcases Nat.lt_succ_iff_lt_or_eq.1 hj2 with h | rfl; exact hall j hj h; exact h1⟩, by omega, Weak.ren _ [] hC rfl ⟨.same, ⟨_, rfl, leadsL_data _ ds⟩, by repeat (first | exact True.intro | refine And.intro ?_ ?_ | exact DLead.same)⟩ trivial rfl rfl rfl⟩
 refine AC.exit (th_e (th_e (ib_y (th_n (AC.seq (AC.region ?_))))));refine za ?_;refine AL.nil (th_n (AC.ret (bq_r ?_)));exact ret1 rfl (by rw [findI_none (fun j hj => hall j hj (by omega))])
theorem en_ifIs : Enters Tryz.prog 204 := enters_of Tryz.func204 rfl rfl
set_option maxHeartbeats 4000000 in
theorem delIs_spec (l : List (List Int)) (hl : l.length ≤ 1000000) (g : FuncId) (ds : List DV) (hen : Enters Tryz.prog g) (p : List Int → Bool) (hp : ∀ t, t ∈ l → ASpec Tryz.prog g (.d (vI t) :: ds.map .d) [] (Pure1 (aT (p t)))) :
  ASpec Tryz.prog 161 [.own 0 l.length, .clo g (ds.map .d)] [(0, .arr 30 1 (isL l))] (Fun1 (.own 0 (l.filter fun x => !p x).length) [(0, .arr 30 1 (isL (l.filter fun x => !p x)))]) := by
 have hIf := ifIs_spec l hl g ds hen p hp;have hor := findI_or p l;obtain ⟨F, hF⟩ := eqx (findI p l);rw [← hF] at hIf hor;have hFb : -1 ≤ F ∧ F ≤ 1000000 := by rcases hor with ⟨e, _⟩ | ⟨k, hk, e, _⟩ <;> omega
 clear hF;refine ASpec.of Tryz.func161 rfl rfl fun C hC => ?_
 refine AC.seq (AC.region ?_);refine za ?_;refine AL.nil (th_n (AC.seq (AC.region ?_)));refine kB ?_;refine AL.p (by exact mv6 rfl) rfl ?_;refine AL.q (by exact h_borrow [0] en_ifIs rfl rfl hIf (.cons (.of (.own (id := 0) rfl rfl (Nat.le_of_eq (isL_len _).symm) (List.take_of_length_le (Nat.le_of_eq (isL_len _))))) (.cons .clo .nil)) rfl) rfl ?_;refine za ?_;refine AL.nil (th_n (AC.seq (AC.seq (AC.region ?_))));refine zm ?_;refine zc ?_;refine AL.nil (th_n ?_);refine AC.condD rfl (fun h0 => ?_) (fun h0 => ?_)
 ·refine AC.seq (AC.region ?_);refine kB ?_;refine AL.p (by exact as2 rfl) rfl ?_;refine AL.nil (th_n (AC.ret (th_r (bq_r ?_))));have e := filter_no (hor.elim (fun h => h.2) (fun ⟨k, _, h, _⟩ => absurd h (by omega)));exact retN [] rfl (by rw [e]; repeat (first | exact rfl | refine ⟨_, rfl, ?_⟩)) (by rw [e]; repeat (first | exact True.intro | refine And.intro ?_ ?_ | exact rfl | refine ⟨_, _, rfl, rfl, ?_⟩)) rfl rfl
 refine AC.skip (th_n (AC.seq (AC.seq ?_)));obtain ⟨k0, hk0, rfl, hpk, hbef⟩ := hor.resolve_left fun h => h0 h.1
 have hI0 : DelI p l k0 (k0 + 1) l := ⟨rfl, Nat.lt_succ_self _, hk0, by rw [filt_take hk0, if_pos hpk, List.append_nil]; exact (List.filter_eq_self.2 fun x hx => by obtain ⟨j, hj, rfl⟩ := List.mem_take_iff_getElem.1 hx; rw [hbef j (by omega) (by omega)]; rfl).symm, rfl⟩;refine AC.region ?_;refine zm ?_;refine zA ?_;refine za ?_;refine AL.nil (th_n (AC.block ?_));refine AC.loop (ι := Nat × Nat × List (List Int)) (fun x => ⟨42, 300, [(0, .own 0 l.length), (1, .clo g (ds.map .d)), (5, aI x.1), (6, aI x.2.1)], [(0, some (.arr 30 1 (isL x.2.2)))]⟩) (fun x => DelI p l x.1 x.2.1 x.2.2) (fun x => l.length - x.2.1) ((k0, k0 + 1, l)) ?_ (hI0) ?_
 ·exact Weak.ren _ [] hC rfl ⟨⟨_, rfl, rfl⟩, ⟨_, rfl, leadsL_data _ ds⟩, by repeat (first | exact True.intro | refine And.intro ?_ ?_ | exact DLead.same)⟩ (by repeat (first | exact True.intro | refine And.intro ?_ ?_ | exact rfl | refine ⟨_, _, rfl, rfl, ?_⟩)) rfl rfl rfl
 rintro ⟨i, j, e⟩ hI;dsimp only at hI ⊢;have hlt := hI.lt;have hle := hI.le;have hel := hI.len;refine AC.seq (AC.seq (AC.region ?_));refine zm ?_;refine kB ?_;refine AL.p (by exact g_len_own (sz := 1) (els := []) (e' := 0) rfl rfl (by simp only [maxLen]; omega)) rfl ?_;refine zc ?_;refine AL.nil (th_n ?_);refine AC.condD rfl (fun h1 => ?_) (fun h1 => ?_)
 ·refine AC.skip (th_n (AC.seq (AC.block (AC.seq ?_))));have hj1 : j < l.length := by omega
  have hrow : (isL e)[j]? = some [vI l[j]] := by rw [List.getElem?_map, hI.get hj1]; rfl
  obtain ⟨y, hrowi⟩ : ∃ y, (isL e)[i]? = some [y] := ⟨_, isL_get (by omega)⟩;have hG := hp l[j] (List.getElem_mem hj1);have hsk := hI.skip hj1;have hmv := hI.move hj1;obtain ⟨x, hx⟩ := eqx (l[j]);rw [← hx] at hrow hG hsk hmv;obtain ⟨b, hb⟩ := eqx (p x);rw [← hb] at hG hsk hmv;have hset : isL (e.set i x) = (isL e).set i [vI x] := by unfold isL; rw [List.map_set]
  refine AC.region ?_;refine kB ?_;refine zm ?_;refine kO j l.length hj1 ?_;refine AL.p (by exact g_load_arr1 rfl rfl rfl rfl (by rw [Nat.mul_one]; exact hrow)) rfl ?_;refine za ?_;refine AL.nil (th_n (AC.seq (AC.region ?_)));refine AL.p (by exact mv6 rfl) rfl ?_;refine zm ?_;refine AL.q (by exact h_pure hen rfl rfl (by exact ⟨_, _, rfl, .same, leadsL_data _ ds⟩) hG rfl) rfl ?_;refine kC ?_;refine AL.nil (th_n ?_);refine AC.condB rfl (fun h2 => ?_) (fun h2 => ?_)
  ·refine AC.seq (AC.region ?_);refine kB ?_;refine zm ?_;refine zm ?_;refine AL.p (by exact g_ia_own (i := i) (l := l.length) rfl rfl rfl rfl rfl rfl (by omega) rfl) rfl ?_;refine AL.q (by exact h_store_arr (i := i) (j := 0) (d := vI x) rfl rfl rfl rfl .same rfl hrowi (by decide)) rfl ?_;refine AL.nil (th_n (AC.region ?_));refine zm ?_;refine zA ?_;refine za ?_;refine AL.nil (ib_n (th_n (AC.region ?_)));refine zm ?_;refine zA ?_;refine za ?_;refine AL.nil (th_n ?_)
   (have e2 := hmv (by simpa using ‹(!b) = true›); exact ⟨(i + 1, j + 1, e.set i x), e2, by dsimp only; omega, Weak.ren _ [] hC rfl ⟨⟨_, rfl, rfl⟩, ⟨_, rfl, leadsL_data _ ds⟩, by repeat (first | exact True.intro | refine And.intro ?_ ?_ | exact DLead.same)⟩ (by rw [hset]; repeat (first | exact True.intro | refine And.intro ?_ ?_ | exact rfl | refine ⟨_, _, rfl, rfl, ?_⟩)) rfl rfl rfl⟩)
  refine AC.skip (ib_n (th_n (AC.region ?_)));refine zm ?_;refine zA ?_;refine za ?_;refine AL.nil (th_n ?_)
  (have e2 := hsk (by simpa using ‹(!b) = false›); exact ⟨(i, j + 1, e), e2, by dsimp only; omega, Weak.ren _ [] hC rfl ⟨⟨_, rfl, rfl⟩, ⟨_, rfl, leadsL_data _ ds⟩, by repeat (first | exact True.intro | refine And.intro ?_ ?_ | exact DLead.same)⟩ (by repeat (first | exact True.intro | refine And.intro ?_ ?_ | exact rfl | refine ⟨_, _, rfl, rfl, ?_⟩)) rfl rfl rfl⟩)
 refine AC.exit (th_e (th_e (ib_y (th_n (AC.seq ?_)))));have hjj : j = l.length := by omega
 subst hjj;have hkept := hI.kept;rw [List.take_length] at hkept;have hfl : (l.filter fun x => !p x).length = i := by rw [← hkept, List.length_take]; omega
 have hst : (isL e).take i = isL (l.filter fun x => !p x) := by rw [← hkept]; unfold isL; rw [List.map_take]
 refine AC.region ?_;refine kB ?_;refine zm ?_;refine AL.p (by exact g_slice_part (els := isL e) (e' := 30) (sz := 1) (l := i) (h := l.length) rfl rfl rfl rfl rfl (.some rfl rfl) .none (by omega) (by rw [isL_len]; omega) rfl rfl) rfl ?_;refine AL.q (by exact h_clear (i := i) (q := l.length - i) (els := isL e) (e' := 30) (sz := 1) rfl rfl rfl rfl rfl rfl (by omega) (by rw [isL_len]; omega)) rfl ?_;refine AL.nil (th_n (AC.seq (AC.region ?_)));refine kB ?_;refine zm ?_;refine AL.p (by exact g_slice_own (els := (isL e).take i) (e' := 30) (sz := 1) rfl rfl rfl rfl (.some rfl rfl) (by rw [List.length_take, isL_len]; omega)) rfl ?_;refine AL.p (by exact as2 rfl) rfl ?_;refine AL.nil (th_n (AC.ret (bq_r ?_)));exact retN [] rfl (by rw [hfl]; repeat (first | exact rfl | refine ⟨_, rfl, ?_⟩)) (by rw [← hst]; repeat (first | exact True.intro | refine And.intro ?_ ?_ | exact rfl | refine ⟨_, _, rfl, rfl, ?_⟩)) rfl rfl
theorem en_delIs : Enters Tryz.prog 161 := enters_of Tryz.func161 rfl rfl
def rowP (R : Nat → Nat → Bool) (i : Nat) : Nat → List (List Int)
 | 0 => []
 | k + 1 => rowP R i k ++ (if (decide (i < k) && R i k) = true then [[(i : Int), (k : Int)]] else [])
def allP (R : Nat → Nat → Bool) (n : Nat) : Nat → List (List Int)
 | 0 => []
 | i + 1 => allP R n i ++ rowP R i n
theorem rowP_start (R : Nat → Nat → Bool) (i : Nat) : ∀ k, k ≤ i + 1 → rowP R i k = []
 | 0, _ => rfl
 | k + 1, h => by rw [rowP, rowP_start R i k (by omega), decide_eq_false (by omega)]; rfl
theorem rowP_len (R : Nat → Nat → Bool) (i : Nat) : ∀ k, (rowP R i k).length ≤ k
 | 0 => Nat.le_refl _
 | k + 1 => by
  have ih := rowP_len R i k;rw [rowP, List.length_append]
  split
  ·simp only [List.length_cons, List.length_nil]; omega
  simp only [List.length_nil]; omega
theorem allP_len (R : Nat → Nat → Bool) (n m : Nat) (hm : n ≤ m) : ∀ i, (allP R n i).length ≤ m * i
 | 0 => Nat.zero_le _
 | i + 1 => by
  have ih := allP_len R n m hm i;have h := rowP_len R i n;rw [allP, List.length_append, Nat.mul_succ];omega
theorem rowP_mem {R : Nat → Nat → Bool} {i : Nat} {x : List Int} : ∀ {k}, x ∈ rowP R i k → ∃ j, i < j ∧ j < k ∧ R i j = true ∧ x = [(i : Int), (j : Int)]
 | 0, h => by cases h
 | k + 1, h => by
  rw [rowP, List.mem_append] at h;rcases h with h | h
  ·obtain ⟨j, h1, h2, h3⟩ := rowP_mem h; exact ⟨j, h1, by omega, h3⟩
  split at h
  ·rename_i q;rw [Bool.and_eq_true, decide_eq_true_eq] at q;exact ⟨k, q.1, by omega, q.2, List.mem_singleton.1 h⟩
  cases h
theorem allP_mem {R : Nat → Nat → Bool} {n : Nat} {x : List Int} : ∀ {i}, x ∈ allP R n i → ∃ a j, a < i ∧ a < j ∧ j < n ∧ R a j = true ∧ x = [(a : Int), (j : Int)]
 | 0, h => by cases h
 | i + 1, h => by
  rw [allP, List.mem_append] at h;rcases h with h | h
  ·obtain ⟨a, j, h1, h2⟩ := allP_mem h; exact ⟨a, j, by omega, h2⟩
  obtain ⟨j, h1, h2, h3, h4⟩ := rowP_mem h; exact ⟨i, j, by omega, h1, h2, h3, h4⟩
def codeQ (c : SG) (i k : Nat) : Bool := decide (bstr (cAtS c i) = bstr (cAtS c k))
def eqcL (c : SG) : List (List Int) := allP (codeQ c) c.codes.length c.codes.length
theorem wrapS {x : Nat} (h : x ≤ 1000000) : IntKind.i64.wrap ((x : Int) + 1) = ((x + 1 : Nat) : Int) := wrap_i64 (by omega)
set_option maxHeartbeats 8000000 in
theorem equalCodes_spec (c : SG) (hn : c.codes.length ≤ 1000) : ASpec Tryz.prog 162 [sgA c] [] (Fun1 (.own 0 (eqcL c).length) [(0, .arr 30 1 (isL (eqcL c)))]) := by
 have hRs : ∀ i k, rowP (codeQ c) i (k + 1) = rowP (codeQ c) i k ++ (if (decide (i < k) && codeQ c i k) = true then [[(i : Int), (k : Int)]] else []) := fun _ _ => rfl
 have hAs : ∀ i, allP (codeQ c) c.codes.length (i + 1) = allP (codeQ c) c.codes.length i ++ rowP (codeQ c) i c.codes.length := fun _ => rfl
 have hR0 := fun i => rowP_start (codeQ c) i (i + 1) (Nat.le_refl _)
 have hRl := rowP_len (codeQ c);have hAl := allP_len (codeQ c) c.codes.length 1000 hn;have hQ : ∀ i k, codeQ c i k = decide (bstr (cAtS c i) = bstr (cAtS c k)) := fun _ _ => rfl
 have hE : eqcL c = allP (codeQ c) c.codes.length c.codes.length := rfl;rw [hE];clear hE;obtain ⟨A, hA⟩ : ∃ A : Nat → List (List Int), A = allP (codeQ c) c.codes.length := ⟨_, rfl⟩;rw [← hA] at hAs hAl ⊢;have hA0 : A 0 = [] := by rw [hA]; rfl
 obtain ⟨B, hB⟩ : ∃ B : Nat → Nat → List (List Int), B = rowP (codeQ c) := ⟨_, rfl⟩;rw [← hB] at hRs hAs hR0 hRl;clear hA hB;refine ASpec.of Tryz.func162 rfl rfl fun C hC => ?_
 refine AC.seq (AC.region ?_);refine kD ?_;refine za ?_;refine AL.nil (th_n (AC.seq (AC.region ?_)));refine AL.q (by exact h_lit rfl rfl rfl rfl rfl rfl rfl rfl) rfl ?_;refine AL.p (by exact as2 rfl) rfl ?_;refine AL.nil (th_n (AC.seq (AC.seq (AC.region ?_))));refine zf ?_;refine zr ?_;refine kI c.codes.length (tsX_len _) ?_;refine zm ?_;refine AL.nil (th_n (AC.block ?_));refine AC.loop (ι := Nat) (fun i => ⟨40, 300, [(1, .d (.ref (sgD c))), (3, .own 100 (A i).length), (9, .d (.view 9 1 (tsX c.codes))), (10, aI c.codes.length), (11, aI i)], [(100, some (.arr 30 1 (isL (A i))))]⟩) (fun i => i ≤ c.codes.length) (fun i => c.codes.length - i) (0) ?_ (Nat.zero_le _) ?_
 ·exact zw [(100, _)] hC (by rw [hA0]; repeat (first | exact True.intro | refine And.intro ?_ ?_ | exact DLead.same | exact rfl | refine ⟨_, rfl, ?_⟩)) (by rw [hA0]; repeat (first | exact True.intro | refine And.intro ?_ ?_ | exact rfl | refine ⟨_, _, rfl, rfl, ?_⟩))
 intro i hi;refine AC.seq (AC.region ?_);refine zc ?_;refine AL.nil (th_n (AC.seq ?_));refine AC.condD rfl (fun h0 => ?_) (fun h0 => ?_)
 ·refine AC.skip (th_n (AC.seq (AC.block (AC.seq ?_))));have hi1 : i < c.codes.length := by omega
  have hget := cAtS_get hi1;have hAi := hAs i;have hAli := hAl i;have hQi := hQ i;have hRsi := hRs i;have hR0i := hR0 i;have hRli := hRl i;obtain ⟨x, hx⟩ := eqx (cAtS c i);rw [← hx] at hget;simp only [← hx] at hQi;obtain ⟨L, hL⟩ := eqx (A i);rw [← hL] at hAi hAli ⊢;clear hL hx;refine AC.region ?_;refine zm ?_;refine AL.p (by exact g_ia_view (i := i) rfl rfl rfl rfl rfl rfl hget) rfl ?_;refine zr ?_;refine za ?_;refine za ?_;refine AL.nil (th_n (AC.seq (AC.region ?_)));refine zm ?_;refine AL.p (by exact g_arith rfl rfl rfl (wrapS (x := i) (by omega))) rfl ?_;refine za ?_;refine AL.nil (th_n (AC.block ?_));refine AC.loop (ι := Nat) (fun k => ⟨40, 600, [(1, .d (.ref (sgD c))), (3, .own 100 (L ++ B i k).length), (4, aI i), (5, aS (bstr x)), (6, aI k), (9, .d (.view 9 1 (tsX c.codes))), (10, aI c.codes.length), (11, aI i)], [(100, some (.arr 30 1 (isL (L ++ B i k))))]⟩) (fun k => i < k ∧ k ≤ c.codes.length) (fun k => c.codes.length - k) (i + 1) ?_ (⟨Nat.lt_succ_self _, hi1⟩) ?_
  ·exact zw [(100, 100)] hC (by rw [hR0i, List.append_nil]; repeat (first | exact True.intro | refine And.intro ?_ ?_ | exact DLead.same | exact rfl | refine ⟨_, rfl, ?_⟩)) (by rw [hR0i, List.append_nil]; repeat (first | exact True.intro | refine And.intro ?_ ?_ | exact rfl | refine ⟨_, _, rfl, rfl, ?_⟩))
  rintro k ⟨hk0, hk⟩;refine AC.seq (AC.seq (AC.region ?_));refine zm ?_;refine zf ?_;refine zr ?_;refine kI c.codes.length (tsX_len _) ?_;refine zc ?_;refine AL.nil (th_n ?_);refine AC.condD rfl (fun h1 => ?_) (fun h1 => ?_)
  ·refine AC.skip (th_n (AC.seq (AC.block (AC.seq ?_))));have hk1 : k < c.codes.length := by omega
   have hgk := cAtS_get hk1;have hqk := hQi k;have hBk := hRsi k;have hBl := hRli k;rw [decide_eq_true hk0, Bool.true_and] at hBk;obtain ⟨y, hy⟩ := eqx (cAtS c k);rw [← hy] at hgk hqk;obtain ⟨Q, hQe⟩ := eqx (codeQ c i k);rw [← hQe] at hqk hBk;obtain ⟨M, hM⟩ := eqx (L ++ B i k);have hMl : M.length ≤ 10000000 := by rw [hM, List.length_append]; omega
   have hMs : M ++ (if Q = true then [[(i : Int), (k : Int)]] else []) = L ++ B i (k + 1) := by rw [hM, hBk, List.append_assoc]
   rw [← hM];clear hy hQe hM hBk;refine AC.region ?_;refine zf ?_;refine zr ?_;refine zm ?_;refine AL.p (by exact g_ia_view (i := k) rfl rfl rfl rfl rfl rfl hgk) rfl ?_;refine zr ?_;refine zm ?_;refine AL.p (by exact g_scmp rfl rfl rfl) rfl ?_;refine AL.nil (th_n ?_);refine AC.condD rfl (fun h2 => ?_) (fun h2 => ?_)
   ·refine AC.region ?_;refine kB ?_;refine zm ?_;refine zm ?_;refine AL.q (by exact h_litF rfl rfl rfl rfl rfl rfl rfl rfl) rfl ?_;refine AL.q (by exact h_litF rfl rfl rfl rfl rfl rfl rfl rfl) rfl ?_;refine AL.q (by exact h_appendIs M [[(i : Int), (k : Int)]] (.own rfl rfl (isL_len _).symm) (.view rfl) (by rw [List.length_append]; simp only [List.length_cons, List.length_nil]; omega) (by simp)) rfl ?_;refine AL.p (by exact as2 rfl) rfl ?_;refine AL.nil (ib_n (th_n (AC.region ?_)));refine zm ?_;refine AL.p (by exact g_arith rfl rfl rfl (wrapS (x := k) (by omega))) rfl ?_;refine za ?_;refine AL.nil (th_n ?_)
    (have q := ‹bstr y = bstr x›; have e : Q = true := (by rw [hqk]; exact decide_eq_true q.symm); rw [if_pos e] at hMs; exact ⟨k + 1, ⟨by omega, by omega⟩, by omega, zw [(100, _)] hC (by rw [← hMs]; repeat (first | exact True.intro | refine And.intro ?_ ?_ | exact DLead.same | exact rfl | refine ⟨_, rfl, ?_⟩)) (by rw [← hMs]; repeat (first | exact True.intro | refine And.intro ?_ ?_ | exact rfl | refine ⟨_, _, rfl, rfl, ?_⟩))⟩)
   refine AC.skip (ib_n (th_n (AC.region ?_)));refine zm ?_;refine AL.p (by exact g_arith rfl rfl rfl (wrapS (x := k) (by omega))) rfl ?_;refine za ?_;refine AL.nil (th_n ?_)
   (have q := ‹¬ bstr y = bstr x›; have e : Q = false := (by rw [hqk]; exact decide_eq_false (fun h => q h.symm)); rw [e, if_neg (by decide), List.append_nil] at hMs; exact ⟨k + 1, ⟨by omega, by omega⟩, by omega, zw [(100, 100)] hC (by rw [← hMs]; repeat (first | exact True.intro | refine And.intro ?_ ?_ | exact DLead.same | exact rfl | refine ⟨_, rfl, ?_⟩)) (by rw [← hMs]; repeat (first | exact True.intro | refine And.intro ?_ ?_ | exact rfl | refine ⟨_, _, rfl, rfl, ?_⟩))⟩)
  refine AC.exit (th_e (th_e (ib_y (ib_n (th_n (AC.region ?_))))));refine zA ?_;refine zm ?_;refine AL.nil (th_n ?_);have hkk : k = c.codes.length := by omega
  exact ⟨i + 1, by omega, by omega, zw [(100, 100)] hC (by rw [hAi, hkk]; repeat (first | exact True.intro | refine And.intro ?_ ?_ | exact DLead.same | exact rfl | refine ⟨_, rfl, ?_⟩)) (by rw [hAi, hkk]; repeat (first | exact True.intro | refine And.intro ?_ ?_ | exact rfl | refine ⟨_, _, rfl, rfl, ?_⟩))⟩
 refine AC.exit (th_e (th_e (ib_y (th_n (AC.seq ?_)))));have hii : i = c.codes.length := by omega
 rw [hii];refine AC.region ?_;refine kB ?_;refine AL.p (by exact as2 rfl) rfl ?_;refine AL.nil (th_n (AC.ret (bq_r ?_)));exact retN [(0, 100)] rfl (by repeat (first | exact rfl | refine ⟨_, rfl, ?_⟩)) (by repeat (first | exact True.intro | refine And.intro ?_ ?_ | exact rfl | refine ⟨_, _, rfl, rfl, ?_⟩)) rfl rfl
theorem en_equalCodes : Enters Tryz.prog 162 := enters_of Tryz.func162 rfl rfl
def cnfB (c : SG) (x : List Int) : Bool := (ownL c.sigs c.sigs.length).any fun t => !(excB c (x.getD 0 0) t == excB c (x.getD 1 0) t)
def cnfL (c : SG) : List (List Int) := (eqcL c).filter (cnfB c)
theorem nn_beq (a b : Bool) : (!((!a) == (!b))) = !(a == b) := by cases a <;> cases b <;> rfl
set_option maxHeartbeats 4000000 in
theorem conflicts11_spec (c : SG) (n i k g : Nat) (hi : i < n) (hk : k < n) (hg : g < 8) (hlt : ∀ s, mskN c.arcs s < 65536) : ASpec Tryz.prog 165 [aI g, .d (.ref [vI (mskF c.arcs n)]), .d (.ref [vI [(i : Int), (k : Int)]])] [] (Pure1 (aT (!(excB c (i : Int) (g : Int) == excB c (k : Int) (g : Int))))) := by
 have hmi := mskF_get (L := c.arcs) hi;have hmk := mskF_get (L := c.arcs) hk;have hd1 := mask_dec c (i : Int) g;have hd2 := mask_dec c (k : Int) g;have hl1 := hlt (i : Int);have hl2 := hlt (k : Int);have hp0 : (ints [(i : Int), (k : Int)])[0]? = some [dI (i : Int)] := rfl;have hp1 : (ints [(i : Int), (k : Int)])[1]? = some [dI (k : Int)] := rfl;obtain ⟨M1, hM1⟩ := eqx (mskN c.arcs (i : Int));obtain ⟨M2, hM2⟩ := eqx (mskN c.arcs (k : Int));rw [← hM1] at hmi hd1 hl1;rw [← hM2] at hmk hd2 hl2;obtain ⟨X1, hX1⟩ := eqx (excB c (i : Int) (g : Int));obtain ⟨X2, hX2⟩ := eqx (excB c (k : Int) (g : Int));rw [← hX1] at hd1 ⊢;rw [← hX2] at hd2 ⊢;have hs1 := shr_le M1 (2 * g);have hs2 := shr_le M2 (2 * g);clear hM1 hM2 hX1 hX2;refine ASpec.of Tryz.func165 rfl rfl fun C hC => ?_
 refine AC.seq (AC.region ?_);refine za ?_;refine AL.nil (th_n (AC.seq ?_));refine AC.drawn' mixed_ok [[], [], [1], [1,2], [0,1,2,3], [0,1,2,3,4], [], [6], [0,1,2,3,4,5,6,7], [0,1,2,3,4,5,6,7,8], [0,1,2,3,4,5,6,7,8,9], [], [], [12], [12,13], [11,12,13,14], [11,12,13,14,15], [], [17], [11,12,13,14,15,16,17,18], [11,12,13,14,15,16,17,18,19], [11,12,13,14,15,16,17,18,19,20], [0,1,2,3,4,5,6,7,8,9,10,11,12,13,14,15,16,17,18,19,20,21], [0,1,2,3,4,5,6,7,8,9,10,11,12,13,14,15,16,17,18,19,20,21,22]] (by decide) ?_;refine zd 0 [] 24 (by exact g_load_ref rfl rfl rfl) ?_;refine zd 1 [] 24 (by exact g_load_ref rfl rfl rfl) ?_;refine zd 2 [1] 24 (by exact g_ia_view (i := 0) rfl rfl rfl rfl rfl rfl hp0) ?_;refine zd 3 [1,2] 24 (by exact g_load_ref rfl rfl rfl) ?_;refine zd 4 [0,1,2,3] 24 (by exact g_ia_view (i := i) rfl rfl rfl rfl rfl rfl hmi) ?_;refine zd 5 [0,1,2,3,4] 24 (by exact g_load_ref rfl rfl rfl) ?_;refine zd 6 [] 24 (by exact mv1 rfl) ?_;refine zd 7 [6] 24 (by exact g_arith rfl rfl rfl (by exact wrap_i64 (by omega))) ?_;refine zd 8 [0,1,2,3,4,5,6,7] 24 (by exact g_shr (c := ((M1 >>> (2 * g) : Nat) : Int)) rfl rfl (by omega) (by rw [two_nat]; exact shr_nat (by omega))) ?_;refine zd 9 (List.range 9) 24 (by exact g_bits (c := ((M1 >>> (2 * g) &&& 3 : Nat) : Int)) rfl rfl (bits_and (b := 3) (by omega) (by decide))) ?_;refine zd 10 (List.range 10) 24 (by exact g_cmp (r := !X1) rfl rfl (by show some (decide _) = _; rw [hd1])) ?_;refine zd 11 [] 24 (by exact g_load_ref rfl rfl rfl) ?_;refine zd 12 [] 24 (by exact g_load_ref rfl rfl rfl) ?_;refine zd 13 [12] 24 (by exact g_ia_view (i := 1) rfl rfl rfl rfl rfl rfl hp1) ?_;refine zd 14 [12,13] 24 (by exact g_load_ref rfl rfl rfl) ?_;refine zd 15 [11,12,13,14] 24 (by exact g_ia_view (i := k) rfl rfl rfl rfl rfl rfl hmk) ?_;refine zd 16 [11,12,13,14,15] 24 (by exact g_load_ref rfl rfl rfl) ?_;refine zd 17 [] 24 (by exact mv1 rfl) ?_;refine zd 18 [17] 24 (by exact g_arith rfl rfl rfl (by exact wrap_i64 (by omega))) ?_;refine zd 19 [11,12,13,14,15,16,17,18] 24 (by exact g_shr (c := ((M2 >>> (2 * g) : Nat) : Int)) rfl rfl (by omega) (by rw [two_nat]; exact shr_nat (by omega))) ?_;refine zd 20 [11,12,13,14,15,16,17,18,19] 24 (by exact g_bits (c := ((M2 >>> (2 * g) &&& 3 : Nat) : Int)) rfl rfl (bits_and (b := 3) (by omega) (by decide))) ?_;refine zd 21 [11,12,13,14,15,16,17,18,19,20] 24 (by exact g_cmp (r := !X2) rfl rfl (by show some (decide _) = _; rw [hd2])) ?_;refine zd 22 (List.range 22) 24 (by exact g_neB rfl rfl rfl) ?_;refine zd 23 (List.range 23) 24 (by exact as1 rfl) ?_;refine zj 24 ?_;refine th_n (AC.ret (bq_r ?_));exact ret1 rfl (by rw [nn_beq])
theorem en_conflicts11 : Enters Tryz.prog 165 := enters_of Tryz.func165 rfl rfl
theorem ownL_mem {s : List Sig} {n : Nat} {t : Int} (h : t ∈ ownL s n) : ∃ g : Nat, t = (g : Int) ∧ g < n := by
 unfold ownL nI at h;obtain ⟨g, hg, rfl⟩ := List.mem_map.1 h;rw [List.mem_filter] at hg;exact ⟨g, rfl, List.mem_range.1 hg.1⟩
set_option maxHeartbeats 2000000 in
theorem conflicts1_spec (c : SG) (n i k : Nat) (hi : i < n) (hk : k < n) (h8 : c.sigs.length ≤ 8) (hlt : ∀ s, mskN c.arcs s < 65536) : ASpec Tryz.prog 163 [.d (vI [(i : Int), (k : Int)]), .d (.ref [vI (ownL c.sigs c.sigs.length)]), .d (.ref [vI (mskF c.arcs n)])] [] (Pure1 (aT (!cnfB c [(i : Int), (k : Int)]))) := by
 have hl := ownL_len c.sigs c.sigs.length;have hCi := containsInt_spec (ownL c.sigs c.sigs.length) (by omega) 165 [.ref [vI (mskF c.arcs n)], .ref [vI [(i : Int), (k : Int)]]] en_conflicts11 (fun t => !(excB c (i : Int) t == excB c (k : Int) t)) (fun t ht => by obtain ⟨g, rfl, hg⟩ := ownL_mem ht; exact conflicts11_spec c n i k g hi hk (by omega) hlt);have hR : cnfB c [(i : Int), (k : Int)] = (ownL c.sigs c.sigs.length).any fun t => !(excB c (i : Int) t == excB c (k : Int) t) := rfl
 rw [← hR] at hCi;refine ASpec.of Tryz.func163 rfl rfl fun C hC => ?_
 refine AC.seq (AC.region ?_);refine kD ?_;refine za ?_;refine AL.nil (th_n (AC.seq (AC.region ?_)));refine zr ?_;refine AL.p (by exact g_fn rfl) rfl ?_;refine AL.q (by exact h_pure en_containsInt rfl rfl (by exact ⟨_, _, rfl, .same, _, _, rfl, ⟨_, rfl, leadsL_data _ [.ref [vI (mskF c.arcs n)], .ref [vI [(i : Int), (k : Int)]]]⟩, rfl⟩) hCi rfl) rfl ?_;refine kC ?_;refine za ?_;refine AL.nil (th_n (AC.ret (bq_r ?_)));exact ret1 rfl rfl
theorem en_conflicts1 : Enters Tryz.prog 163 := enters_of Tryz.func163 rfl rfl
theorem eqcL_mem {c : SG} {x : List Int} (h : x ∈ eqcL c) : ∃ i k : Nat, (i < k ∧ k < c.codes.length) ∧ bstr (cAtS c i) = bstr (cAtS c k) ∧ x = [(i : Int), (k : Int)] := by
 obtain ⟨i, k, _, h1, h2, h3, rfl⟩ := allP_mem h;exact ⟨i, k, ⟨h1, h2⟩, of_decide_eq_true h3, rfl⟩
theorem eqcL_len {c : SG} (h : c.codes.length ≤ 302) : (eqcL c).length ≤ 1000000 := by
 have := allP_len (codeQ c) c.codes.length 302 h c.codes.length;unfold eqcL;omega
set_option maxHeartbeats 8000000 in
theorem conflicts_spec (c : SG) (hv : validC c = true) : ASpec Tryz.prog 113 [sgA c] [] (Pure1 (.d (vIs (cnfL c)))) := by
 obtain ⟨hn, hal, hin, _⟩ := validC_at hv;obtain ⟨h8, _⟩ := sig_names hv;have hsg := fun a (ha : a ∈ c.arcs) => arc_sig hv ha
 have hM := labMasks_spec c (by omega) (by omega) hin (fun a ha => (hsg a ha).2.1);have hO := outputs_spec c (by omega);have hlt := mskN_lt (fun a ha => (hsg a ha).2.1);have hE := equalCodes_spec c (by omega);have hD := delIs_spec (eqcL c) (eqcL_len (by omega)) 163 [.ref [vI (ownL c.sigs c.sigs.length)], .ref [vI (mskF c.arcs c.codes.length)]] en_conflicts1 (fun x => !cnfB c x) (fun x hx => by obtain ⟨i, k, ⟨h1, h2⟩, _, rfl⟩ := eqcL_mem hx; exact conflicts1_spec c _ i k (by omega) h2 h8.2 hlt);simp only [Bool.not_not] at hD;have hR : cnfL c = (eqcL c).filter fun x => cnfB c x := rfl
 rw [← hR] at hD;obtain ⟨K, hK⟩ := eqx (cnfL c);rw [← hK] at hD ⊢;obtain ⟨L, hL⟩ := eqx (eqcL c);rw [← hL] at hD hE;obtain ⟨M, hMM⟩ := eqx (mskF c.arcs c.codes.length);rw [← hMM] at hD hM;obtain ⟨O, hOO⟩ := eqx (ownL c.sigs c.sigs.length);rw [← hOO] at hD hO;clear hR hK hL hMM hOO;refine ASpec.of Tryz.func113 rfl rfl fun C hC => ?_
 refine AC.seq (AC.region ?_);refine kD ?_;refine za ?_;refine AL.nil (th_n (AC.seq ?_));refine AC.drawn' mixed_ok [[], [0], [], [0,1,2], [], [], [0,1,2,3,4,5], [0,1,2,3,4,5,6]] (by decide) ?_;refine zd 0 [] 8 (by exact g_load_refN rfl rfl rfl rfl) ?_;refine zh 1 [0] 8 (by exact h_pure en_labMasks rfl rfl (by repeat (first | exact rfl | exact DLead.same | refine ⟨_, _, rfl, ?_, ?_⟩ | refine ⟨_, rfl, ?_⟩)) hM rfl) ?_;refine zd 2 [] 8 (by exact g_load_refN rfl rfl rfl rfl) ?_;refine zh 3 [0,1,2] 8 (by exact h_pure en_outputs rfl rfl (by repeat (first | exact rfl | exact DLead.same | refine ⟨_, _, rfl, ?_, ?_⟩ | refine ⟨_, rfl, ?_⟩)) hO rfl) ?_;refine zh 4 [] 8 (by exact h_alloc rfl) ?_;refine zh 5 [] 8 (by exact h_alloc rfl) ?_;refine zh 6 [0,1,2,3,4,5] 8 (by exact h_store rfl rfl rfl rfl rfl rfl) ?_;refine zh 7 [0,1,2,3,4,5,6] 8 (by exact h_store rfl rfl rfl rfl rfl rfl) ?_;refine zj 8 ?_;refine th_n (AC.seq ?_);refine AC.weak (t := ⟨13, 300, [(1, .d (.ref (sgD c))), (3, .ptr 200 0), (4, .ptr 201 0)], [(200, some (.cells 30 [.d (vI M)])), (201, some (.cells 30 [.d (vI O)]))]⟩) (zw [(200, _), (201, _)] hC) ?_;refine AC.weak (Weak.freezeRef 3 (ds := [vI M]) rfl rfl) ?_;refine AC.weak (Weak.freezeRef 4 (ds := [vI O]) rfl rfl) ?_;refine AC.weak (t := ⟨13, 400, [(1, .d (.ref (sgD c))), (3, .d (.ref [vI M])), (4, .d (.ref [vI O]))], []⟩) (Weak.ren _ [] hC rfl (by repeat (first | exact True.intro | refine And.intro ?_ ?_ | exact DLead.same)) (by repeat (exact True.intro)) rfl rfl rfl) ?_;refine AC.region ?_;refine kG ?_;refine kU [] en_equalCodes hE ?_;refine AL.weak (t := ⟨13, 500, [(3, .d (.ref [vI M])), (4, .d (.ref [vI O])), (10, .own 100 L.length)], [(100, some (.arr 30 1 (isL L)))]⟩) (zw [(100, _)] hC) ?_;refine AL.p (by exact g_fn rfl) rfl ?_;refine AL.q (by exact h_fun (cs := [100]) en_delIs rfl rfl (by exact ⟨_, _, rfl, ⟨_, rfl, rfl⟩, _, _, rfl, ⟨_, rfl, leadsL_data _ [.ref [vI O], .ref [vI M]]⟩, rfl⟩) (by repeat (first | exact True.intro | refine And.intro ?_ ?_ | exact rfl | refine ⟨_, _, rfl, rfl, ?_⟩)) hD rfl rfl rfl rfl) rfl ?_;refine AL.p (by exact as2 rfl) rfl ?_;refine AL.nil (th_n ?_);refine AC.weak (Weak.freeze (i := 2) rfl rfl (Nat.le_of_eq (isL_len _).symm) (List.take_of_length_le (Nat.le_of_eq (isL_len _)))) ?_;refine AC.ret (bq_r ?_);exact ret1 rfl rfl
theorem en_conflicts : Enters Tryz.prog 113 := enters_of Tryz.func113 rfl rfl
theorem filter_snoc {α : Type} (p : α → Bool) {l : List α} {j : Nat} (hj : j < l.length) : (l.take (j + 1)).filter p = (l.take j).filter p ++ (if p l[j] = true then [l[j]] else []) := by
 rw [List.take_add_one, List.getElem?_eq_getElem hj, List.filter_append];congr 1
 by_cases h : p l[j] = true <;> simp [h]
def isLb (x : Lab) (a : Ar) : Bool := decide (a.sig = x.sig) && decide (a.up = x.up)
def blkS (c : SG) (x : Lab) (v : Nat) : Prop := ∃ a, a ∈ c.arcs ∧ isLb x a = true ∧ a.to_ = (v : Int)
noncomputable def blkL (c : SG) (set reset : Lab) : List Int := reaL (ArR c.arcs fun a => !isLb reset a) (blkS c set) c.codes.length
def sdB (l : List Int) (v : Int) : Bool := decide (v ∈ l)
def q2B (c : SG) (l : List Int) (a : Ar) : Bool := !ownX c.sigs a.sig && (sdB l a.from_ == sdB l a.to_)
where ownX (s : List Sig) (g : Int) : Bool := !decide (g < 0) && ownS s g
def sgS (c : SG) (l : List Int) (v : Nat) : Prop := ∃ a, a ∈ c.arcs ∧ ¬ sdB l a.from_ = sdB l a.to_ ∧ a.to_ = (v : Int)
def sgB (s m : Bool) : UInt8 := if m then (if s then 43 else 45) else (if s then 49 else 48)
def sgW (l : List Int) (W : List Bool) : List UInt8 := (List.range W.length).map fun (v : Nat) => sgB (sdB l v) (vW W v)
noncomputable def mkW (c : SG) (l : List Int) : List Bool := (List.range c.codes.length).map (rchB (ArR c.arcs (q2B c l)) (sgS c l))
noncomputable def sgL (c : SG) (l : List Int) : List UInt8 := sgW l (mkW c l)
theorem sgW_len (l : List Int) (W : List Bool) : (sgW l W).length = W.length := by unfold sgW; simp
theorem sgW_get {l : List Int} {W : List Bool} {v : Nat} (h : v < W.length) : (sgW l W).getD v 0 = sgB (sdB l v) (vW W v) := by
 unfold sgW;rw [List.getD_eq_getElem?_getD, List.getElem?_map, List.getElem?_range h]; rfl
theorem sgW_set {l : List Int} {W : List Bool} {v : Nat} (h : v < W.length) : (sgW l W).set v (if sdB l v then 43 else 45) = sgW l (W.set v true) := by
 refine List.ext_getElem? fun i => ?_
 rcases Nat.lt_or_ge i W.length with hi | hi
 ·have e : ∀ (X : List Bool), X.length = W.length → (sgW l X)[i]? = some (sgB (sdB l i) (vW X i)) := fun X hX => by
   unfold sgW;rw [List.getElem?_map, List.getElem?_range (by omega)]; rfl
  rw [List.getElem?_set, e _ (List.length_set ..), e W rfl, vW_set]
  by_cases q : v = i
  ·subst q;rw [if_pos (show v = v from rfl), if_pos (by rw [sgW_len]; exact h), if_pos (show v = v ∧ v < W.length from ⟨rfl, h⟩)]; rfl
  rw [if_neg q, if_neg (fun g => q g.1.symm)]
 rw [List.getElem?_eq_none (by rw [List.length_set, sgW_len]; exact hi), List.getElem?_eq_none (by rw [sgW_len, List.length_set]; exact hi)]
theorem sgB_ok (s m : Bool) : sgB s m = 48 ∨ sgB s m = 43 ∨ sgB s m = 49 ∨ sgB s m = 45 := by cases s <;> cases m <;> decide
def nxtB (x y : UInt8) : Bool := decide (x = y) || ((decide (x = 48) && decide (y = 43)) || (decide (x = 43) && decide (y = 49)) || (decide (x = 49) && decide (y = 45)) || (decide (x = 45) && decide (y = 48)) || (decide (x = 43) && decide (y = 45)) || (decide (x = 45) && decide (y = 43)))
def parB (c : SG) (w : List UInt8) : Bool := c.arcs.all fun a => nxtB (w.getD a.from_.toNat 0) (w.getD a.to_.toNat 0)
theorem blkL_len (c : SG) (x y : Lab) : (blkL c x y).length ≤ c.codes.length := reaL_len _ _ _
theorem blkL_in {c : SG} {x y : Lab} {t : Int} (h : t ∈ blkL c x y) : 0 ≤ t ∧ t < c.codes.length := by
 obtain ⟨v, rfl, hv, _⟩ := reaL_mem.1 h;omega
theorem blk_law {c : SG} {x y : Lab} (hin : ∀ a, a ∈ c.arcs → ArIn c.codes.length a) {a : Ar} (ha : a ∈ c.arcs) : (isLb x a = true → a.to_ ∈ blkL c x y) ∧ (a.from_ ∈ blkL c x y → isLb y a = false → a.to_ ∈ blkL c x y) := by
 have hI := hin a ha;unfold ArIn at hI;constructor
 ·intro h;exact reaL_mem.2 ⟨a.to_.toNat, by omega, by omega, .base ⟨a, ha, h, by omega⟩⟩
 intro h1 h2;obtain ⟨v, hv, _, hr⟩ := reaL_mem.1 h1;exact reaL_mem.2 ⟨a.to_.toNat, by omega, by omega, .step hr ⟨a, ha, by show (!isLb y a) = true; rw [h2]; rfl, hv, by omega⟩⟩
def actG (c : SG) (k n : Nat) : List Nat := (List.range n).filter fun g => ownS c.sigs (g : Int) && excB c (k : Int) (g : Int)
def encG (l : List Nat) : List UInt8 := l.flatMap fun g => [UInt8.ofNat (48 + g), 44]
theorem encG_inj : ∀ {a b : List Nat}, (∀ g, g ∈ a → g < 10) → (∀ g, g ∈ b → g < 10) → encG a = encG b → a = b
 | [], [], _, _, _ => rfl
 | [], y :: b, _, _, h => by unfold encG at h; simp at h
 | x :: a, [], _, _, h => by unfold encG at h; simp at h
 | x :: a, y :: b, ha, hb, h => by
  unfold encG at h;rw [List.flatMap_cons, List.flatMap_cons] at h;simp only [List.cons_append, List.nil_append, List.cons.injEq, true_and] at h;have hx := ha x (List.mem_cons_self ..);have hy := hb y (List.mem_cons_self ..)
  have e : x = y := by
   have := congrArg UInt8.toNat h.1;rw [UInt8.toNat_ofNat', UInt8.toNat_ofNat'] at this;omega
  rw [e, encG_inj (fun g hg => ha g (List.mem_cons_of_mem _ hg)) (fun g hg => hb g (List.mem_cons_of_mem _ hg)) h.2]
theorem encG_snoc (l : List Nat) (g : Nat) : encG (l ++ [g]) = encG l ++ [UInt8.ofNat (48 + g), 44] := by unfold encG; rw [List.flatMap_append]; rfl
theorem encG_len (l : List Nat) : (encG l).length = 2 * l.length := by
 unfold encG
 induction l with
 | nil => rfl
 | cons x l ih => rw [List.flatMap_cons, List.length_append, ih, List.length_cons]; simp only [List.length_cons, List.length_nil]; omega
theorem actG_succ (c : SG) (k n : Nat) : actG c k (n + 1) = actG c k n ++ (if (ownS c.sigs (n : Int) && excB c (k : Int) (n : Int)) = true then [n] else []) := by
 unfold actG;rw [List.range_succ, List.filter_append];congr 1
 by_cases h : (ownS c.sigs (n : Int) && excB c (k : Int) (n : Int)) = true <;> simp [h]
theorem actG_len (c : SG) (k n : Nat) : (actG c k n).length ≤ n := by
 unfold actG;have := List.length_filter_le (fun g => ownS c.sigs ((g : Nat) : Int) && excB c (k : Int) ((g : Nat) : Int)) (List.range n)
 rwa [List.length_range] at this
theorem act_iff {c : SG} {i k : Nat} (h8 : c.sigs.length ≤ 8) : decide (encG (actG c i c.sigs.length) = encG (actG c k c.sigs.length)) = !cnfB c [(i : Int), (k : Int)] := by
 have hlt : ∀ j g, g ∈ actG c j c.sigs.length → g < 10 := fun j g hg => by
  have := List.mem_range.1 (List.mem_filter.1 hg).1;omega
 have hb : cnfB c [(i : Int), (k : Int)] = (ownL c.sigs c.sigs.length).any fun t => !(excB c (i : Int) t == excB c (k : Int) t) := rfl
 by_cases e : encG (actG c i c.sigs.length) = encG (actG c k c.sigs.length)
 ·rw [decide_eq_true e, hb];have e2 := encG_inj (hlt i) (hlt k) e
  symm
  rw [Bool.not_eq_true', List.any_eq_false];intro t ht;obtain ⟨g, rfl, hg⟩ := ownL_mem ht
  have hog : ownS c.sigs (g : Int) = true := by
   unfold ownL nI at ht;obtain ⟨g2, h2, e3⟩ := List.mem_map.1 ht;have : g2 = g := by omega
   rw [← this];exact (List.mem_filter.1 h2).2
  have hm : g ∈ actG c i c.sigs.length ↔ g ∈ actG c k c.sigs.length := by rw [e2]
  unfold actG at hm;rw [List.mem_filter, List.mem_filter, hog, Bool.true_and, Bool.true_and] at hm;have hr := List.mem_range.2 hg
  have h3 : excB c (i : Int) (g : Int) = excB c (k : Int) (g : Int) := by
   cases h1 : excB c (i : Int) (g : Int) <;> cases h2 : excB c (k : Int) (g : Int) <;> simp_all
  rw [h3]; simp
 rw [decide_eq_false e]
 symm
 rw [Bool.not_eq_false', hb];refine Classical.byContradiction fun hn => e ?_
 rw [Bool.not_eq_true, List.any_eq_false] at hn;congr 1;unfold actG;refine List.filter_congr fun g hg => ?_
 cases ho : ownS c.sigs (g : Int) with
 | false => rfl
 | true =>
  have := hn (g : Int) (List.mem_map.2 ⟨g, List.mem_filter.2 ⟨hg, ho⟩, rfl⟩);rw [Bool.true_and, Bool.true_and];simpa using this
end Go.Proofs.YtbofmbjefbpnaaaGreat
