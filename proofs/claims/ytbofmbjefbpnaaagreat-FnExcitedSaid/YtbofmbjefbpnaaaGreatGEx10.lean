/- Contracts of the functions of the program and of the reference, each proved by a walk through its code. -/
import Derived.Test.YtbofmbjefbpnaaaGreatGEx9
set_option linter.all false
set_option maxRecDepth 20000
namespace Go.Proofs.YtbofmbjefbpnaaaGreat
open Go.RowKit
def srtd (l : List Int) : Prop := l.Pairwise (fun a b => a < b)
theorem srtd_ext : ∀ {a b : List Int}, srtd a → srtd b → (∀ x, x ∈ a ↔ x ∈ b) → a = b
 | [], [], _, _, _ => rfl
 | [], y :: b, _, _, h => by have := (h y).2 List.mem_cons_self; cases this
 | x :: a, [], _, _, h => by have := (h x).1 List.mem_cons_self; cases this
 | x :: a, y :: b, ha, hb, h => by
  have ha' := List.pairwise_cons.1 ha;have hb' := List.pairwise_cons.1 hb
  have hxy : x = y := by
   rcases List.mem_cons.1 ((h x).1 List.mem_cons_self) with e | e
   ·exact e
   rcases List.mem_cons.1 ((h y).2 List.mem_cons_self) with e2 | e2
   ·exact e2.symm
   have := hb'.1 x e;have := ha'.1 y e2;omega
  subst hxy;congr 1;refine srtd_ext ha'.2 hb'.2 fun z => ?_
  have hz := h z;rw [List.mem_cons, List.mem_cons] at hz;constructor
  ·intro q;rcases hz.1 (.inr q) with e | e
   ·subst e; have := ha'.1 _ q; omega
   exact e
  intro q;rcases hz.2 (.inr q) with e | e
  ·subst e; have := hb'.1 _ q; omega
  exact e
theorem findIdx_le {l : List Int} {x : Int} {i : Nat} (hi : i < l.findIdx (fun y => decide (x ≤ y))) (hl : i < l.length) : l[i] < x := by
 have := List.not_of_lt_findIdx hi;simp only [decide_eq_true_eq, decide_eq_false_iff_not, Bool.not_eq_true] at this;omega
theorem putI_srtd {l : List Int} (h : srtd l) (x : Int) : srtd (putI l x) ∧ ∀ y, y ∈ putI l x ↔ (y ∈ l ∨ y = x) := by
 unfold putI;obtain ⟨k, hk⟩ := eqx (l.findIdx (fun y => decide (x ≤ y)));rw [← hk]
 by_cases he : l[k]? = some x
 ·rw [if_pos he];refine ⟨h, fun y => ⟨.inl, ?_⟩⟩;rintro (q | rfl)
  ·exact q
  exact List.mem_of_getElem? he
 rw [if_neg he];have hlow : ∀ i (hi : i < l.length), i < k → l[i] < x := fun i hi hik => findIdx_le (by omega) hi
 have hhigh : ∀ i (hi : i < l.length), k ≤ i → x < l[i] := by
  intro i hi hki;have hkl : k < l.length := by omega
  have h1 : x ≤ l[k] := by
   have := List.findIdx_getElem (w := show l.findIdx (fun y => decide (x ≤ y)) < l.length by omega);have := of_decide_eq_true this;simpa only [← hk] using this
  have h2 : l[k] ≠ x := fun e => he (by rw [List.getElem?_eq_getElem hkl, e])
  by_cases e : k = i
  ·subst e; omega
  have := (List.pairwise_iff_getElem.1 h) k i hkl hi (by omega);omega
 refine ⟨?_, ?_⟩
 ·unfold srtd;rw [List.pairwise_append, List.pairwise_append];refine ⟨⟨List.Pairwise.sublist (List.take_sublist _ _) h, List.pairwise_singleton _ _, ?_⟩, List.Pairwise.sublist (List.drop_sublist _ _) h, ?_⟩
  ·intro a ha b hb;rw [List.mem_singleton] at hb; subst hb;obtain ⟨i, hi, rfl⟩ := List.mem_take_iff_getElem.1 ha;exact hlow i (by omega) (by omega)
  intro a ha b hb;obtain ⟨j, hj, rfl⟩ := List.mem_drop_iff_getElem.1 hb;have h2 := hhigh (k + j) (by omega) (by omega);rcases List.mem_append.1 ha with ha | ha
  ·obtain ⟨i, hi, rfl⟩ := List.mem_take_iff_getElem.1 ha;have := hlow i (by omega) (by omega);omega
  rw [List.mem_singleton] at ha; subst ha; exact h2
 intro y;have : y ∈ l ↔ (y ∈ l.take k ∨ y ∈ l.drop k) := by rw [← List.mem_append, List.take_append_drop]
 rw [this, List.mem_append, List.mem_append, List.mem_singleton];constructor
 ·rintro ((q | q) | q)
  ·exact .inl (.inl q)
  ·exact .inr q
  exact .inl (.inr q)
 rintro ((q | q) | q)
 ·exact .inl (.inl q)
 ·exact .inr q
 exact .inl (.inr q)
def setP (l : List Int) : List Int := l.foldl putI []
theorem setF_srtd : ∀ (l a : List Int), srtd a → srtd (l.foldl putI a) ∧ ∀ y, y ∈ l.foldl putI a ↔ (y ∈ a ∨ y ∈ l)
 | [], a, h => ⟨h, fun y => by simp⟩
 | x :: l, a, h => by
  have h1 := putI_srtd h x;have h2 := setF_srtd l (putI a x) h1.1;refine ⟨h2.1, fun y => ?_⟩;rw [List.foldl_cons, h2.2 y, h1.2 y, List.mem_cons, or_assoc]
theorem setP_srtd (l : List Int) : srtd (setP l) ∧ ∀ y, y ∈ setP l ↔ y ∈ l := by
 have := setF_srtd l [] List.Pairwise.nil;exact ⟨this.1, fun y => by rw [setP, this.2 y]; simp⟩
theorem sort_perm (l : List Int) : (sortI l).Perm l := List.mergeSort_perm _ _
theorem sort_le (l : List Int) : (sortI l).Pairwise (fun a b => a ≤ b) := by
 have := List.pairwise_mergeSort (le := fun x y : Int => decide (x ≤ y)) (fun a b c h1 h2 => by have := of_decide_eq_true h1; have := of_decide_eq_true h2; exact decide_eq_true (by omega)) (fun a b => by
  by_cases h : a ≤ b
  ·simp [h]
  simp [h, show b ≤ a by omega]) l
 exact this.imp fun h => of_decide_eq_true h
theorem srtd_nodup {l : List Int} (h : srtd l) : l.Nodup := h.imp fun q => by omega
theorem nodup_len : ∀ (l s : List Int), s.Nodup → (∀ x, x ∈ s → x ∈ l) → s.length ≤ l.length
 | [], s, _, h => by
  cases s with
  | nil => exact Nat.le_refl _
  | cons x s => have := h x List.mem_cons_self; cases this
 | a :: l, s, hs, h => by
  by_cases ha : a ∈ s
  ·have := nodup_len l (s.erase a) (hs.erase a) (fun x hx => by
    have hx' := (hs.mem_erase_iff).1 hx;rcases List.mem_cons.1 (h x hx'.2) with e | e
    ·exact absurd e hx'.1
    exact e)
   rw [List.length_erase_of_mem ha] at this;rw [List.length_cons]; omega
  have := nodup_len l s hs (fun x hx => by
   rcases List.mem_cons.1 (h x hx) with e | e
   ·subst e; exact absurd hx ha
   exact e)
  rw [List.length_cons]; omega
inductive Rch (R : Nat → Nat → Prop) (S : Nat → Prop) : Nat → Prop
 | base {v : Nat} : S v → Rch R S v
 | step {u v : Nat} : Rch R S u → R u v → Rch R S v
noncomputable def rchB (R : Nat → Nat → Prop) (S : Nat → Prop) (v : Nat) : Bool := @decide (Rch R S v) (Classical.propDecidable _)
theorem rchB_iff {R : Nat → Nat → Prop} {S : Nat → Prop} {v : Nat} : rchB R S v = true ↔ Rch R S v := @decide_eq_true_iff _ (Classical.propDecidable _)
noncomputable def reaL (R : Nat → Nat → Prop) (S : Nat → Prop) (n : Nat) : List Int := nI ((List.range n).filter (rchB R S))
theorem range_srtd : ∀ n, srtd (nI (List.range n))
 | 0 => List.Pairwise.nil
 | n + 1 => by
  unfold srtd nI;rw [List.range_succ, List.map_append, List.pairwise_append];refine ⟨range_srtd n, List.pairwise_singleton _ _, fun a ha b hb => ?_⟩;obtain ⟨v, hv, rfl⟩ := List.mem_map.1 ha;obtain rfl := List.mem_singleton.1 hb;have := List.mem_range.1 hv;show ((v : Nat) : Int) < ((n : Nat) : Int);omega
theorem reaL_srtd (R : Nat → Nat → Prop) (S : Nat → Prop) (n : Nat) : srtd (reaL R S n) :=
 List.Pairwise.sublist (List.Sublist.map _ (List.filter_sublist (l := List.range n))) (range_srtd n)
theorem reaL_mem {R : Nat → Nat → Prop} {S : Nat → Prop} {n : Nat} {x : Int} : x ∈ reaL R S n ↔ ∃ v : Nat, x = (v : Int) ∧ v < n ∧ Rch R S v := by
 unfold reaL nI;rw [List.mem_map];constructor
 ·rintro ⟨v, hv, rfl⟩;rw [List.mem_filter, List.mem_range, rchB_iff] at hv;exact ⟨v, rfl, hv.1, hv.2⟩
 rintro ⟨v, rfl, h1, h2⟩;exact ⟨v, List.mem_filter.2 ⟨List.mem_range.2 h1, rchB_iff.2 h2⟩, rfl⟩
theorem reaL_len (R : Nat → Nat → Prop) (S : Nat → Prop) (n : Nat) : (reaL R S n).length ≤ n := by
 unfold reaL;rw [nI_len];have := List.length_filter_le (rchB R S) (List.range n)
 rwa [List.length_range] at this
theorem reaL_eq {R : Nat → Nat → Prop} {S : Nat → Prop} {n : Nat} {l : List Int} (hs : srtd l) (h1 : ∀ x, x ∈ l → ∃ v : Nat, x = (v : Int) ∧ v < n ∧ Rch R S v) (h2 : ∀ v, S v → (v : Int) ∈ l) (h3 : ∀ u v : Nat, (u : Int) ∈ l → R u v → (v : Int) ∈ l) : l = reaL R S n := by
 have key : ∀ v, Rch R S v → (v : Int) ∈ l := by
  intro v h
  induction h with
  | base h => exact h2 _ h
  | step _ hr ih => exact h3 _ _ ih hr
 refine srtd_ext hs (reaL_srtd R S n) fun x => ?_
 rw [reaL_mem];exact ⟨h1 x, fun ⟨v, e, _, hr⟩ => e ▸ key v hr⟩
def ArR (L : List Ar) (q : Ar → Bool) (u v : Nat) : Prop := ∃ a, a ∈ L ∧ q a = true ∧ a.from_ = (u : Int) ∧ a.to_ = (v : Int)
def ArC (L : List Ar) (q : Ar → Bool) (l : List Int) : Prop := ∀ a, a ∈ L → q a = true → a.from_ ∈ l → a.to_ ∈ l
structure PsI (L : List Ar) (q : Ar → Bool) (S : Nat → Prop) (n d j : Nat) (l : List Int) : Prop where
 srt : srtd l
 inn : ∀ x, x ∈ l → ∃ v : Nat, x = (v : Int) ∧ v < n ∧ Rch (ArR L q) S v
 bas : ∀ v, S v → (v : Int) ∈ l
 prg : ArC L q l ∨ d + 1 ≤ l.length ∨ (d ≤ l.length ∧ ∀ i (hi : i < L.length), i < j → q L[i] = true → L[i].from_ ∈ l → L[i].to_ ∈ l)
theorem PsI.len {L : List Ar} {q : Ar → Bool} {S : Nat → Prop} {n d j : Nat} {l : List Int} (h : PsI L q S n d j l) : l.length ≤ n := by
 have := nodup_len (nI (List.range n)) l (srtd_nodup h.srt) (fun x hx => by obtain ⟨v, rfl, hv, _⟩ := h.inn x hx; exact List.mem_map.2 ⟨v, List.mem_range.2 hv, rfl⟩)
 rwa [nI_len, List.length_range] at this
theorem PsI.no {L : List Ar} {q : Ar → Bool} {S : Nat → Prop} {n d j : Nat} {l : List Int} (h : PsI L q S n d j l) (hj : j < L.length) (hq : ¬ (q L[j] = true ∧ L[j].from_ ∈ l)) : PsI L q S n d (j + 1) l := by
 refine ⟨h.srt, h.inn, h.bas, ?_⟩;rcases h.prg with g | g | ⟨g1, g2⟩
 ·exact .inl g
 ·exact .inr (.inl g)
 refine .inr (.inr ⟨g1, fun i hi hij h1 h2 => ?_⟩);rcases Nat.lt_succ_iff_lt_or_eq.1 hij with h3 | rfl
 ·exact g2 i hi h3 h1 h2
 exact absurd ⟨h1, h2⟩ hq
theorem putI_mem {l : List Int} (h : srtd l) {x : Int} (hx : x ∈ l) : putI l x = l := srtd_ext (putI_srtd h x).1 h fun y => by
 rw [(putI_srtd h x).2 y];constructor
 ·rintro (q | rfl); exact q; exact hx
 exact .inl
theorem putI_new {l : List Int} {x : Int} (hx : ¬ x ∈ l) : (putI l x).length = l.length + 1 := by
 unfold putI;rw [if_neg (fun e => hx (List.mem_of_getElem? e)), List.length_append, List.length_append, List.length_take, List.length_drop];simp only [List.length_cons, List.length_nil];have := List.findIdx_le_length (xs := l) (p := fun y => decide (x ≤ y));omega
theorem PsI.yes {L : List Ar} {q : Ar → Bool} {S : Nat → Prop} {n d j : Nat} {l : List Int} (h : PsI L q S n d j l) (hj : j < L.length) (hq : q L[j] = true) (hf : L[j].from_ ∈ l) (ht : 0 ≤ L[j].to_ ∧ L[j].to_ < n) : PsI L q S n d (j + 1) (putI l L[j].to_) := by
 have hp := putI_srtd h.srt L[j].to_;refine ⟨hp.1, fun x hx => ?_, fun v hv => (hp.2 _).2 (.inl (h.bas v hv)), ?_⟩
 ·rcases (hp.2 x).1 hx with g | g
  ·exact h.inn x g
  obtain ⟨u, hu, _, hr⟩ := h.inn _ hf;exact ⟨L[j].to_.toNat, by omega, by omega, .step hr ⟨L[j], List.getElem_mem hj, hq, hu, by omega⟩⟩
 by_cases hm : L[j].to_ ∈ l
 ·rw [putI_mem h.srt hm];rcases h.prg with g | g | ⟨g1, g2⟩
  ·exact .inl g
  ·exact .inr (.inl g)
  refine .inr (.inr ⟨g1, fun i hi hij h1 h2 => ?_⟩);rcases Nat.lt_succ_iff_lt_or_eq.1 hij with h3 | rfl
  ·exact g2 i hi h3 h1 h2
  exact hm
 rw [putI_new hm];rcases h.prg with g | g | ⟨g1, g2⟩
 ·exact absurd (g _ (List.getElem_mem hj) hq hf) hm
 ·exact .inr (.inl (by omega))
 exact .inr (.inl (by omega))
theorem PsI.next {L : List Ar} {q : Ar → Bool} {S : Nat → Prop} {n d j : Nat} {l : List Int} (h : PsI L q S n d j l) (hj : j = L.length) : PsI L q S n (d + 1) 0 l := by
 refine ⟨h.srt, h.inn, h.bas, ?_⟩;rcases h.prg with g | g | ⟨g1, g2⟩
 ·exact .inl g
 ·exact .inr (.inr ⟨g, fun i _ hi => absurd hi (Nat.not_lt_zero _)⟩)
 refine .inl fun a ha h1 h2 => ?_
 obtain ⟨i, hi, rfl⟩ := List.getElem_of_mem ha;exact g2 i hi (by omega) h1 h2
theorem all_in {n : Nat} {l : List Int} (hs : srtd l) (h1 : ∀ x, x ∈ l → ∃ v : Nat, x = (v : Int) ∧ v < n) (hl : n ≤ l.length) {v : Nat} (hv : v < n) : (v : Int) ∈ l := by
 refine Classical.byContradiction fun hn => ?_
 have := nodup_len (nI (List.range n)) ((v : Int) :: l) (List.nodup_cons.2 ⟨hn, srtd_nodup hs⟩) (fun x hx => by
  rcases List.mem_cons.1 hx with rfl | hx
  ·exact List.mem_map.2 ⟨v, List.mem_range.2 hv, rfl⟩
  obtain ⟨u, rfl, hu⟩ := h1 x hx; exact List.mem_map.2 ⟨u, List.mem_range.2 hu, rfl⟩)
 rw [nI_len, List.length_range, List.length_cons] at this;omega
theorem PsI.end_ {L : List Ar} {q : Ar → Bool} {S : Nat → Prop} {n : Nat} {l : List Int} (h : PsI L q S n n 0 l) (hin : ∀ a, a ∈ L → ArIn n a) : l = reaL (ArR L q) S n := by
 have hc : ArC L q l := by
  rcases h.prg with g | g | ⟨g, _⟩
  ·exact g
  ·have := h.len; omega
  intro a ha _ _;have := hin a ha;unfold ArIn at this;have := all_in h.srt (fun x hx => by obtain ⟨v, e, hv, _⟩ := h.inn x hx; exact ⟨v, e, hv⟩) g (v := a.to_.toNat) (by omega)
  rwa [Int.toNat_of_nonneg (by omega)] at this
 refine reaL_eq h.srt h.inn h.bas fun u v hu ⟨a, ha, hq, h1, h2⟩ => ?_
 rw [← h2];exact hc a ha hq (by rw [h1]; exact hu)
def vW (W : List Bool) (v : Nat) : Bool := W.getD v false
theorem vW_set {W : List Bool} {i j : Nat} {x : Bool} : vW (W.set i x) j = if j = i ∧ i < W.length then x else vW W j := by
 unfold vW;rw [List.getD_eq_getElem?_getD, List.getElem?_set, List.getD_eq_getElem?_getD]
 by_cases h : i = j
 ·subst h
  by_cases h2 : i < W.length
  ·simp [h2]
  rw [if_pos rfl, if_neg h2, if_neg (fun q => h2 q.2), List.getElem?_eq_none (by omega)]
 rw [if_neg h, if_neg (fun q => h q.1.symm)]
theorem vW_lt {W : List Bool} {i : Nat} (h : vW W i = true) : i < W.length := by
 refine Classical.byContradiction fun hn => ?_
 unfold vW at h;rw [List.getD_eq_getElem?_getD, List.getElem?_eq_none (by omega)] at h;cases h
def cnT (W : List Bool) : Nat := W.countP id
theorem cnT_set : ∀ {W : List Bool} {i : Nat}, i < W.length → vW W i = false → cnT (W.set i true) = cnT W + 1
 | [], i, h, _ => by simp at h
 | x :: W, 0, _, h => by
  have : x = false := h;subst this;unfold cnT;rw [List.set_cons_zero, List.countP_cons_of_pos (by rfl), List.countP_cons_of_neg (by decide)]
 | x :: W, i + 1, hl, h => by
  have ih := cnT_set (W := W) (i := i) (by simpa using hl) h;unfold cnT at ih ⊢;rw [List.set_cons_succ, List.countP_cons, List.countP_cons, ih];omega
theorem cnT_all {W : List Bool} (h : W.length ≤ cnT W) {v : Nat} (hv : v < W.length) : vW W v = true := by
 have h2 := List.countP_eq_length.1 (Nat.le_antisymm List.countP_le_length h);unfold vW;rw [List.getD_eq_getElem?_getD, List.getElem?_eq_getElem hv];exact h2 _ (List.getElem_mem hv)
theorem cnT_le (W : List Bool) : cnT W ≤ W.length := List.countP_le_length
def ArV (L : List Ar) (q : Ar → Bool) (W : List Bool) : Prop := ∀ a, a ∈ L → q a = true → vW W a.from_.toNat = true → vW W a.to_.toNat = true
structure PsW (L : List Ar) (q : Ar → Bool) (S : Nat → Prop) (n d j : Nat) (W : List Bool) : Prop where
 len : W.length = n
 inn : ∀ v, vW W v = true → Rch (ArR L q) S v
 bas : ∀ v, S v → vW W v = true
 prg : ArV L q W ∨ d + 1 ≤ cnT W ∨ (d ≤ cnT W ∧ ∀ i (hi : i < L.length), i < j → q L[i] = true → vW W L[i].from_.toNat = true → vW W L[i].to_.toNat = true)
theorem PsW.no {L : List Ar} {q : Ar → Bool} {S : Nat → Prop} {n d j : Nat} {W : List Bool} (h : PsW L q S n d j W) (hj : j < L.length) (hq : ¬ (q L[j] = true ∧ vW W L[j].from_.toNat = true)) : PsW L q S n d (j + 1) W := by
 refine ⟨h.len, h.inn, h.bas, ?_⟩;rcases h.prg with g | g | ⟨g1, g2⟩
 ·exact .inl g
 ·exact .inr (.inl g)
 refine .inr (.inr ⟨g1, fun i hi hij h1 h2 => ?_⟩);rcases Nat.lt_succ_iff_lt_or_eq.1 hij with h3 | rfl
 ·exact g2 i hi h3 h1 h2
 exact absurd ⟨h1, h2⟩ hq
theorem set_same_b {W : List Bool} {i : Nat} (h : vW W i = true) : W.set i true = W := by
 have hl := vW_lt h;unfold vW at h;rw [List.getD_eq_getElem?_getD, List.getElem?_eq_getElem hl] at h;have h : W[i] = true := h;rw [← h];exact List.set_getElem_self ..
theorem PsW.yes {L : List Ar} {q : Ar → Bool} {S : Nat → Prop} {n d j : Nat} {W : List Bool} (h : PsW L q S n d j W) (hj : j < L.length) (hq : q L[j] = true) (hf : vW W L[j].from_.toNat = true) (ha : ArIn n L[j]) : PsW L q S n d (j + 1) (W.set L[j].to_.toNat true) := by
 unfold ArIn at ha;have hl := h.len;refine ⟨by rw [List.length_set]; exact hl, fun v hv => ?_, fun v hv => ?_, ?_⟩
 ·rw [vW_set] at hv
  split at hv
  ·rename_i g;exact .step (h.inn _ hf) ⟨L[j], List.getElem_mem hj, hq, by omega, by omega⟩
  exact h.inn v hv
 ·rw [vW_set]
  split
  ·rfl
  exact h.bas v hv
 cases hm : vW W L[j].to_.toNat with
 | true =>
  rw [set_same_b hm];rcases h.prg with g | g | ⟨g1, g2⟩
  ·exact .inl g
  ·exact .inr (.inl g)
  refine .inr (.inr ⟨g1, fun i hi hij h1 h2 => ?_⟩);rcases Nat.lt_succ_iff_lt_or_eq.1 hij with h3 | rfl
  ·exact g2 i hi h3 h1 h2
  exact hm
 | false =>
  rw [cnT_set (by omega) hm];rcases h.prg with g | g | ⟨g1, g2⟩
  ·rw [g _ (List.getElem_mem hj) hq hf] at hm; cases hm
  ·exact .inr (.inl (by omega))
  exact .inr (.inl (by omega))
theorem PsW.next {L : List Ar} {q : Ar → Bool} {S : Nat → Prop} {n d j : Nat} {W : List Bool} (h : PsW L q S n d j W) (hj : j = L.length) : PsW L q S n (d + 1) 0 W := by
 refine ⟨h.len, h.inn, h.bas, ?_⟩;rcases h.prg with g | g | ⟨g1, g2⟩
 ·exact .inl g
 ·exact .inr (.inr ⟨g, fun i _ hi => absurd hi (Nat.not_lt_zero _)⟩)
 refine .inl fun a ha h1 h2 => ?_
 obtain ⟨i, hi, rfl⟩ := List.getElem_of_mem ha;exact g2 i hi (by omega) h1 h2
theorem marks_eq {R : Nat → Nat → Prop} {S : Nat → Prop} {n : Nat} {W : List Bool} (hl : W.length = n) (h1 : ∀ v, vW W v = true → Rch R S v) (h2 : ∀ v, S v → vW W v = true) (h3 : ∀ u v, vW W u = true → R u v → vW W v = true) : W = (List.range n).map (rchB R S) := by
 have key : ∀ v, Rch R S v → vW W v = true := by
  intro v h
  induction h with
  | base h => exact h2 _ h
  | step _ hr ih => exact h3 _ _ ih hr
 refine List.ext_getElem (by rw [List.length_map, List.length_range]; exact hl) fun i hi hi2 => ?_
 rw [List.getElem_map, List.getElem_range];have e : vW W i = W[i] := by unfold vW; rw [List.getD_eq_getElem?_getD, List.getElem?_eq_getElem hi]; rfl
 rw [← e];cases hb : vW W i with
 | true => exact (rchB_iff.2 (h1 i hb)).symm
 | false =>
  cases hr : rchB R S i with
  | false => rfl
  | true => rw [key i (rchB_iff.1 hr)] at hb; cases hb
theorem PsW.end_ {L : List Ar} {q : Ar → Bool} {S : Nat → Prop} {n : Nat} {W : List Bool} (h : PsW L q S n n 0 W) (hin : ∀ a, a ∈ L → ArIn n a) : W = (List.range n).map (rchB (ArR L q) S) := by
 have hl := h.len
 have hc : ArV L q W := by
  rcases h.prg with g | g | ⟨g, _⟩
  ·exact g
  ·have := cnT_le W; omega
  intro a ha _ _;have := hin a ha;unfold ArIn at this;exact cnT_all (by omega) (by omega)
 refine marks_eq hl h.inn h.bas fun u v hu ⟨a, ha, hq, h1, h2⟩ => ?_
 have := hc a ha hq (by rw [h1]; exact hu)
 rwa [h2] at this
structure ChW (L : List Ar) (q : Ar → Bool) (S : Nat → Prop) (n u j : Nat) (W : List Bool) (ch : Bool) : Prop where
 len : W.length = n
 inn : ∀ v, vW W v = true → Rch (ArR L q) S v
 bas : ∀ v, S v → vW W v = true
 prg : (ch = true ∧ u < cnT W) ∨ (ch = false ∧ u = cnT W ∧ ∀ i (hi : i < L.length), i < j → q L[i] = true → vW W L[i].from_.toNat = true → vW W L[i].to_.toNat = true)
theorem ChW.no {L : List Ar} {q : Ar → Bool} {S : Nat → Prop} {n d j : Nat} {W : List Bool} {ch : Bool} (h : ChW L q S n d j W ch) (hj : j < L.length) (hq : q L[j] = true → vW W L[j].from_.toNat = true → vW W L[j].to_.toNat = true) : ChW L q S n d (j + 1) W ch := by
 refine ⟨h.len, h.inn, h.bas, ?_⟩;rcases h.prg with g | ⟨g0, g1, g2⟩
 ·exact .inl g
 refine .inr ⟨g0, g1, fun i hi hij h1 h2 => ?_⟩;rcases Nat.lt_succ_iff_lt_or_eq.1 hij with h3 | rfl
 ·exact g2 i hi h3 h1 h2
 exact hq h1 h2
theorem ChW.yes {L : List Ar} {q : Ar → Bool} {S : Nat → Prop} {n d j : Nat} {W : List Bool} {ch : Bool} (h : ChW L q S n d j W ch) (hj : j < L.length) (hq : q L[j] = true) (hf : vW W L[j].from_.toNat = true) (hm : vW W L[j].to_.toNat = false) (ha : ArIn n L[j]) : ChW L q S n d (j + 1) (W.set L[j].to_.toNat true) true := by
 unfold ArIn at ha;have hl := h.len;refine ⟨by rw [List.length_set]; exact hl, fun v hv => ?_, fun v hv => ?_, .inl ⟨rfl, ?_⟩⟩
 ·rw [vW_set] at hv
  split at hv
  ·rename_i g;exact .step (h.inn _ hf) ⟨L[j], List.getElem_mem hj, hq, by omega, by omega⟩
  exact h.inn v hv
 ·rw [vW_set]
  split
  ·rfl
  exact h.bas v hv
 rw [cnT_set (by omega) hm];rcases h.prg with g | g <;> omega
theorem ChW.end_ {L : List Ar} {q : Ar → Bool} {S : Nat → Prop} {n u j : Nat} {W : List Bool} (h : ChW L q S n u j W false) (hj : j = L.length) : W = (List.range n).map (rchB (ArR L q) S) := by
 rcases h.prg with g | ⟨_, _, g⟩
 ·cases g.1
 refine marks_eq h.len h.inn h.bas fun u v hu ⟨a, ha, hq, h1, h2⟩ => ?_
 obtain ⟨i, hi, rfl⟩ := List.getElem_of_mem ha;have := g i hi (by omega) hq (by rw [h1]; exact hu)
 rwa [h2] at this
section
variable {P : Program} [PT P]
variable {s : ASt} {dst : Option Nat} {ty : Nat} {pos : String} {af : Array Edge} {gd : Option (Nat × Bool)} {x y : Operand} {t : Nat}
theorem g_ia_part {id o l e n bt sz i k : Nat} {zs : List ZK} {te : TS} {I : Int} (ht : PT.ty P t = some ⟨.slice e, n, bt, zs⟩) (he : PT.ty P e = some te) (hs : te.size = sz) (h : s.ev x = .part id o l) (hy : s.ev y = aI I) (hI : I = (i : Int)) (hi : i < l) (hk : o + i * sz = k) : GOp P [] s ⟨dst, .indexAddr t x y, ty, pos, af, gd⟩ (.ptr id k) := by
 subst hk;refine ⟨fun s' ha C U a w m hR => ?_⟩;have hx := hR.ev x;rw [ha.2.1 x (by simp [Op.operands]), h] at hx;have h2 := hR.ev y;rw [ha.2.1 y (by simp [Op.operands]), hy] at h2;obtain ⟨e2, _⟩ := h2.val_eq;generalize hv : a.eval x = v at hx;cases hx with
 | part hp h0 =>
  obtain ⟨b, rfl, rfl⟩ := h0 (by omega);refine ⟨_, ?_, .ptr hp⟩;simp only [execOp, Sem.run_bind, hv, e2, hI, run_indexAddr ht ⟨te, he, hs⟩ hi, Result.andThen_ok, Sem.run_pure]
end
theorem en_slSort : Enters Tryz.prog 149 := enters_of Tryz.func149 rfl rfl
theorem slSort_spec (l : List Int) (hl : l.length ≤ 1000000) : ASpec Tryz.prog 149 [.own 0 l.length] [(0, .arr 3 1 (ints l))] (Fun1 (.tup []) [(0, .arr 3 1 (ints (sortI l)))]) :=
 ASpec.ofSort l hl (fun blk off cap w h1 h2 h3 => Tryz.slices_Sort_int blk off cap l w h1 h2 h3) (fun p cap w => Tryz.slices_Sort_int_none p cap w)
def ddN (l : List Int) : Nat → List Int
 | 0 => []
 | p + 1 => ddN l p ++ (if p = 0 ∨ ¬ l.getD p 0 = l.getD (p - 1) 0 then [l.getD p 0] else [])
theorem ddN_len (l : List Int) : ∀ p, (ddN l p).length ≤ p
 | 0 => Nat.le_refl _
 | p + 1 => by
  have ih := ddN_len l p;rw [ddN, List.length_append]
  split
  ·simp only [List.length_cons, List.length_nil]; omega
  simp only [List.length_nil]; omega
theorem getI_at {l : List Int} {p : Nat} (h : p < l.length) : l.getD p 0 = l[p] := by rw [List.getD_eq_getElem?_getD, List.getElem?_eq_getElem h]; rfl
theorem ddN_all {l : List Int} : ∀ p, p ≤ l.length → (∀ j, 1 ≤ j → j < p → ¬ l.getD j 0 = l.getD (j - 1) 0) → ddN l p = l.take p
 | 0, _, _ => rfl
 | p + 1, hp, h => by
  have ih := ddN_all p (by omega) (fun j h1 h2 => h j h1 (by omega))
  have hc : p = 0 ∨ ¬ l.getD p 0 = l.getD (p - 1) 0 := by
   rcases Nat.eq_zero_or_pos p with e | e
   ·exact .inl e
   exact .inr (h p e (Nat.lt_succ_self _))
  rw [ddN, ih, if_pos hc, List.take_add_one, List.getElem?_eq_getElem (show p < l.length by omega), getI_at (show p < l.length by omega)]; rfl
structure DdI (l : List Int) (k p : Nat) (e : List Int) : Prop where
 len : e.length = l.length
 lt : k < p
 le : p ≤ l.length
 kept : e.take k = ddN l p
 rest : ∀ i (hi : i < l.length), p ≤ i + 1 → e.getD i 0 = l[i]
theorem DdI.kl {l e : List Int} {k p : Nat} (h : DdI l k p e) : (ddN l p).length = k := by rw [← h.kept, List.length_take]; have := h.lt; have := h.le; have := h.len; omega
theorem DdI.skip {l e : List Int} {k p : Nat} (h : DdI l k p e) (hp : p < l.length) (hq : l.getD p 0 = l.getD (p - 1) 0) : DdI l k (p + 1) e :=
 ⟨h.len, by have := h.lt; omega, hp, by rw [ddN, if_neg (by rintro (q | q); (have := h.lt; omega); exact q hq), List.append_nil]; exact h.kept, fun i hi hpi => h.rest i hi (by omega)⟩
theorem DdI.move {l e : List Int} {k p : Nat} (h : DdI l k p e) (hp : p < l.length) (hq : ¬ l.getD p 0 = l.getD (p - 1) 0) : DdI l (k + 1) (p + 1) (e.set k l[p]) := by
 have hl := h.len;have hlt := h.lt;refine ⟨by rw [List.length_set]; exact hl, by omega, hp, ?_, fun i hi hpi => ?_⟩
 ·rw [ddN, if_pos (.inr hq), ← h.kept, getI_at hp, List.take_add_one, List.getElem?_set_self (by omega), List.take_set_of_le (Nat.le_refl _)]; rfl
 rw [List.getD_eq_getElem?_getD, List.getElem?_set_ne (by omega), ← List.getD_eq_getElem?_getD];exact h.rest i hi (by omega)
set_option maxHeartbeats 8000000 in
theorem slCompact_spec (l : List Int) (hl : l.length ≤ 1000000) : ASpec Tryz.prog 150 [.own 0 l.length] [(0, .arr 3 1 (ints l))] (Fun1 (.own 0 (ddN l l.length).length) [(0, .arr 3 1 (ints (ddN l l.length)))]) := by
 have hAll := ddN_all (l := l) l.length (Nat.le_refl _);rw [List.take_length] at hAll;refine ASpec.of Tryz.func150 rfl rfl fun C hC => ?_
 refine AC.seq (AC.region ?_);refine za ?_;refine AL.nil (th_n (AC.seq (AC.seq (AC.region ?_))));refine kB ?_;refine AL.p (by exact g_len_own (sz := 1) (els := []) (e' := 0) rfl rfl (by simp only [maxLen]; omega)) rfl ?_;refine zc ?_;refine AL.nil (th_n ?_);refine AC.condD rfl (fun h0 => ?_) (fun h0 => ?_)
 ·refine AC.seq (AC.region ?_);refine kB ?_;refine AL.p (by exact as2 rfl) rfl ?_;refine AL.nil (th_n (AC.ret (th_r (bq_r ?_))));have e := hAll (fun j h1 h2 => by omega);exact retN [] rfl (by rw [e]; repeat (first | exact rfl | refine ⟨_, rfl, ?_⟩)) (by rw [e]; repeat (first | exact True.intro | refine And.intro ?_ ?_ | exact rfl | refine ⟨_, _, rfl, rfl, ?_⟩)) rfl rfl
 refine AC.skip (th_n (AC.seq (AC.seq (AC.region ?_))));refine za ?_;refine AL.nil (th_n (AC.block ?_));refine AC.loop (ι := Nat) (fun k => ⟨61, 100, [(0, .own 0 l.length), (3, aI k)], [(0, some (.arr 3 1 (ints l)))]⟩) (fun k => (1 ≤ k ∧ k ≤ l.length) ∧ ∀ j, 1 ≤ j → j < k → ¬ l.getD j 0 = l.getD (j - 1) 0) (fun k => l.length - k) (1) ?_ (⟨⟨Nat.le_refl _, by omega⟩, fun j h1 h2 => by omega⟩) ?_
 ·exact zw [] hC
 rintro k ⟨⟨hk1, hk⟩, hall⟩;refine AC.seq (AC.seq (AC.region ?_));refine zm ?_;refine kB ?_;refine AL.p (by exact g_len_own (sz := 1) (els := []) (e' := 0) rfl rfl (by simp only [maxLen]; omega)) rfl ?_;refine zc ?_;refine AL.nil (th_n ?_);refine AC.condD rfl (fun h1 => ?_) (fun h1 => ?_)
 ·refine AC.skip (th_n (AC.seq (AC.block (AC.seq ?_))));have hkl : k < l.length := by omega
  have hg1 := ints_at hkl;have hg2 := ints_at (l := l) (k := k - 1) (by omega);have hd1 := getI_at hkl;have hd2 := getI_at (l := l) (p := k - 1) (by omega);have hkI : ((k : Int) - 1) = ((k - 1 : Nat) : Int) := by omega
  refine AC.drawn' mixed_ok [[], [], [0,1], [0,1,2], [], [], [5], [4,5,6], [4,5,6,7], [0,1,2,3,4,5,6,7,8]] (by decide) ?_;refine zd 0 [] 10 (by exact mv2 rfl) ?_;refine zd 1 [] 10 (by exact mv1 rfl) ?_;refine zd 2 [0,1] 10 (by exact g_ia_own (i := k) (l := l.length) rfl rfl rfl rfl rfl rfl hkl rfl) ?_;refine zd 3 [0,1,2] 10 (by exact g_load_arr1 rfl rfl rfl rfl (by rw [Nat.mul_one]; exact hg1)) ?_;refine zd 4 [] 10 (by exact mv2 rfl) ?_;refine zd 5 [] 10 (by exact mv1 rfl) ?_;refine zd 6 [5] 10 (by exact g_arith rfl rfl rfl (by exact wrap_i64 (by omega))) ?_;refine zd 7 [4,5,6] 10 (by exact g_ia_own (i := k - 1) (l := l.length) rfl rfl rfl rfl rfl hkI (by omega) rfl) ?_;refine zd 8 [4,5,6,7] 10 (by exact g_load_arr1 rfl rfl rfl rfl (by rw [Nat.mul_one]; exact hg2)) ?_;refine zd 9 (List.range 9) 10 (by exact g_cmp rfl rfl rfl) ?_;refine zj 10 ?_;refine th_n ?_;refine AC.condD rfl (fun h2 => ?_) (fun h2 => ?_)
  ·refine AC.seq ?_;have heq : l.getD k 0 = l.getD (k - 1) 0 := by rw [hd1, hd2]; assumption
   have hI0 : DdI l k (k + 1) l := ⟨rfl, Nat.lt_succ_self _, hkl, by rw [ddN, if_neg (by rintro (q | q); omega; exact q heq), List.append_nil]; exact (ddN_all k hk hall).symm, fun i hi _ => getI_at hi⟩;have hlk : 1 ≤ l.length - k := by omega
   refine AC.region ?_;refine kB ?_;refine zm ?_;refine AL.p (by exact g_slice_part (els := ints l) (e' := 3) (sz := 1) (l := k) (h := l.length) rfl rfl rfl rfl rfl (.some rfl rfl) .none (by omega) (by rw [ints_len]; exact Nat.le_refl _) (Nat.mul_one _) rfl) rfl ?_;refine AL.p (by exact as10 rfl) rfl ?_;refine AL.nil (th_n (AC.seq (AC.seq (AC.region ?_))));refine za ?_;refine AL.nil (th_n (AC.block ?_));refine AC.loop (ι := Nat × Nat × List Int) (fun x => ⟨61, 300, [(0, .own 0 l.length), (3, aI x.1), (4, .part 0 k (l.length - k)), (5, aI x.2.1)], [(0, some (.arr 3 1 (ints x.2.2)))]⟩) (fun x => DdI l x.1 (k + x.2.1) x.2.2 ∧ 1 ≤ x.2.1) (fun x => l.length - x.2.1) ((k, 1, l)) ?_ (⟨hI0, Nat.le_refl _⟩) ?_
   ·exact zw [] hC
   rintro ⟨q, i, e⟩ ⟨hI, hi1⟩;dsimp only at hI hi1 ⊢;have hlt := hI.lt;have hle := hI.le;have hel := hI.len;refine AC.seq (AC.seq (AC.region ?_));refine zm ?_;refine AL.p (by exact mv10 rfl) rfl ?_;refine AL.p (by exact g_len_part rfl rfl (by simp only [maxLen]; omega)) rfl ?_;refine zc ?_;refine AL.nil (th_n ?_);refine AC.condD rfl (fun h3 => ?_) (fun h3 => ?_)
   ·refine AC.skip (th_n (AC.seq (AC.block (AC.seq ?_))));have hil : k + i < l.length := by omega
    have hr1 := hI.rest (k + i) hil (by omega);have hr2 := hI.rest (k + i - 1) (by omega) (by omega);have hd1 := getI_at hil;have hd2 := getI_at (l := l) (p := k + i - 1) (by omega);have hg1 : (ints e)[k + i * 1]? = some [dI l[k + i]] := by rw [Nat.mul_one, ints_at (by omega), ← hr1, getI_at (by omega)]
    have hg2 : (ints e)[k + (i - 1) * 1]? = some [dI l[k + i - 1]] := by rw [Nat.mul_one, show k + (i - 1) = k + i - 1 by omega, ints_at (by omega), ← hr2, getI_at (by omega)]
    have hiI : ((i : Int) - 1) = ((i - 1 : Nat) : Int) := by omega
    have hsk := hI.skip hil;have hmv := hI.move hil;rw [hd1, hd2] at hsk hmv;obtain ⟨a, ha⟩ := eqx (l[k + i]);obtain ⟨b, hb⟩ := eqx (l[k + i - 1]);rw [← ha] at hg1 hsk hmv;rw [← hb] at hg2 hsk hmv;obtain ⟨y, hy⟩ : ∃ y, (ints e)[q]? = some [y] := ⟨_, ints_at (by omega)⟩;clear ha hb hr1 hr2 hd1 hd2;refine AC.drawn' mixed_ok [[], [], [0,1], [0,1,2], [], [], [5], [4,5,6], [4,5,6,7], [0,1,2,3,4,5,6,7,8]] (by decide) ?_;refine zd 0 [] 10 (by exact mv10 rfl) ?_;refine zd 1 [] 10 (by exact mv1 rfl) ?_;refine zd 2 [0,1] 10 (by exact g_ia_part (i := i) (l := l.length - k) rfl rfl rfl rfl rfl rfl (by omega) rfl) ?_;refine zd 3 [0,1,2] 10 (by exact g_load_arr1 rfl rfl rfl rfl hg1) ?_;refine zd 4 [] 10 (by exact mv10 rfl) ?_;refine zd 5 [] 10 (by exact mv1 rfl) ?_;refine zd 6 [5] 10 (by exact g_arith rfl rfl rfl (by exact wrap_i64 (by omega))) ?_;refine zd 7 [4,5,6] 10 (by exact g_ia_part (i := i - 1) (l := l.length - k) rfl rfl rfl rfl rfl hiI (by omega) rfl) ?_;refine zd 8 [4,5,6,7] 10 (by exact g_load_arr1 rfl rfl rfl rfl hg2) ?_;refine zd 9 (List.range 9) 10 (by exact g_cmp rfl rfl rfl) ?_;refine zj 10 ?_;refine th_n ?_;refine AC.condND rfl (fun h4 => ?_) (fun h4 => ?_)
    ·refine AC.seq (AC.region ?_);refine kB ?_;refine zm ?_;refine AL.p (by exact mv10 rfl) rfl ?_;refine zm ?_;refine AL.p (by exact g_ia_part (i := i) (l := l.length - k) rfl rfl rfl rfl rfl rfl (by omega) rfl) rfl ?_;refine AL.p (by exact g_load_arr1 rfl rfl rfl rfl hg1) rfl ?_;refine AL.p (by exact g_ia_own (i := q) (l := l.length) rfl rfl rfl rfl rfl rfl (by omega) rfl) rfl ?_;refine AL.q (by exact h_store_arr (i := q) (j := 0) (d := dI a) rfl rfl rfl rfl .same rfl hy (by decide)) rfl ?_;refine AL.nil (th_n (AC.region ?_));refine zm ?_;refine zA ?_;refine za ?_;refine AL.nil (ib_n (th_n (AC.region ?_)));refine zm ?_;refine zA ?_;refine za ?_;refine AL.nil (th_n ?_)
     (have e2 := hmv (by assumption); exact ⟨(q + 1, i + 1, e.set q a), ⟨e2, by dsimp only; omega⟩, by dsimp only; omega, zw [] hC (b := by rw [ints_set]; repeat (first | exact True.intro | refine And.intro ?_ ?_ | exact rfl | refine ⟨_, _, rfl, rfl, ?_⟩))⟩)
    refine AC.skip (ib_n (th_n (AC.region ?_)));refine zm ?_;refine zA ?_;refine za ?_;refine AL.nil (th_n ?_)
    (have e2 := hsk (by assumption); exact ⟨(q, i + 1, e), ⟨e2, by dsimp only; omega⟩, by dsimp only; omega, zw [] hC⟩)
   refine AC.exit (th_e (th_e (ib_y (th_n (AC.seq ?_)))));have hii : k + i = l.length := by omega
   rw [hii] at hI;have hkl := hI.kl;have hst : (ints e).take q = ints (ddN l l.length) := by rw [← hI.kept]; unfold ints; rw [List.map_take]
   refine AC.region ?_;refine kB ?_;refine zm ?_;refine AL.p (by exact g_slice_part (els := ints e) (e' := 3) (sz := 1) (l := q) (h := l.length) rfl rfl rfl rfl rfl (.some rfl rfl) .none (by omega) (by rw [ints_len]; omega) rfl rfl) rfl ?_;refine AL.q (by exact h_clear (i := q) (q := l.length - q) (els := ints e) (e' := 3) (sz := 1) rfl rfl rfl rfl rfl rfl (by omega) (by rw [ints_len]; omega)) rfl ?_;refine AL.nil (th_n (AC.seq (AC.region ?_)));refine kB ?_;refine zm ?_;refine AL.p (by exact g_slice_own (els := (ints e).take q) (e' := 3) (sz := 1) rfl rfl rfl rfl (.some rfl rfl) (by rw [List.length_take, ints_len]; omega)) rfl ?_;refine AL.p (by exact as2 rfl) rfl ?_;refine AL.nil (th_n (AC.ret (ib_r (th_r (th_r (ib_r (th_r (bq_r ?_))))))));exact retN [] rfl (by rw [hkl]; repeat (first | exact rfl | refine ⟨_, rfl, ?_⟩)) (by rw [← hst]; repeat (first | exact True.intro | refine And.intro ?_ ?_ | exact rfl | refine ⟨_, _, rfl, rfl, ?_⟩)) rfl rfl
  refine AC.skip (ib_n (th_n (AC.region ?_)));refine zm ?_;refine zA ?_;refine za ?_;refine AL.nil (th_n ?_);have hne : ¬ l.getD k 0 = l.getD (k - 1) 0 := by rw [hd1, hd2]; assumption
  exact ⟨k + 1, ⟨⟨by omega, by omega⟩, fun j h1 h2 => by rcases Nat.lt_succ_iff_lt_or_eq.1 h2 with q | rfl; exact hall j h1 q; exact hne⟩, by omega, zw [] hC⟩
 refine AC.exit (th_e (th_e (ib_y (th_n (AC.seq (AC.region ?_))))));refine kB ?_;refine AL.p (by exact as2 rfl) rfl ?_;refine AL.nil (th_n (AC.ret (bq_r ?_)));have e := hAll (fun j h1 h2 => hall j h1 (by omega));exact retN [] rfl (by rw [e]; repeat (first | exact rfl | refine ⟨_, rfl, ?_⟩)) (by rw [e]; repeat (first | exact True.intro | refine And.intro ?_ ?_ | exact rfl | refine ⟨_, _, rfl, rfl, ?_⟩)) rfl rfl
theorem en_slCompact : Enters Tryz.prog 150 := enters_of Tryz.func150 rfl rfl
theorem dd_sorted {l : List Int} (h : l.Pairwise (fun a b => a ≤ b)) : ∀ p, p ≤ l.length → srtd (ddN l p) ∧ (∀ x, x ∈ ddN l p ↔ x ∈ l.take p) ∧ ∀ x, x ∈ ddN l p → 1 ≤ p ∧ x ≤ l.getD (p - 1) 0
 | 0, _ => ⟨List.Pairwise.nil, fun x => by simp [ddN], fun x hx => by cases hx⟩
 | p + 1, hp => by
  obtain ⟨h1, h2, h3⟩ := dd_sorted h p (by omega);have hpl : p < l.length := by omega
  have hle : ∀ x, x ∈ l.take p → x ≤ l[p] := fun x hx => by
   obtain ⟨j, hj, rfl⟩ := List.mem_take_iff_getElem.1 hx;exact (List.pairwise_iff_getElem.1 h) j p (by omega) hpl (by omega)
  have htk : l.take (p + 1) = l.take p ++ [l[p]] := by rw [List.take_add_one, List.getElem?_eq_getElem hpl]; rfl
  rw [ddN, getI_at hpl, Nat.add_sub_cancel, getI_at hpl, htk]
  split
  ·rename_i q;refine ⟨?_, fun x => ?_, fun x hx => ⟨by omega, ?_⟩⟩
   ·unfold srtd;rw [List.pairwise_append];refine ⟨h1, List.pairwise_singleton _ _, fun a ha b hb => ?_⟩;obtain rfl := List.mem_singleton.1 hb;obtain ⟨g1, g2⟩ := h3 a ha;rcases q with q | q
    ·omega
    have hd := getI_at (l := l) (p := p - 1) (by omega);have := hle _ (List.mem_take_iff_getElem.2 ⟨p - 1, by omega, rfl⟩);rw [hd] at q g2;omega
   ·rw [List.mem_append, List.mem_append, h2]
   rcases List.mem_append.1 hx with q2 | q2
   ·exact hle x ((h2 x).1 q2)
   rw [List.mem_singleton.1 q2]; exact Int.le_refl _
  rename_i q;rw [List.append_nil];have hp0 : ¬ p = 0 := fun e => q (.inl e)
  have hq : l[p] = l.getD (p - 1) 0 := Classical.byContradiction fun e => q (.inr e)
  have hd := getI_at (l := l) (p := p - 1) (by omega);have hm : l[p] ∈ l.take p := by rw [hq, hd]; exact List.mem_take_iff_getElem.2 ⟨p - 1, by omega, rfl⟩
  refine ⟨h1, fun x => ?_, fun x hx => ⟨by omega, hle x ((h2 x).1 hx)⟩⟩;rw [h2, List.mem_append, List.mem_singleton];constructor
  ·exact .inl
  rintro (g | rfl)
  ·exact g
  exact hm
theorem dd_set (l : List Int) : ddN (sortI l) (sortI l).length = setP l := by
 obtain ⟨h1, h2, _⟩ := dd_sorted (sort_le l) (sortI l).length (Nat.le_refl _);refine srtd_ext h1 (setP_srtd l).1 fun x => ?_
 rw [h2, List.take_length, (setP_srtd l).2];exact (sort_perm l).mem_iff
theorem setP_len (l : List Int) : (setP l).length ≤ l.length := by rw [← dd_set]; have := ddN_len (sortI l) (sortI l).length; rw [sortI_len] at this ⊢; exact this
theorem tidy_spec (l : List Int) (hl : l.length ≤ 1000000) : ASpec Tryz.prog 99 [.own 0 l.length] [(0, .arr 3 1 (ints l))] (Fun1 (.own 0 (setP l).length) [(0, .arr 3 1 (ints (setP l)))]) := by
 have hS := slSort_spec l hl;have hlen := sortI_len l;have hCp := slCompact_spec (sortI l) (by rw [sortI_len]; exact hl);rw [dd_set, hlen] at hCp;obtain ⟨K, hK⟩ := eqx (setP l);rw [← hK] at hCp ⊢;obtain ⟨M, hM⟩ := eqx (sortI l);rw [← hM] at hCp hS;refine ASpec.of Tryz.func99 rfl rfl fun C hC => ?_
 refine AC.seq (AC.region ?_);refine za ?_;refine AL.nil (th_n (AC.seq (AC.region ?_)));refine kB ?_;refine kU [0] en_slSort hS ?_;refine AL.nil (th_n (AC.seq (AC.region ?_)));refine kB ?_;refine kU [0] en_slCompact hCp ?_;refine AL.p (by exact as2 rfl) rfl ?_;refine AL.nil (th_n (AC.ret (bq_r ?_)));exact retN [] rfl (by repeat (first | exact rfl | refine ⟨_, rfl, ?_⟩)) (by repeat (first | exact True.intro | refine And.intro ?_ ?_ | exact rfl | refine ⟨_, _, rfl, rfl, ?_⟩)) rfl rfl
theorem en_tidy : Enters Tryz.prog 99 := enters_of Tryz.func99 rfl rfl
def fromE (L : List Ar) : List (Nat × Nat) := (List.range L.length).map fun j => ((arAt L j).from_.toNat, j)
theorem fromE_next (L : List Ar) (k : Nat) : nextL (fromE L) k = (List.range L.length).filter fun j => decide ((arAt L j).from_.toNat = k) := by
 unfold nextL fromE;rw [List.filter_map, List.map_map];have : ((fun x : Nat × Nat => x.2) ∘ fun j => ((arAt L j).from_.toNat, j)) = id := rfl;rw [this, List.map_id]; rfl
theorem validC_at {c : SG} (h : validC c = true) : (1 ≤ c.codes.length ∧ c.codes.length ≤ 300) ∧ c.arcs.length ≤ 4000 ∧ (∀ a, a ∈ c.arcs → ArIn c.codes.length a) ∧ ∀ v, v < c.codes.length → 0 ≤ oa (distF (arcE c.arcs) c.codes.length 0) v := by
 unfold validC at h;simp only [Bool.and_eq_true, decide_eq_true_eq, List.all_eq_true] at h;obtain ⟨⟨⟨⟨⟨_, h2⟩, h3⟩, _⟩, h5⟩, h6⟩ := h;refine ⟨by omega, h3, fun a ha => arcG_in (h5 a ha), fun v hv => ?_⟩;unfold allU at h6;have := List.all_eq_true.1 h6 v (List.mem_range.2 hv);exact of_decide_eq_true this
inductive Chn (L : List Ar) : List Ar → Nat → Prop
 | nil : Chn L [] 0
 | snoc {p : List Ar} {f : Nat} {a : Ar} {v : Nat} : Chn L p f → a ∈ L → a.from_ = (f : Int) → a.to_ = (v : Int) → Chn L (p ++ [a]) v
def atP (p : List Ar) (j : Nat) : Int := match j with | 0 => 0 | j + 1 => (arAt p j).to_
theorem Chn.facts {L p : List Ar} {v : Nat} (h : Chn L p v) : (∀ j (hj : j < p.length), p[j] ∈ L ∧ p[j].from_ = atP p j) ∧ atP p p.length = (v : Int) := by
 induction h with
 | nil => exact ⟨fun j hj => by simp at hj, rfl⟩
 | snoc h ha hf ht ih =>
  rename_i p f a v;obtain ⟨h1, h2⟩ := ih
  have hat : ∀ j, j ≤ p.length → atP (p ++ [a]) j = atP p j := by
   intro j hj;cases j with
   | zero => rfl
   | succ j => show (arAt (p ++ [a]) j).to_ = (arAt p j).to_; rw [arAt_nat (by simp; omega), arAt_nat (by omega), List.getElem_append_left (by omega)]
  refine ⟨fun j hj => ?_, ?_⟩
  ·rw [List.length_append] at hj;simp only [List.length_cons, List.length_nil] at hj;rw [hat j (by omega)];rcases Nat.lt_or_ge j p.length with g | g
   ·have := h1 j g;rw [List.getElem_append_left g];exact ⟨this.1, this.2⟩
   obtain rfl : j = p.length := by omega
   rw [List.getElem_concat_length rfl, h2];exact ⟨ha, hf⟩
  rw [List.length_append];show (arAt (p ++ [a]) p.length).to_ = _;rw [arAt_nat (by simp), List.getElem_concat_length rfl, ht]
theorem validC_arc {c : SG} (h : validC c = true) {a : Ar} (ha : a ∈ c.arcs) : ((0 ≤ a.from_ ∧ a.from_ < c.codes.length) ∧ 0 ≤ a.to_ ∧ a.to_ < c.codes.length) ∧ labOk ⟨a.sig, a.up⟩ c.sigs.length = true ∧ fitS a (cAtS c a.from_.toNat) (cAtS c a.to_.toNat) = true := by
 obtain ⟨_, _, hin, _⟩ := validC_at h;unfold validC at h;simp only [Bool.and_eq_true, List.all_eq_true] at h;obtain ⟨⟨_, h5⟩, _⟩ := h;have := h5 a ha;unfold arcG at this;simp only [Bool.and_eq_true] at this;exact ⟨hin a ha, this.1.2, this.2⟩
theorem validC_code {c : SG} (h : validC c = true) {i : Nat} (hi : i < c.codes.length) : (cAtS c i).length = c.sigs.length := by
 unfold validC at h;simp only [Bool.and_eq_true, List.all_eq_true] at h;obtain ⟨⟨⟨_, h4⟩, _⟩, _⟩ := h;have := h4 _ (cAtS_mem hi);unfold bitsB at this;simp only [Bool.and_eq_true, decide_eq_true_eq] at this;omega
structure SigOk (s : List Sig) : Prop where
 l : 1 ≤ s.length ∧ s.length ≤ 8
 n : ∀ x, x ∈ s → 1 ≤ x.name.length ∧ x.name.length ≤ 6
theorem SigOk.of {s : List Sig} (h : sigsB s = true) : SigOk s := by
 unfold sigsB at h;rw [Bool.and_eq_true] at h;have hl := inI_iff.1 h.2;refine ⟨by omega, fun x hx => ?_⟩;obtain ⟨j, hj, rfl⟩ := List.getElem_of_mem hx;have := allK_iff.1 h.1 j hj;unfold sigK at this;rw [sAt_nat hj, Bool.and_eq_true] at this;have h1 := this.1;unfold nameB at h1;rw [Bool.and_eq_true] at h1;have := inI_iff.1 h1.2;omega
abbrev isL (l : List (List Int)) : List (List DV) := l.map fun x => [vI x]
abbrev vIs (l : List (List Int)) : DV := .view 30 1 (isL l)
theorem isL_len (l : List (List Int)) : (isL l).length = l.length := List.length_map _
theorem isL_get {l : List (List Int)} {k : Nat} (h : k < l.length) : (isL l)[k]? = some [vI l[k]] := by rw [List.getElem?_map, List.getElem?_eq_getElem h]; rfl
theorem h_appendIs (acc new : List (List Int)) {s : ASt} {dst : Option Nat} {ty : Nat} {pos : String} {af : Array Edge} {gd : Option (Nat × Bool)} {x y : Operand} {f : Nat} {ids ids2 : List Nat} {gone : List (Nat × Option Chunk)}
  (hto : AppTo s x 30 1 (isL acc) ids gone) (harg : AppArg s y 1 (isL new) ids2) (h : (acc ++ new).length ≤ 100000000) (hnew : gone = [] → 0 < new.length) :
  NOp Tryz.prog (ids ++ ids2) s ⟨dst, .call { callee := .builtin .append, args := #[x, y], argTypes := #[33, 33] }, ty, pos, af, gd⟩ f ⟨.own f (acc ++ new).length, (f, some (.arr 30 1 (isL (acc ++ new)))) :: gone⟩ := by
 have := h_append (P := Tryz.prog) (s := s) (dst := dst) (ty := ty) (pos := pos) (af := af) (gd := gd) (x := x) (y := y) (f := f) (t := 33) (tx := 33) (k := (acc ++ new).length) rfl rfl rfl rfl rfl rfl hto harg (by simp) (by omega) (by show (acc ++ new).length * 24 ≤ _; omega) (fun h => by rw [isL_len]; exact hnew h)
 rwa [← List.map_append] at this
theorem filter_snoc {α : Type} (p : α → Bool) {l : List α} {j : Nat} (hj : j < l.length) : (l.take (j + 1)).filter p = (l.take j).filter p ++ (if p l[j] = true then [l[j]] else []) := by
 rw [List.take_add_one, List.getElem?_eq_getElem hj, List.filter_append];congr 1
 by_cases h : p l[j] = true <;> simp [h]
def isLb (x : Lab) (a : Ar) : Bool := decide (a.sig = x.sig) && decide (a.up = x.up)
def blkS (c : SG) (x : Lab) (v : Nat) : Prop := ∃ a, a ∈ c.arcs ∧ isLb x a = true ∧ a.to_ = (v : Int)
def sdB (l : List Int) (v : Int) : Bool := decide (v ∈ l)
def nxtB (x y : UInt8) : Bool := decide (x = y) || ((decide (x = 48) && decide (y = 43)) || (decide (x = 43) && decide (y = 49)) || (decide (x = 49) && decide (y = 45)) || (decide (x = 45) && decide (y = 48)) || (decide (x = 43) && decide (y = 45)) || (decide (x = 45) && decide (y = 43)))
def parB (c : SG) (w : List UInt8) : Bool := c.arcs.all fun a => nxtB (w.getD a.from_.toNat 0) (w.getD a.to_.toNat 0)
theorem isLb_dec (x : Lab) (a : Ar) : isLb x a = decide (a.sig = x.sig ∧ a.up = x.up) := by unfold isLb; rw [Bool.decide_and]
theorem labelOfArc_spec (a : Ar) : ASpec Tryz.prog 79 [arA a] [] (Pure1 (.agg [aI a.sig, aT a.up])) := by
 refine ASpec.of Tryz.func79 rfl rfl fun C hC => ?_
 refine AC.seq (AC.region ?_);refine kD ?_;refine kE ?_;refine AL.nil (th_n (AC.seq (AC.region ?_)));refine zf ?_;refine zr ?_;refine zf ?_;refine zr ?_;refine AL.p (by exact g_build rfl rfl rfl) rfl ?_;refine zs ?_;refine AL.nil (th_n (AC.ret (bq_r ?_)));exact ret0 rfl (by repeat (first | exact DLead.same | exact rfl | refine ⟨_, rfl, ?_⟩ | refine ⟨_, _, rfl, ?_, ?_⟩))
theorem en_labelOfArc : Enters Tryz.prog 79 := enters_of Tryz.func79 rfl rfl
noncomputable def sigQ (c : SG) (g : Int) : Bool := validC c && (decide (0 ≤ g) && decide (g ≤ (c.sigs.length : Int) - 1))
theorem hasSignal_spec (c : SG) (g : Int) (hc : SgL c) : ASpec Tryz.prog 56 [sgA c, aI g] [] (Pure1 (aT (sigQ c g))) := by
 have hV := iValidSg_spec c hc;have hW := within_spec g 0 ((c.sigs.length : Int) - 1);have hn := hc.sg;have hR : sigQ c g = (validC c && (decide (0 ≤ g) && decide (g ≤ (c.sigs.length : Int) - 1))) := rfl;obtain ⟨b, hb⟩ := eqx (validC c);rw [← hb] at hV hR;obtain ⟨d, hd⟩ := eqx ((decide (0 ≤ g) && decide (g ≤ (c.sigs.length : Int) - 1)));rw [← hd] at hW hR;rw [hR];clear hR hb hd;refine ASpec.of Tryz.func56 rfl rfl fun C hC => ?_
 refine AC.seq (AC.region ?_);refine kD ?_;refine za ?_;refine AL.nil (th_n (AC.seq (AC.region ?_)));refine kG ?_;refine kV en_iValidSg hV ?_;refine zm ?_;refine AL.caseGB rfl rfl (fun h0 => ?_) (fun h0 => ?_)
 ·refine zy ?_;refine zm ?_;refine zy ?_;refine zf ?_;refine zy ?_;refine zr ?_;refine zy ?_;refine kI c.sigs.length (List.length_map _) ?_;refine zy ?_;refine zA ?_;refine zy ?_;refine kV en_within hW ?_;refine zQ ?_;refine za ?_;refine AL.nil (th_n (AC.ret (bq_r ?_)))
  (have q := ‹b = true›; exact ret1 rfl (by rw [q, Bool.true_and]))
 refine zn ?_;refine zn ?_;refine zn ?_;refine zn ?_;refine zn ?_;refine zn ?_;refine zP ?_;refine za ?_;refine AL.nil (th_n (AC.ret (bq_r ?_)))
 (have q := ‹b = false›; exact ret1 rfl (by rw [q]; rfl))
theorem en_hasSignal : Enters Tryz.prog 56 := enters_of Tryz.func56 rfl rfl
def swT (c : SG) (x : Lab) (j : Nat) : List Int := ((c.arcs.take j).filter (isLb x)).map Ar.to_
def swL (c : SG) (x : Lab) : List Int := setP (swT c x c.arcs.length)
theorem swT_succ {c : SG} {x : Lab} {j : Nat} (hj : j < c.arcs.length) : swT c x (j + 1) = swT c x j ++ (if isLb x c.arcs[j] = true then [c.arcs[j].to_] else []) := by
 unfold swT;rw [filter_snoc _ hj, List.map_append];congr 1
 split <;> rfl
theorem swT_len (c : SG) (x : Lab) (j : Nat) : (swT c x j).length ≤ j := by
 unfold swT;rw [List.length_map];have := List.length_filter_le (isLb x) (c.arcs.take j);rw [List.length_take] at this;omega
theorem swL_mem {c : SG} {x : Lab} {t : Int} : t ∈ swL c x ↔ ∃ a, a ∈ c.arcs ∧ isLb x a = true ∧ a.to_ = t := by
 unfold swL swT;rw [(setP_srtd _).2, List.take_length, List.mem_map];constructor
 ·rintro ⟨a, ha, rfl⟩;rw [List.mem_filter] at ha;exact ⟨a, ha.1, ha.2, rfl⟩
 rintro ⟨a, h1, h2, rfl⟩;exact ⟨a, List.mem_filter.2 ⟨h1, h2⟩, rfl⟩
set_option maxHeartbeats 4000000 in
theorem switchedI_spec (c : SG) (x : Lab) (hl : c.arcs.length ≤ 1000000) : ASpec Tryz.prog 60 [sgA c, labA x] [] (Fun1 (.own 0 (swL c x).length) [(0, .arr 3 1 (ints (swL c x)))]) := by
 have hT := fun j (hj : j < c.arcs.length) => swT_succ (x := x) hj
 have hTl := swT_len c x;have hTd := tidy_spec (swT c x c.arcs.length) (by have := hTl c.arcs.length; omega);have hR : swL c x = setP (swT c x c.arcs.length) := rfl;rw [← hR] at hTd;obtain ⟨K, hK⟩ := eqx (swL c x);rw [← hK] at hTd ⊢;clear hR hK;refine ASpec.of Tryz.func60 rfl rfl fun C hC => ?_
 refine AC.seq (AC.region ?_);refine kD ?_;refine kD ?_;refine za ?_;refine AL.nil (th_n (AC.seq (AC.region ?_)));refine AL.q (by exact h_lit rfl rfl rfl rfl rfl rfl rfl rfl) rfl ?_;refine AL.p (by exact as2 rfl) rfl ?_;refine AL.nil (th_n (AC.seq (AC.seq (AC.region ?_))));refine zf ?_;refine zr ?_;refine kI c.arcs.length (arL_len _) ?_;refine zm ?_;refine AL.nil (th_n (AC.block ?_));refine AC.loop (ι := Nat) (fun j => ⟨28, 300, [(2, .d (.ref (sgD c))), (3, .d (.ref [dI x.sig, dT x.up])), (5, .own 100 (swT c x j).length), (10, .d (vArs c.arcs)), (11, aI c.arcs.length), (12, aI j)], [(100, some (.arr 3 1 (ints (swT c x j))))]⟩) (fun j => j ≤ c.arcs.length) (fun j => c.arcs.length - j) (0) ?_ (Nat.zero_le _) ?_
 ·exact zw [(100, _)] hC
 intro j hj;refine AC.seq (AC.region ?_);refine zc ?_;refine AL.nil (th_n (AC.seq ?_));refine AC.condD rfl (fun h0 => ?_) (fun h0 => ?_)
 ·refine AC.skip (th_n (AC.seq (AC.block (AC.seq ?_))));have hj1 : j < c.arcs.length := by omega
  have hget := arL_get hj1;have hTj := hT j hj1;have hTlj := hTl j;rw [isLb_dec] at hTj;obtain ⟨a, ha⟩ := eqx (c.arcs[j]);rw [← ha] at hget hTj;clear ha;have hLo := labelOfArc_spec a;obtain ⟨T, hTT⟩ := eqx (swT c x j);rw [← hTT] at hTj hTlj ⊢;clear hTT;refine AC.region ?_;refine AL.p (by exact g_ia_view rfl rfl rfl rfl rfl (by rfl) (by assumption)) rfl ?_;refine kG ?_;refine kE ?_;refine zs ?_;refine AL.nil (th_n (AC.seq ?_));refine AC.drawn' mixed_ok [[], [0], [], [0,1,2]] (by decide) ?_;refine zd 0 [] 4 (by exact g_load_ptrN rfl rfl rfl rfl rfl) ?_;refine zh 1 [0] 4 (by exact h_pure en_labelOfArc rfl rfl (by repeat (first | exact rfl | exact DLead.same | refine ⟨_, _, rfl, ?_, ?_⟩ | refine ⟨_, rfl, ?_⟩)) hLo rfl) ?_;refine zd 2 [] 4 (by exact g_load_refN rfl rfl rfl rfl) ?_;refine zd 3 [0,1,2] 4 (by exact g_eqIB (r := decide (a.sig = x.sig ∧ a.up = x.up)) (by decide +kernel) rfl rfl rfl) ?_;refine zj 4 ?_;refine th_n ?_;refine AC.condD rfl (fun h1 => ?_) (fun h1 => ?_)
  ·refine AC.region ?_;refine kB ?_;refine zF ?_;refine zl ?_;refine AL.q (by exact h_litF rfl rfl rfl rfl rfl rfl rfl rfl) rfl ?_;refine AL.q (by exact h_appendI T [a.to_] (.own rfl rfl (ints_len _).symm) (.view rfl) (by rw [List.length_append]; simp only [List.length_cons, List.length_nil]; omega) (by simp)) rfl ?_;refine AL.p (by exact as2 rfl) rfl ?_;refine AL.nil (ib_n (th_n (AC.region ?_)));refine zA ?_;refine zm ?_;refine AL.nil (th_n ?_)
   (have q := ‹a.sig = x.sig ∧ a.up = x.up›; rw [decide_eq_true q, if_pos rfl] at hTj; exact ⟨j + 1, by omega, by omega, zw [(100, _)] hC (by rw [hTj]; repeat (first | exact True.intro | refine And.intro ?_ ?_ | exact DLead.same | exact rfl | refine ⟨_, rfl, ?_⟩)) (by rw [hTj]; repeat (first | exact True.intro | refine And.intro ?_ ?_ | exact rfl | refine ⟨_, _, rfl, rfl, ?_⟩))⟩)
  refine AC.skip (ib_n (th_n (AC.region ?_)));refine zA ?_;refine zm ?_;refine AL.nil (th_n ?_)
  (have q := ‹¬ (a.sig = x.sig ∧ a.up = x.up)›; rw [decide_eq_false q, if_neg (by decide), List.append_nil] at hTj; exact ⟨j + 1, by omega, by omega, zw [(100, 100)] hC (by rw [hTj]; repeat (first | exact True.intro | refine And.intro ?_ ?_ | exact DLead.same | exact rfl | refine ⟨_, rfl, ?_⟩)) (by rw [hTj]; repeat (first | exact True.intro | refine And.intro ?_ ?_ | exact rfl | refine ⟨_, _, rfl, rfl, ?_⟩))⟩)
 refine AC.exit (th_e (th_e (ib_y (th_n (AC.seq ?_)))));have hjj : j = c.arcs.length := by omega
 rw [hjj];refine AC.region ?_;refine kB ?_;refine kU [100] en_tidy hTd ?_;refine AL.p (by exact as2 rfl) rfl ?_;refine AL.nil (th_n (AC.ret (bq_r ?_)));exact retN [(0, _)] rfl (by repeat (first | exact rfl | refine ⟨_, rfl, ?_⟩)) (by repeat (first | exact True.intro | refine And.intro ?_ ?_ | exact rfl | refine ⟨_, _, rfl, rfl, ?_⟩)) rfl rfl
theorem en_switchedI : Enters Tryz.prog 60 := enters_of Tryz.func60 rfl rfl
structure BfB (L : List Ar) (q : Ar → Bool) (S : Nat → Prop) (n : Nat) (out : List Int) (at_ p : Nat) : Prop where
 nd : out.Nodup
 inn : ∀ x, x ∈ out → ∃ v : Nat, x = (v : Int) ∧ v < n ∧ Rch (ArR L q) S v
 bas : ∀ v, S v → (v : Int) ∈ out
 al : at_ ≤ out.length
 cls : ∀ a, a ∈ L → q a = true → a.from_ ∈ out.take at_ → a.to_ ∈ out
 cur : ∀ (h : at_ < out.length) i, i ∈ (nextL (fromE L) out[at_].toNat).take p → ∀ hi : i < L.length, q L[i] = true → L[i].to_ ∈ out
theorem BfB.len {L : List Ar} {q : Ar → Bool} {S : Nat → Prop} {n at_ p : Nat} {out : List Int} (h : BfB L q S n out at_ p) : out.length ≤ n := by
 have := nodup_len (nI (List.range n)) out h.nd (fun x hx => by obtain ⟨v, rfl, hv, _⟩ := h.inn x hx; exact List.mem_map.2 ⟨v, List.mem_range.2 hv, rfl⟩)
 rwa [nI_len, List.length_range] at this
theorem mem_take_s {l : List Nat} {p : Nat} (hp : p < l.length) {i : Nat} (h : i ∈ l.take (p + 1)) : i ∈ l.take p ∨ i = l[p] := by
 rw [List.take_add_one, List.getElem?_eq_getElem hp, List.mem_append] at h;rcases h with h | h
 ·exact .inl h
 exact .inr (by simpa using h)
theorem BfB.no {L : List Ar} {q : Ar → Bool} {S : Nat → Prop} {n at_ p : Nat} {out : List Int} (h : BfB L q S n out at_ p) (ha : at_ < out.length) {i : Nat} (hp : p < (nextL (fromE L) out[at_].toNat).length) (hi : (nextL (fromE L) out[at_].toNat)[p] = i) (hq : ∀ hi : i < L.length, q L[i] = true → L[i].to_ ∈ out) : BfB L q S n out at_ (p + 1) := by
 refine ⟨h.nd, h.inn, h.bas, h.al, h.cls, fun h1 k hk hkl hqk => ?_⟩;rcases mem_take_s hp hk with g | g
 ·exact h.cur h1 k g hkl hqk
 rw [hi] at g; subst g; exact hq hkl hqk
theorem BfB.yes {L : List Ar} {q : Ar → Bool} {S : Nat → Prop} {n at_ p : Nat} {out : List Int} (h : BfB L q S n out at_ p) (ha : at_ < out.length) {i : Nat} (hp : p < (nextL (fromE L) out[at_].toNat).length) (hi : (nextL (fromE L) out[at_].toNat)[p] = i) (hil : i < L.length) (hq : q L[i] = true) (hn : ¬ L[i].to_ ∈ out) (hA : ArIn n L[i]) : BfB L q S n (out ++ [L[i].to_]) at_ (p + 1) := by
 unfold ArIn at hA;have hin : i ∈ nextL (fromE L) out[at_].toNat := by rw [← hi]; exact List.getElem_mem hp
 rw [fromE_next, List.mem_filter, decide_eq_true_eq, arAt_nat hil] at hin;obtain ⟨u, hu, hun, hr⟩ := h.inn _ (List.getElem_mem ha);have hf : L[i].from_ = (u : Int) := by rw [hu] at hin; omega
 have hget : (out ++ [L[i].to_])[at_]'(by rw [List.length_append]; omega) = out[at_] := List.getElem_append_left ha;refine ⟨?_, fun x hx => ?_, fun v hv => List.mem_append.2 (.inl (h.bas v hv)), by have := h.al; rw [List.length_append]; omega, fun a ham hqa hfa => ?_, fun h1 k hk hkl hqk => ?_⟩
 ·rw [List.nodup_append];refine ⟨h.nd, by simp, fun a ha b hb => ?_⟩;rw [List.mem_singleton] at hb;rintro rfl;exact hn (hb ▸ ha)
 ·rcases List.mem_append.1 hx with g | g
  ·exact h.inn x g
  rw [List.mem_singleton] at g;exact ⟨L[i].to_.toNat, by omega, by omega, .step hr ⟨L[i], List.getElem_mem hil, hq, hf, by omega⟩⟩
 ·rw [List.take_append_of_le_length (by omega)] at hfa;exact List.mem_append.2 (.inl (h.cls a ham hqa hfa))
 rw [hget] at hk;rcases mem_take_s hp hk with g | g
 ·exact List.mem_append.2 (.inl (h.cur ha k g hkl hqk))
 rw [hi] at g; subst g; exact List.mem_append.2 (.inr (by simp))
theorem BfB.next {L : List Ar} {q : Ar → Bool} {S : Nat → Prop} {n at_ p : Nat} {out : List Int} (h : BfB L q S n out at_ p) (ha : at_ < out.length) (hp : (nextL (fromE L) out[at_].toNat).length ≤ p) (hin : ∀ a, a ∈ L → ArIn n a) : BfB L q S n out (at_ + 1) 0 := by
 refine ⟨h.nd, h.inn, h.bas, ha, fun a ham hqa hfa => ?_, fun h1 k hk => by simp at hk⟩;rw [List.take_add_one, List.getElem?_eq_getElem ha, List.mem_append] at hfa;rcases hfa with g | g
 ·exact h.cls a ham hqa g
 have g : a.from_ = out[at_] := by simpa using g
 obtain ⟨i, hi, rfl⟩ := List.getElem_of_mem ham;have := hin _ ham;unfold ArIn at this;refine h.cur ha i ?_ hi hqa;rw [List.take_of_length_le hp, fromE_next, List.mem_filter, decide_eq_true_eq, arAt_nat hi];exact ⟨List.mem_range.2 hi, by rw [g]⟩
theorem BfB.end_ {L : List Ar} {q : Ar → Bool} {S : Nat → Prop} {n : Nat} {out : List Int} (h : BfB L q S n out out.length 0) : setP out = reaL (ArR L q) S n := by
 have hs := setP_srtd out;refine reaL_eq hs.1 (fun x hx => h.inn x ((hs.2 x).1 hx)) (fun v hv => (hs.2 _).2 (h.bas v hv)) fun u v hu ⟨a, ha, hq, h1, h2⟩ => ?_
 rw [hs.2] at hu ⊢;rw [← h2];refine h.cls a ha hq ?_;rw [List.take_length, h1];exact hu
theorem BfB.start {c : SG} {x : Lab} {q : Ar → Bool} (hin : ∀ a, a ∈ c.arcs → ArIn c.codes.length a) : BfB c.arcs q (blkS c x) c.codes.length (swL c x) 0 0 := by
 refine ⟨srtd_nodup (setP_srtd _).1, fun t ht => ?_, fun v ⟨a, h1, h2, h3⟩ => swL_mem.2 ⟨a, h1, h2, h3⟩, Nat.zero_le _, fun a _ _ h => by simp at h, fun h i hi => by simp at hi⟩;obtain ⟨a, h1, h2, rfl⟩ := swL_mem.1 ht;have := hin a h1;unfold ArIn at this;exact ⟨a.to_.toNat, by omega, by omega, .base ⟨a, h1, h2, by omega⟩⟩
def hgR (L : List Ar) (set : List Int) (u v : Nat) : Prop := ((u : Int) ∈ set ∧ (v : Int) ∈ set) ∧ ∃ a, a ∈ L ∧ ((a.from_ = (u : Int) ∧ a.to_ = (v : Int)) ∨ (a.from_ = (v : Int) ∧ a.to_ = (u : Int)))
theorem hgR_symm {L : List Ar} {set : List Int} {u v : Nat} (h : hgR L set u v) : hgR L set v u := ⟨⟨h.1.2, h.1.1⟩, by obtain ⟨a, ha, h⟩ := h.2; exact ⟨a, ha, h.symm⟩⟩
abbrev Cmp (L : List Ar) (set : List Int) (k v : Nat) : Prop := Rch (hgR L set) (fun x => x = k) v
theorem Cmp.refl (L : List Ar) (set : List Int) (k : Nat) : Cmp L set k k := .base rfl
theorem Cmp.trans {L : List Ar} {set : List Int} {k v w : Nat} (h : Cmp L set k v) (g : Cmp L set v w) : Cmp L set k w := by
 induction g with
 | base e => subst e; exact h
 | step _ hr ih => exact .step ih hr
theorem Cmp.one {L : List Ar} {set : List Int} {k v : Nat} (h : hgR L set k v) : Cmp L set k v := .step (.base rfl) h
theorem Cmp.symm {L : List Ar} {set : List Int} {k v : Nat} (h : Cmp L set k v) : Cmp L set v k := by
 induction h with
 | base e => subst e; exact .base rfl
 | step _ hr ih => exact Cmp.trans (Cmp.one (hgR_symm hr)) ih
theorem Cmp.mem {L : List Ar} {set : List Int} {k v : Nat} (h : Cmp L set k v) (hk : (k : Int) ∈ set) : (v : Int) ∈ set := by
 cases h with
 | base e => subst e; exact hk
 | step _ hr => exact hr.1.2
noncomputable def cmpL (L : List Ar) (set : List Int) (n k : Nat) : List Int := reaL (hgR L set) (fun x => x = k) n
def LeastC (L : List Ar) (set : List Int) (m : Nat) : Prop := ∀ v, Cmp L set m v → m ≤ v
noncomputable def leastB (L : List Ar) (set : List Int) (m : Nat) : Bool := @decide (LeastC L set m) (Classical.propDecidable _)
theorem leastB_iff {L : List Ar} {set : List Int} {m : Nat} : leastB L set m = true ↔ LeastC L set m := @decide_eq_true_iff _ (Classical.propDecidable _)
noncomputable def grpL (L : List Ar) (set : List Int) (n : Nat) : List (List Int) := (set.filter fun x => leastB L set x.toNat).map fun x => cmpL L set n x.toNat
theorem least_ex {L : List Ar} {set : List Int} : ∀ (k : Nat), ∃ m, Cmp L set k m ∧ LeastC L set m := by
 intro k
 induction k using Nat.strongRecOn with
 | _ k ih =>
  by_cases h : LeastC L set k
  ·exact ⟨k, Cmp.refl _ _ _, h⟩
  unfold LeastC at h;have ⟨v, hv⟩ := Classical.not_forall.1 h;have ⟨h1, h2⟩ := Classical.not_imp.1 hv;obtain ⟨m, g1, g2⟩ := ih v (by omega);exact ⟨m, h1.trans g1, g2⟩
theorem least_uniq {L : List Ar} {set : List Int} {a b : Nat} (h : Cmp L set a b) (ha : LeastC L set a) (hb : LeastC L set b) : a = b := by
 have h1 := ha b h;have h2 := hb a h.symm;omega
def ofN (o : List Int) (v : Nat) : Int := o.getD v 0
theorem ofN_set {o : List Int} {i j : Nat} {x : Int} (h : i < o.length) : ofN (o.set i x) j = if j = i then x else ofN o j := by
 unfold ofN;rw [List.getD_eq_getElem?_getD, List.getElem?_set, List.getD_eq_getElem?_getD]
 by_cases e : i = j
 ·subst e; simp [h]
 rw [if_neg e, if_neg (fun q => e q.symm)]
theorem cnt_set_eq : ∀ {o : List Int} {i : Nat} {x m : Int}, i < o.length → (ofN o i = m ↔ x = m) → (o.set i x).count m = o.count m
 | [], i, x, m, h, _ => by simp at h
 | y :: o, 0, x, m, _, h => by
  have h : y = m ↔ x = m := h;rw [List.set_cons_zero, List.count_cons, List.count_cons]
  by_cases e : x = m
  ·simp [e, h.2 e]
  have e2 : ¬ y = m := fun q => e (h.1 q)
  simp [e, e2]
 | y :: o, i + 1, x, m, hl, h => by
  rw [List.set_cons_succ, List.count_cons, List.count_cons, cnt_set_eq (o := o) (i := i) (by simpa using hl) h]
theorem cnt_set_new : ∀ {o : List Int} {i : Nat} {m : Int}, i < o.length → ¬ ofN o i = m → (o.set i m).count m = o.count m + 1
 | [], i, m, h, _ => by simp at h
 | y :: o, 0, m, _, h => by
  have h : ¬ y = m := h;rw [List.set_cons_zero, List.count_cons, List.count_cons];simp [h]
 | y :: o, i + 1, m, hl, h => by
  rw [List.set_cons_succ, List.count_cons, List.count_cons, cnt_set_new (o := o) (i := i) (by simpa using hl) h];omega
structure OfI (L : List Ar) (set : List Int) (n d j : Nat) (o : List Int) : Prop where
 len : o.length = n
 rch : ∀ v, v < n → ∃ u : Nat, ofN o v = (u : Int) ∧ Cmp L set v u
 slf : ∀ m : Nat, m < n → LeastC L set m → ofN o m = (m : Int)
 prg : ∀ m : Nat, m < n → (m : Int) ∈ set → LeastC L set m →
  (∀ u v : Nat, hgR L set u v → ofN o u = (m : Int) → ofN o v = (m : Int)) ∨ d + 2 ≤ o.count (m : Int) ∨
   (d + 1 ≤ o.count (m : Int) ∧ ∀ i (hi : i < L.length), i < j → L[i].from_ ∈ set → L[i].to_ ∈ set → (ofN o L[i].from_.toNat = (m : Int) ∨ ofN o L[i].to_.toNat = (m : Int)) → ofN o L[i].from_.toNat = (m : Int) ∧ ofN o L[i].to_.toNat = (m : Int))
theorem OfI.start {L : List Ar} {set : List Int} {n : Nat} : OfI L set n 0 0 (nI (List.range n)) := by
 have hg : ∀ v, v < n → ofN (nI (List.range n)) v = (v : Int) := fun v hv => by
  unfold ofN nI;rw [List.getD_eq_getElem?_getD, List.getElem?_map, List.getElem?_range hv]; rfl
 refine ⟨by rw [nI_len, List.length_range], fun v hv => ⟨v, hg v hv, Cmp.refl _ _ _⟩, fun m hm _ => hg m hm, fun m hm _ _ => .inr (.inr ⟨?_, fun i _ hi => absurd hi (Nat.not_lt_zero _)⟩)⟩;have : (m : Int) ∈ nI (List.range n) := List.mem_map.2 ⟨m, List.mem_range.2 hm, rfl⟩;have := List.count_pos_iff.2 this;omega
theorem OfI.no {L : List Ar} {set : List Int} {n d j : Nat} {o : List Int} (h : OfI L set n d j o) (hj : j < L.length) (hq : ¬ (L[j].from_ ∈ set ∧ L[j].to_ ∈ set)) : OfI L set n d (j + 1) o := by
 refine ⟨h.len, h.rch, h.slf, fun m h1 h2 h3 => ?_⟩;rcases h.prg m h1 h2 h3 with g | g | ⟨g1, g2⟩
 ·exact .inl g
 ·exact .inr (.inl g)
 refine .inr (.inr ⟨g1, fun i hi hij q1 q2 => ?_⟩);rcases Nat.lt_succ_iff_lt_or_eq.1 hij with g3 | rfl
 ·exact g2 i hi g3 q1 q2
 exact absurd ⟨q1, q2⟩ hq
theorem OfI.yes {L : List Ar} {set : List Int} {n d j : Nat} {o : List Int} (h : OfI L set n d j o) (hj : j < L.length) (hf : L[j].from_ ∈ set) (ht : L[j].to_ ∈ set) (ha : ArIn n L[j]) {f t : Nat} (ef : L[j].from_ = (f : Int)) (et : L[j].to_ = (t : Int)) {x : Int} (hx : x = ofN o f ∧ x ≤ ofN o t ∨ x = ofN o t ∧ x ≤ ofN o f) : OfI L set n d (j + 1) ((o.set f x).set t x) := by
 unfold ArIn at ha;have hl := h.len;have hfn : f < n := by omega
 have htn : t < n := by omega
 have hR : hgR L set f t := ⟨⟨ef ▸ hf, et ▸ ht⟩, L[j], List.getElem_mem hj, .inl ⟨ef, et⟩⟩
 have hget : ∀ v, ofN ((o.set f x).set t x) v = if v = f ∨ v = t then x else ofN o v := fun v => by
  rw [ofN_set (by rw [List.length_set]; omega), ofN_set (by omega)]
  by_cases e1 : v = t
  ·rw [if_pos e1, if_pos (.inr e1)]
  rw [if_neg e1]
  by_cases e2 : v = f
  ·rw [if_pos e2, if_pos (.inl e2)]
  rw [if_neg e2, if_neg (by rintro (q | q); exact e2 q; exact e1 q)]
 obtain ⟨uf, huf, hcf⟩ := h.rch f hfn;obtain ⟨ut, hut, hct⟩ := h.rch t htn
 -- a least state that either end has is the new number
 have hmin : ∀ m : Nat, LeastC L set m → (ofN o f = (m : Int) ∨ ofN o t = (m : Int)) → x = (m : Int) := by
  intro m hm hq
  have key : Cmp L set m uf ∧ Cmp L set m ut := by
   rcases hq with q | q
   ·have e : uf = m := by omega
    subst e;exact ⟨Cmp.refl _ _ _, (hcf.symm.trans (Cmp.one hR)).trans hct⟩
   have e : ut = m := by omega
   subst e;exact ⟨(hct.symm.trans (Cmp.one (hgR_symm hR))).trans hcf, Cmp.refl _ _ _⟩
  have h1 := hm _ key.1;have h2 := hm _ key.2;rcases hx with ⟨e, g⟩ | ⟨e, g⟩ <;> rcases hq with q | q <;> omega
 have hback : ∀ m : Nat, x = (m : Int) → (ofN o f = (m : Int) ∨ ofN o t = (m : Int)) := fun m e => by rcases hx with ⟨g, _⟩ | ⟨g, _⟩ <;> omega
 refine ⟨by rw [List.length_set, List.length_set]; exact hl, fun v hv => ?_, fun m hm hL => ?_, fun m h1 h2 h3 => ?_⟩
 ·rw [hget]
  split
  ·rename_i q;rcases hx with ⟨e, _⟩ | ⟨e, _⟩
   ·refine ⟨uf, by omega, ?_⟩;rcases q with rfl | rfl
    ·exact hcf
    exact (Cmp.one (hgR_symm hR)).trans hcf
   refine ⟨ut, by omega, ?_⟩;rcases q with rfl | rfl
   ·exact (Cmp.one hR).trans hct
   exact hct
  exact h.rch v hv
 ·rw [hget]
  split
  ·rename_i q;refine hmin m hL ?_;have := h.slf m hm hL;rcases q with rfl | rfl
   ·exact .inl this
   exact .inr this
  exact h.slf m hm hL
 by_cases hq : ofN o f = (m : Int) ∨ ofN o t = (m : Int)
 ·have hxm := hmin m h3 hq;subst hxm
  by_cases hb : ofN o f = (m : Int) ∧ ofN o t = (m : Int)
  ·-- nothing changes
   have hsame : ∀ v, ofN ((o.set f (m : Int)).set t (m : Int)) v = ofN o v := fun v => by
    rw [hget]
    split
    ·rename_i q;rcases q with rfl | rfl
     ·exact hb.1.symm
     exact hb.2.symm
    rfl
   have hcnt : ((o.set f (m : Int)).set t (m : Int)).count (m : Int) = o.count (m : Int) := by
    rw [cnt_set_eq (by rw [List.length_set]; omega), cnt_set_eq (by omega)]
    ·rw [hb.1]
    rw [ofN_set (by omega)]
    split
    ·simp
    rw [hb.2]
   rw [hcnt];simp only [hsame];rcases h.prg m h1 h2 h3 with g | g | ⟨g1, g2⟩
   ·exact .inl g
   ·exact .inr (.inl g)
   refine .inr (.inr ⟨g1, fun i hi hij q1 q2 q3 => ?_⟩);rcases Nat.lt_succ_iff_lt_or_eq.1 hij with g3 | rfl
   ·exact g2 i hi g3 q1 q2 q3
   rw [ef, et, Int.toNat_natCast, Int.toNat_natCast]; exact hb
  -- one more
  have hcnt : ((o.set f (m : Int)).set t (m : Int)).count (m : Int) = o.count (m : Int) + 1 := by
   by_cases q1 : ofN o f = (m : Int)
   ·have q2 : ¬ ofN o t = (m : Int) := fun g => hb ⟨q1, g⟩
    have hne : t ≠ f := by rintro rfl; exact q2 q1
    rw [cnt_set_new (by rw [List.length_set]; omega) (by rw [ofN_set (by omega), if_neg hne]; exact q2), cnt_set_eq (by omega) (by rw [q1])]
   have q2 : ofN o t = (m : Int) := hq.resolve_left q1;rw [cnt_set_eq (by rw [List.length_set]; omega) (by rw [ofN_set (by omega)]; split; simp; rw [q2]), cnt_set_new (by omega) q1]
  rw [hcnt];rcases h.prg m h1 h2 h3 with g | g | ⟨g1, _⟩
  ·exfalso;rcases hq with q | q
   ·exact hb ⟨q, g f t hR q⟩
   exact hb ⟨g t f (hgR_symm hR) q, q⟩
  ·exact .inr (.inl (by omega))
  exact .inr (.inl (by omega))
 -- the marks of m stay as they are
 have hxm : ¬ x = (m : Int) := fun e => hq (hback m e)
 have hsame : ∀ v, ofN ((o.set f x).set t x) v = (m : Int) ↔ ofN o v = (m : Int) := fun v => by
  rw [hget]
  split
  ·rename_i q;rcases q with rfl | rfl
   ·exact ⟨fun e => absurd e hxm, fun e => absurd (.inl e) hq⟩
   exact ⟨fun e => absurd e hxm, fun e => absurd (.inr e) hq⟩
  exact Iff.rfl
 have hcnt : ((o.set f x).set t x).count (m : Int) = o.count (m : Int) := by
  rw [cnt_set_eq (by rw [List.length_set]; omega), cnt_set_eq (by omega)]
  ·exact ⟨fun e => absurd (.inl e) hq, fun e => absurd e hxm⟩
  rw [ofN_set (by omega)]
  split
  ·exact Iff.rfl
  exact ⟨fun e => absurd (.inr e) hq, fun e => absurd e hxm⟩
 rw [hcnt];simp only [hsame];rcases h.prg m h1 h2 h3 with g | g | ⟨g1, g2⟩
 ·exact .inl g
 ·exact .inr (.inl g)
 refine .inr (.inr ⟨g1, fun i hi hij q1 q2 q3 => ?_⟩);rcases Nat.lt_succ_iff_lt_or_eq.1 hij with g3 | rfl
 ·exact g2 i hi g3 q1 q2 q3
 rw [ef, et, Int.toNat_natCast, Int.toNat_natCast] at q3;exact absurd q3 hq
theorem OfI.next {L : List Ar} {set : List Int} {n d j : Nat} {o : List Int} (h : OfI L set n d j o) (hj : j = L.length) : OfI L set n (d + 1) 0 o := by
 refine ⟨h.len, h.rch, h.slf, fun m h1 h2 h3 => ?_⟩;rcases h.prg m h1 h2 h3 with g | g | ⟨g1, g2⟩
 ·exact .inl g
 ·exact .inr (.inr ⟨by omega, fun i _ hi => absurd hi (Nat.not_lt_zero _)⟩)
 refine .inl fun u v ⟨⟨q1, q2⟩, a, ha, hq⟩ he => ?_
 obtain ⟨i, hi, rfl⟩ := List.getElem_of_mem ha;rcases hq with ⟨e1, e2⟩ | ⟨e1, e2⟩
 ·have := g2 i hi (by omega) (e1 ▸ q1) (e2 ▸ q2) (.inl (by rw [e1, Int.toNat_natCast]; exact he));have := this.2
  rwa [e2, Int.toNat_natCast] at this
 have := g2 i hi (by omega) (e1 ▸ q2) (e2 ▸ q1) (.inr (by rw [e2, Int.toNat_natCast]; exact he));have := this.1
 rwa [e1, Int.toNat_natCast] at this
theorem cnt_le {L : List Ar} {set : List Int} {n : Nat} {o : List Int} (hl : o.length = n) (hr : ∀ v, v < n → ∃ u : Nat, ofN o v = (u : Int) ∧ Cmp L set v u) (hs : set.Nodup) (hin : ∀ x, x ∈ set → 0 ≤ x ∧ x < n) {m : Nat} (hm : (m : Int) ∈ set) : o.count (m : Int) ≤ set.length := by
 -- the states that have m, each once, lie in the set
 have h1 : ((List.range n).filter fun v => decide (ofN o v = (m : Int))).length = o.count (m : Int) := by
  have e : o = (List.range n).map (ofN o) := by
   refine List.ext_getElem (by rw [List.length_map, List.length_range, hl]) fun i h1 h2 => ?_
   rw [List.getElem_map, List.getElem_range];unfold ofN;rw [List.getD_eq_getElem?_getD, List.getElem?_eq_getElem h1]; rfl
  conv => rhs; rw [e]
  rw [List.count_eq_countP, List.countP_map, List.countP_eq_length_filter];congr 1
 rw [← h1];have h2 := nodup_len set (nI ((List.range n).filter fun v => decide (ofN o v = (m : Int)))) ?_ ?_
 ·rwa [nI_len] at h2
 ·exact srtd_nodup (List.Pairwise.sublist (List.Sublist.map _ (List.filter_sublist (l := List.range n))) (range_srtd n))
 intro x hx;obtain ⟨v, hv, rfl⟩ := List.mem_map.1 hx;rw [List.mem_filter, List.mem_range, decide_eq_true_eq] at hv;obtain ⟨u, hu, hc⟩ := hr v hv.1;have e : u = m := by omega
 subst e;exact hc.symm.mem hm
theorem OfI.end_ {L : List Ar} {set : List Int} {n : Nat} {o : List Int} (h : OfI L set n set.length 0 o) (hs : srtd set) (hin : ∀ x, x ∈ set → 0 ≤ x ∧ x < n) {k x : Nat} (hk : (k : Int) ∈ set) (hx : (x : Int) ∈ set) : (ofN o k = (k : Int) ∧ ofN o x = (k : Int)) ↔ (LeastC L set k ∧ Cmp L set k x) := by
 have hkn := (hin _ hk).2;have hxn := (hin _ hx).2
 have cl : ∀ m : Nat, m < n → (m : Int) ∈ set → LeastC L set m → ∀ u v : Nat, hgR L set u v → ofN o u = (m : Int) → ofN o v = (m : Int) := fun m h1 h2 h3 => by
  have hc := cnt_le h.len h.rch (srtd_nodup hs) hin h2;rcases h.prg m h1 h2 h3 with g | g | ⟨g, _⟩
  ·exact g
  ·omega
  omega
 have full : ∀ m : Nat, m < n → (m : Int) ∈ set → LeastC L set m → ∀ v, Cmp L set m v → ofN o v = (m : Int) := fun m h1 h2 h3 v hv => by
  induction hv with
  | base e => subst e; exact h.slf _ h1 h3
  | step _ hr ih => exact cl m h1 h2 h3 _ _ hr ih
 constructor
 ·rintro ⟨h1, h2⟩;obtain ⟨m, g1, g2⟩ := least_ex (L := L) (set := set) k;have hm := g1.mem hk;have := full m (by have := (hin _ hm).2; omega) hm g2 k g1.symm;have e : m = k := by omega
  subst e;refine ⟨g2, ?_⟩;obtain ⟨u, hu, hc⟩ := h.rch x (by omega);have e : u = m := by omega
  subst e;exact hc.symm
 rintro ⟨h1, h2⟩;exact ⟨full k (by omega) hk h1 k (Cmp.refl _ _ _), full k (by omega) hk h1 x h2⟩
theorem cmpL_mem {L : List Ar} {set : List Int} {n k : Nat} {x : Int} : x ∈ cmpL L set n k ↔ ∃ v : Nat, x = (v : Int) ∧ v < n ∧ Cmp L set k v := reaL_mem
structure GrI (L : List Ar) (set : List Int) (n : Nat) (H : List Int) (left : List Int) : Prop where
 srt : srtd H
 hin : ∀ x, x ∈ H → ∃ v : Nat, x = (v : Int) ∧ (v : Int) ∈ set ∧ LeastC L set v
 lft : ∀ x : Int, x ∈ left ↔ (x ∈ set ∧ ∀ h : Nat, (h : Int) ∈ H → ¬ Cmp L set h x.toNat)
 lsr : srtd left
 low : ∀ h x, h ∈ H → x ∈ left → h < x
theorem GrI.start {L : List Ar} {set : List Int} {n : Nat} (hs : srtd set) : GrI L set n [] set := ⟨List.Pairwise.nil, fun x h => (by cases h), fun x => (by simp), hs, fun h x q => (by cases q)⟩
theorem GrI.head {L : List Ar} {set : List Int} {n : Nat} {H left : List Int} (h : GrI L set n H left) (hin : ∀ x, x ∈ set → 0 ≤ x ∧ x < n) {k : Nat} {r : List Int} (hl : left = (k : Int) :: r) : (k : Int) ∈ set ∧ LeastC L set k := by
 have hk : (k : Int) ∈ left := by rw [hl]; exact List.mem_cons_self
 have hks := ((h.lft _).1 hk);refine ⟨hks.1, fun v hv => ?_⟩
 have hvl : (v : Int) ∈ left := (h.lft _).2 ⟨hv.mem hks.1, fun g hg hc => by
  rw [Int.toNat_natCast] at hc;refine hks.2 g hg ?_;rw [Int.toNat_natCast]
  exact hc.trans hv.symm⟩
 rw [hl] at hvl;have hsr := h.lsr;rw [hl] at hsr;rcases List.mem_cons.1 hvl with e | e
 ·omega
 have := (List.pairwise_cons.1 hsr).1 _ e;omega
theorem GrI.next {L : List Ar} {set : List Int} {n : Nat} {H left : List Int} (h : GrI L set n H left) (hin : ∀ x, x ∈ set → 0 ≤ x ∧ x < n) {k : Nat} {r : List Int} (hl : left = (k : Int) :: r) : GrI L set n (H ++ [(k : Int)]) (left.filter fun x => !decide (x ∈ cmpL L set n k)) := by
 obtain ⟨hks, hkl⟩ := h.head hin hl;have hkm : (k : Int) ∈ left := by rw [hl]; exact List.mem_cons_self
 have hx2 : ∀ x : Int, x ∈ set → (x ∈ cmpL L set n k ↔ Cmp L set k x.toNat) := fun x hx => by
  have hb := hin x hx;rw [cmpL_mem];constructor
  ·rintro ⟨v, rfl, _, hc⟩; rw [Int.toNat_natCast]; exact hc
  intro hc; exact ⟨x.toNat, by omega, by omega, hc⟩
 refine ⟨?_, ?_, fun x => ?_, List.Pairwise.sublist (List.filter_sublist) h.lsr, ?_⟩
 ·unfold srtd;rw [List.pairwise_append];refine ⟨h.srt, List.pairwise_singleton _ _, fun a ha b hb => ?_⟩;obtain rfl := List.mem_singleton.1 hb;exact h.low a _ ha hkm
 ·intro x hx;rcases List.mem_append.1 hx with q | q
  ·exact h.hin x q
  obtain rfl := List.mem_singleton.1 q;exact ⟨k, rfl, hks, hkl⟩
 ·rw [List.mem_filter, h.lft, Bool.not_eq_true', decide_eq_false_iff_not];constructor
  ·rintro ⟨⟨q1, q2⟩, q3⟩;refine ⟨q1, fun g hg hc => ?_⟩;rcases List.mem_append.1 hg with q | q
   ·exact q2 g q hc
   have e : g = k := by have := List.mem_singleton.1 q; omega
   subst e;exact q3 ((hx2 x q1).2 hc)
  rintro ⟨q1, q2⟩;exact ⟨⟨q1, fun g hg => q2 g (List.mem_append.2 (.inl hg))⟩, fun q => q2 k (List.mem_append.2 (.inr (List.mem_singleton.2 rfl))) ((hx2 x q1).1 q)⟩
 intro a x ha hx;have hx := (List.mem_filter.1 hx);rcases List.mem_append.1 ha with q | q
 ·exact h.low a x q hx.1
 obtain rfl := List.mem_singleton.1 q;have hsr := h.lsr;have hx1 := hx.1;rw [hl] at hsr hx1;rcases List.mem_cons.1 hx1 with e | e
 ·exfalso;subst e;have := hx.2;rw [Bool.not_eq_true', decide_eq_false_iff_not, hx2 _ hks, Int.toNat_natCast] at this;exact this (Cmp.refl _ _ _)
 exact (List.pairwise_cons.1 hsr).1 _ e
theorem GrI.end_ {L : List Ar} {set : List Int} {n : Nat} {H : List Int} (h : GrI L set n H []) (hs : srtd set) (hin : ∀ x, x ∈ set → 0 ≤ x ∧ x < n) : H.map (fun x => cmpL L set n x.toNat) = grpL L set n := by
 unfold grpL;congr 1;refine srtd_ext h.srt (List.Pairwise.sublist (List.filter_sublist) hs) fun x => ?_
 rw [List.mem_filter, leastB_iff];constructor
 ·intro hx;obtain ⟨v, rfl, h1, h2⟩ := h.hin x hx;exact ⟨h1, by rw [Int.toNat_natCast]; exact h2⟩
 rintro ⟨h1, h2⟩;have hb := hin x h1;have hn : ¬ x ∈ ([] : List Int) := fun q => by cases q
 rw [h.lft] at hn;have ⟨g, hg⟩ := Classical.not_forall.1 (fun q => hn ⟨h1, q⟩);have ⟨g1, g2⟩ := Classical.not_imp.1 hg;have g2 := Classical.not_not.1 g2;obtain ⟨v, e, _, hl⟩ := h.hin _ g1;have e : g = v := by omega
 subst e;have := least_uniq g2 hl h2;rw [show x = (g : Int) by omega];exact g1
section
variable {P : Program} [PT P] {C : Ctx} {s : ASt}
theorem Weak.freezeCS (i k : Nat) {id0 id n e sz tt : Nat} {cs : List AV} {els els' : List (List DV)} (hs : s.get i = .own id n) (hc0 : s.chunk id0 = some (.cells tt cs)) (hk : cs[k]? = some (.own id n)) (hc : s.chunk id = some (.arr e sz els)) (hn : n ≤ els.length) (he : els.take n = els') (hnb : Nat.beq id0 id = false) : Weak C s { n := s.n, nx := s.nx, sl := (i, .d (.view e sz els')) :: s.sl, ch := (id0, some (.cells tt (cs.set k (.d (.view e sz els'))))) :: (id, none) :: s.ch } := by
 subst he;have hne : id0 ≠ id := Nat.ne_of_beq_eq_false hnb;refine ⟨?_⟩;rintro a w ⟨m, hR⟩
 have hch : ∀ j c, (getL j ((id0, some (.cells tt (cs.set k (.d (.view e sz (els.take n)))))) :: (id, none) :: s.ch)).getD none = some c → (j = id0 ∧ c = .cells tt (cs.set k (.d (.view e sz (els.take n))))) ∨ (j ≠ id0 ∧ j ≠ id ∧ s.chunk j = some c) := by
  intro j c h;rw [getL_cons] at h
  split at h
  ·rename_i e; simp at h; exact .inl ⟨e, h.symm⟩
  rename_i e;rw [getL_cons] at h
  split at h
  ·simp at h
  rename_i e'; exact .inr ⟨e, e', h⟩
 have hF : ∀ q, Fz C m s w q → Fz C m { n := s.n, nx := s.nx, sl := (i, .d (.view e sz (els.take n))) :: s.sl, ch := (id0, some (.cells tt (cs.set k (.d (.view e sz (els.take n)))))) :: (id, none) :: s.ch } w q := by
  intro q hq;refine ⟨hq.1, hq.2.1, fun j c p h1 h2 h3 => ?_⟩;rcases hch j c h1 with ⟨rfl, rfl⟩ | ⟨_, _, h⟩
  ·exact hq.2.2 j _ p hc0 h2 (.inl h3.one_cells)
  exact hq.2.2 j c p h h2 h3
 have old : ∀ j c, (getL j ((id0, some (.cells tt (cs.set k (.d (.view e sz (els.take n)))))) :: (id, none) :: s.ch)).getD none = some c → j ≠ id ∧ ∃ c0, s.chunk j = some c0 ∧ ∀ p b, occ p c b → occ p c0 b := by
  intro j c h;rcases hch j c h with ⟨rfl, rfl⟩ | ⟨_, h1, h2⟩
  ·exact ⟨hne, _, hc0, fun _ b hb => .inl hb.one_cells⟩
  exact ⟨h1, _, h2, fun _ _ h => h⟩
 obtain ⟨q, hq, hCq, hloc⟩ := hR.ch id _ hc
 have hFb : ∀ b, q.1 = some b → Fz C m { n := s.n, nx := s.nx, sl := (i, .d (.view e sz (els.take n))) :: s.sl, ch := (id0, some (.cells tt (cs.set k (.d (.view e sz (els.take n)))))) :: (id, none) :: s.ch } w b := by
  intro b hb;refine ⟨.inr (hloc b (.inl hb)), hCq.lt (.inl hb), fun j c p h1 h2 h3 => ?_⟩;obtain ⟨hj, c0, h4, h5⟩ := old j c h1;exact hj (hR.inj j id c0 _ p q h4 hc h2 hq b (h5 _ _ h3) (.inl hb))
 refine ⟨m, hR.fr, hR.fin, hR.sz, fun j => ?_, fun j c h1 => ?_, fun j j' c c' p p' h1 h2 hp hp' b hb hb' => ?_, hR.un, hR.defers, hR.m0, hR.m0k⟩
 ·show ARep _ _ _ ((getL j ((i, .d (.view e sz (els.take n))) :: s.sl)).getD .dead) _;rw [getL_cons]
  by_cases hj : j = i
  ·subst hj;rw [if_pos rfl];have hv := hR.sl j;rw [hs] at hv;exact .d (own_view hv hq (hR.chunkAt hc hq) hn hF hFb)
  rw [if_neg hj];exact (hR.sl j).turn (MLe.refl m) (fun k hk _ => ⟨hF k hk, rfl⟩)
 ·rcases hch j c h1 with ⟨rfl, rfl⟩ | ⟨_, _, h⟩
  ·obtain ⟨p, hp, hr, hl⟩ := hR.ch j _ hc0;refine ⟨p, hp, ?_, fun b hb => hl b (.inl hb.one_cells)⟩;cases hr with
   | cells g1 g2 g3 g4 =>
    refine .cells g1 (by simpa using g2) (fun i x hx => ?_) g4
    by_cases hik : k = i
    ·subst hik;rw [List.getElem?_set_self (List.getElem?_eq_some_iff.1 hk).1] at hx;simp only [Option.some.injEq] at hx;subst hx;exact .d (own_view (g3 k _ hk) hq (hR.chunkAt hc hq) hn hF hFb)
    rw [List.getElem?_set_ne hik] at hx;exact (g3 i x hx).turn (MLe.refl m) (fun k hk _ => ⟨hF k hk, rfl⟩)
  obtain ⟨p, hp, hr, hl⟩ := hR.ch j c h;exact ⟨p, hp, hr.turn (MLe.refl m) (fun k hk _ => ⟨hF k hk, rfl⟩) (fun _ _ => rfl), hl⟩
 obtain ⟨_, c0, g1, g2⟩ := old j c h1;obtain ⟨_, c0', g1', g2'⟩ := old j' c' h2;exact hR.inj j j' c0 c0' p p' g1 g1' hp hp' b (g2 _ _ hb) (g2' _ _ hb')
end
structure BfC (L : List Ar) (set : List Int) (n k : Nat) (out : List Int) (at_ q : Nat) : Prop where
 nd : out.Nodup
 inn : ∀ x, x ∈ out → ∃ v : Nat, x = (v : Int) ∧ v < n ∧ Cmp L set k v
 bas : (k : Int) ∈ out
 al : at_ ≤ out.length
 cls : ∀ a, a ∈ L → (a.from_ ∈ out.take at_ → a.to_ ∈ set → a.to_ ∈ out) ∧ (a.to_ ∈ out.take at_ → a.from_ ∈ set → a.from_ ∈ out)
 cur : ∀ (h : at_ < out.length) i (hi : i < L.length), (2 * i < q → L[i].from_ = out[at_] → L[i].to_ ∈ set → L[i].to_ ∈ out) ∧ (2 * i + 1 < q → L[i].to_ = out[at_] → L[i].from_ ∈ set → L[i].from_ ∈ out)
theorem BfC.start {L : List Ar} {set : List Int} {n k : Nat} (hk : k < n) : BfC L set n k [(k : Int)] 0 0 := by
 refine ⟨by simp, fun x hx => ?_, by simp, Nat.zero_le _, fun a _ => ⟨fun h => by simp at h, fun h => by simp at h⟩, fun h i hi => ⟨fun h => absurd h (Nat.not_lt_zero _), fun h => absurd h (Nat.not_lt_zero _)⟩⟩;obtain rfl := List.mem_singleton.1 hx;exact ⟨k, rfl, hk, Cmp.refl _ _ _⟩
theorem BfC.len {L : List Ar} {set : List Int} {n k at_ q : Nat} {out : List Int} (h : BfC L set n k out at_ q) : out.length ≤ n := by
 have := nodup_len (nI (List.range n)) out h.nd (fun x hx => by obtain ⟨v, rfl, hv, _⟩ := h.inn x hx; exact List.mem_map.2 ⟨v, List.mem_range.2 hv, rfl⟩)
 rwa [nI_len, List.length_range] at this
def pX (a : Ar) (p : Nat) : Int := if p = 0 then a.from_ else a.to_
def pY (a : Ar) (p : Nat) : Int := if p = 0 then a.to_ else a.from_
theorem BfC.no {L : List Ar} {set : List Int} {n k at_ i p : Nat} {out : List Int} (h : BfC L set n k out at_ (2 * i + p)) (ha : at_ < out.length) (hi : i < L.length) (hp : p < 2) (hq : pX L[i] p = out[at_] → pY L[i] p ∈ set → pY L[i] p ∈ out) : BfC L set n k out at_ (2 * i + (p + 1)) := by
 refine ⟨h.nd, h.inn, h.bas, h.al, h.cls, fun h1 j hj => ?_⟩;have hc := h.cur h1 j hj;constructor
 ·intro g1 g2 g3
  by_cases e : 2 * j < 2 * i + p
  ·exact hc.1 e g2 g3
  have e1 : j = i := by omega
  have e2 : p = 0 := by omega
  subst e1; subst e2;exact hq g2 g3
 intro g1 g2 g3
 by_cases e : 2 * j + 1 < 2 * i + p
 ·exact hc.2 e g2 g3
 have e1 : j = i := by omega
 have e2 : p = 1 := by omega
 subst e1; subst e2;exact hq g2 g3
theorem BfC.yes {L : List Ar} {set : List Int} {n k at_ i p : Nat} {out : List Int} (h : BfC L set n k out at_ (2 * i + p)) (ha : at_ < out.length) (hi : i < L.length) (hp : p < 2) (hks : (k : Int) ∈ set) (hA : ArIn n L[i]) (h1 : pX L[i] p = out[at_]) (h2 : pY L[i] p ∈ set) (h3 : ¬ pY L[i] p ∈ out) : BfC L set n k (out ++ [pY L[i] p]) at_ (2 * i + (p + 1)) := by
 unfold ArIn at hA;have hget : (out ++ [pY L[i] p])[at_]'(by rw [List.length_append]; omega) = out[at_] := List.getElem_append_left ha;obtain ⟨u, hu, hun, hr⟩ := h.inn _ (List.getElem_mem ha);have hus := hr.mem hks;refine ⟨?_, fun x hx => ?_, List.mem_append.2 (.inl h.bas), by have := h.al; rw [List.length_append]; omega, fun a ham => ?_, fun g0 j hj => ?_⟩
 ·rw [List.nodup_append];refine ⟨h.nd, by simp, fun a ha b hb => ?_⟩;rw [List.mem_singleton] at hb;rintro rfl;exact h3 (hb ▸ ha)
 ·rcases List.mem_append.1 hx with g | g
  ·exact h.inn x g
  rw [List.mem_singleton] at g;rw [hu] at h1;have hb : 0 ≤ pY L[i] p ∧ pY L[i] p < n := by unfold pY; split <;> omega
  refine ⟨(pY L[i] p).toNat, by omega, by omega, .step hr ⟨⟨hus, by rw [Int.toNat_of_nonneg hb.1]; exact h2⟩, L[i], List.getElem_mem hi, ?_⟩⟩
  by_cases e : p = 0
  ·subst e;have e1 : L[i].from_ = (u : Int) := h1;have e2 : pY L[i] 0 = L[i].to_ := rfl;exact .inl ⟨e1, by omega⟩
  have e0 : p = 1 := by omega
  subst e0;have e1 : L[i].to_ = (u : Int) := h1;have e2 : pY L[i] 1 = L[i].from_ := rfl;exact .inr ⟨by omega, e1⟩
 ·rw [List.take_append_of_le_length (by omega)];have := h.cls a ham;exact ⟨fun q1 q2 => List.mem_append.2 (.inl (this.1 q1 q2)), fun q1 q2 => List.mem_append.2 (.inl (this.2 q1 q2))⟩
 rw [hget];have hc := h.cur ha j hj;constructor
 ·intro g1 g2 g3
  by_cases e : 2 * j < 2 * i + p
  ·exact List.mem_append.2 (.inl (hc.1 e g2 g3))
  have e1 : j = i := by omega
  have e2 : p = 0 := by omega
  subst e1; subst e2;exact List.mem_append.2 (.inr (List.mem_singleton.2 rfl))
 intro g1 g2 g3
 by_cases e : 2 * j + 1 < 2 * i + p
 ·exact List.mem_append.2 (.inl (hc.2 e g2 g3))
 have e1 : j = i := by omega
 have e2 : p = 1 := by omega
 subst e1; subst e2;exact List.mem_append.2 (.inr (List.mem_singleton.2 rfl))
theorem BfC.next {L : List Ar} {set : List Int} {n k at_ : Nat} {out : List Int} {q : Nat} (h : BfC L set n k out at_ q) (ha : at_ < out.length) (hq : 2 * L.length ≤ q) : BfC L set n k out (at_ + 1) 0 := by
 refine ⟨h.nd, h.inn, h.bas, ha, fun a ham => ?_, fun h1 j hj => ⟨fun g => absurd g (Nat.not_lt_zero _), fun g => absurd g (Nat.not_lt_zero _)⟩⟩;obtain ⟨i, hi, rfl⟩ := List.getElem_of_mem ham;rw [List.take_add_one, List.getElem?_eq_getElem ha, List.mem_append, List.mem_append];have hc := h.cls _ ham;have hd := h.cur ha i hi;constructor
 ·rintro (g | g) g2
  ·exact hc.1 g g2
  exact hd.1 (by omega) (by simpa using g) g2
 rintro (g | g) g2
 ·exact hc.2 g g2
 exact hd.2 (by omega) (by simpa using g) g2
theorem BfC.end_ {L : List Ar} {set : List Int} {n k : Nat} {out : List Int} (h : BfC L set n k out out.length 0) : setP out = cmpL L set n k ∧ (setP out).length = out.length := by
 have hs := setP_srtd out;constructor
 ·refine reaL_eq hs.1 (fun x hx => h.inn x ((hs.2 x).1 hx)) (fun v hv => by subst hv; exact (hs.2 _).2 h.bas) fun u v hu ⟨⟨h1, h2⟩, a, ha, hq⟩ => ?_
  rw [hs.2] at hu ⊢;have hc := h.cls a ha;rw [List.take_length] at hc;rcases hq with ⟨e1, e2⟩ | ⟨e1, e2⟩
  ·rw [e1, e2] at hc; exact hc.1 hu h2
  rw [e1, e2] at hc; exact hc.2 hu h2
 refine Nat.le_antisymm ?_ ?_
 ·exact nodup_len _ _ (srtd_nodup hs.1) fun x hx => (hs.2 x).1 hx
 exact nodup_len _ _ h.nd fun x hx => (hs.2 x).2 hx
def exFT (c : SG) (x : Lab) (j : Nat) : List Int := ((c.arcs.take j).filter (isLb x)).map Ar.from_
def exFL (c : SG) (x : Lab) : List Int := setP (exFT c x c.arcs.length)
theorem exFT_succ {c : SG} {x : Lab} {j : Nat} (hj : j < c.arcs.length) : exFT c x (j + 1) = exFT c x j ++ (if isLb x c.arcs[j] = true then [c.arcs[j].from_] else []) := by
 unfold exFT;rw [filter_snoc _ hj, List.map_append];congr 1
 split <;> rfl
theorem exFT_len (c : SG) (x : Lab) (j : Nat) : (exFT c x j).length ≤ j := by
 unfold exFT;rw [List.length_map];have := List.length_filter_le (isLb x) (c.arcs.take j);rw [List.length_take] at this;omega
theorem exFL_mem {c : SG} {x : Lab} {t : Int} : t ∈ exFL c x ↔ ∃ a, a ∈ c.arcs ∧ isLb x a = true ∧ a.from_ = t := by
 unfold exFL exFT;rw [(setP_srtd _).2, List.take_length, List.mem_map];constructor
 ·rintro ⟨a, ha, rfl⟩;rw [List.mem_filter] at ha;exact ⟨a, ha.1, ha.2, rfl⟩
 rintro ⟨a, h1, h2, rfl⟩;exact ⟨a, List.mem_filter.2 ⟨h1, h2⟩, rfl⟩
theorem exFL_len (c : SG) (x : Lab) : (exFL c x).length ≤ c.arcs.length := Nat.le_trans (setP_len _) (exFT_len c x _)
set_option maxHeartbeats 4000000 in
theorem excitedI_spec (c : SG) (x : Lab) (hl : c.arcs.length ≤ 1000000) : ASpec Tryz.prog 57 [sgA c, labA x] [] (Pure1 (.d (vI (exFL c x)))) := by
 have hT := fun j (hj : j < c.arcs.length) => exFT_succ (x := x) hj
 have hTl := exFT_len c x;have hTd := tidy_spec (exFT c x c.arcs.length) (by have := hTl c.arcs.length; omega);have hR : exFL c x = setP (exFT c x c.arcs.length) := rfl;rw [← hR] at hTd;obtain ⟨K, hK⟩ := eqx (exFL c x);rw [← hK] at hTd ⊢;clear hR hK;refine ASpec.of Tryz.func57 rfl rfl fun C hC => ?_
 refine AC.seq (AC.region ?_);refine kD ?_;refine kD ?_;refine za ?_;refine AL.nil (th_n (AC.seq (AC.region ?_)));refine AL.q (by exact h_lit rfl rfl rfl rfl rfl rfl rfl rfl) rfl ?_;refine AL.p (by exact as2 rfl) rfl ?_;refine AL.nil (th_n (AC.seq (AC.seq (AC.region ?_))));refine zf ?_;refine zr ?_;refine kI c.arcs.length (arL_len _) ?_;refine zm ?_;refine AL.nil (th_n (AC.block ?_));refine AC.loop (ι := Nat) (fun j => ⟨28, 300, [(2, .d (.ref (sgD c))), (3, .d (.ref [dI x.sig, dT x.up])), (5, .own 100 (exFT c x j).length), (10, .d (vArs c.arcs)), (11, aI c.arcs.length), (12, aI j)], [(100, some (.arr 3 1 (ints (exFT c x j))))]⟩) (fun j => j ≤ c.arcs.length) (fun j => c.arcs.length - j) (0) ?_ (Nat.zero_le _) ?_
 ·exact zw [(100, _)] hC
 intro j hj;refine AC.seq (AC.region ?_);refine zc ?_;refine AL.nil (th_n (AC.seq ?_));refine AC.condD rfl (fun h0 => ?_) (fun h0 => ?_)
 ·refine AC.skip (th_n (AC.seq (AC.block (AC.seq ?_))));have hj1 : j < c.arcs.length := by omega
  have hget := arL_get hj1;have hTj := hT j hj1;have hTlj := hTl j;rw [isLb_dec] at hTj;obtain ⟨a, ha⟩ := eqx (c.arcs[j]);rw [← ha] at hget hTj;clear ha;have hLo := labelOfArc_spec a;obtain ⟨T, hTT⟩ := eqx (exFT c x j);rw [← hTT] at hTj hTlj ⊢;clear hTT;refine AC.region ?_;refine AL.p (by exact g_ia_view rfl rfl rfl rfl rfl (by rfl) (by assumption)) rfl ?_;refine kG ?_;refine kE ?_;refine zs ?_;refine AL.nil (th_n (AC.seq ?_));refine AC.drawn' mixed_ok [[], [0], [], [0,1,2]] (by decide) ?_;refine zd 0 [] 4 (by exact g_load_ptrN rfl rfl rfl rfl rfl) ?_;refine zh 1 [0] 4 (by exact h_pure en_labelOfArc rfl rfl (by repeat (first | exact rfl | exact DLead.same | refine ⟨_, _, rfl, ?_, ?_⟩ | refine ⟨_, rfl, ?_⟩)) hLo rfl) ?_;refine zd 2 [] 4 (by exact g_load_refN rfl rfl rfl rfl) ?_;refine zd 3 [0,1,2] 4 (by exact g_eqIB (r := decide (a.sig = x.sig ∧ a.up = x.up)) (by decide +kernel) rfl rfl rfl) ?_;refine zj 4 ?_;refine th_n ?_;refine AC.condD rfl (fun h1 => ?_) (fun h1 => ?_)
  ·refine AC.region ?_;refine kB ?_;refine zF ?_;refine zl ?_;refine AL.q (by exact h_litF rfl rfl rfl rfl rfl rfl rfl rfl) rfl ?_;refine AL.q (by exact h_appendI T [a.from_] (.own rfl rfl (ints_len _).symm) (.view rfl) (by rw [List.length_append]; simp only [List.length_cons, List.length_nil]; omega) (by simp)) rfl ?_;refine AL.p (by exact as2 rfl) rfl ?_;refine AL.nil (ib_n (th_n (AC.region ?_)));refine zA ?_;refine zm ?_;refine AL.nil (th_n ?_)
   (have q := ‹a.sig = x.sig ∧ a.up = x.up›; rw [decide_eq_true q, if_pos rfl] at hTj; exact ⟨j + 1, by omega, by omega, zw [(100, _)] hC (by rw [hTj]; repeat (first | exact True.intro | refine And.intro ?_ ?_ | exact DLead.same | exact rfl | refine ⟨_, rfl, ?_⟩)) (by rw [hTj]; repeat (first | exact True.intro | refine And.intro ?_ ?_ | exact rfl | refine ⟨_, _, rfl, rfl, ?_⟩))⟩)
  refine AC.skip (ib_n (th_n (AC.region ?_)));refine zA ?_;refine zm ?_;refine AL.nil (th_n ?_)
  (have q := ‹¬ (a.sig = x.sig ∧ a.up = x.up)›; rw [decide_eq_false q, if_neg (by decide), List.append_nil] at hTj; exact ⟨j + 1, by omega, by omega, zw [(100, 100)] hC (by rw [hTj]; repeat (first | exact True.intro | refine And.intro ?_ ?_ | exact DLead.same | exact rfl | refine ⟨_, rfl, ?_⟩)) (by rw [hTj]; repeat (first | exact True.intro | refine And.intro ?_ ?_ | exact rfl | refine ⟨_, _, rfl, rfl, ?_⟩))⟩)
 refine AC.exit (th_e (th_e (ib_y (th_n (AC.seq ?_)))));have hjj : j = c.arcs.length := by omega
 rw [hjj];refine AC.region ?_;refine kB ?_;refine kU [100] en_tidy hTd ?_;refine AL.p (by exact as2 rfl) rfl ?_;refine AL.nil (th_n ?_);refine AC.weak (Weak.freeze (i := 4) rfl rfl (Nat.le_of_eq (ints_len _).symm) (List.take_of_length_le (Nat.le_of_eq (ints_len _)))) ?_;refine AC.ret (bq_r ?_);exact ret1 rfl rfl
theorem en_excitedI : Enters Tryz.prog 57 := enters_of Tryz.func57 rfl rfl
theorem cloneO_spec (l : List Int) (hl : l.length ≤ 1000000) : ASpec Tryz.prog 118 [.d (vI l)] [] (Fun1 (.own 0 l.length) [(0, .arr 3 1 (ints l))]) := by
 refine ASpec.of Tryz.func118 rfl rfl fun C hC => ?_
 refine AC.seq (AC.region ?_);refine za ?_;refine AL.nil (th_n (AC.seq (AC.seq (AC.region ?_))));refine zm ?_;refine AL.eqNil (ht := rfl) (hx := rfl) rfl (fun b hb => ?_);refine AL.nil (th_n ?_);refine AC.condB rfl (fun h0 => ?_) (fun h0 => ?_)
 ·refine AC.seq (AC.region ?_);refine za ?_;refine AL.nil (th_n ?_);have e : l = [] := by have := hb h0; simpa [ints] using this
  subst e;refine AC.weak (Weak.nilOwn (i := 2) (e := 3) (sz := 1) rfl (by decide)) ?_;refine AC.ret (th_r (bq_r ?_));exact retN [(0, _)] rfl (by repeat (first | exact rfl | refine ⟨_, rfl, ?_⟩)) (by repeat (first | exact True.intro | refine And.intro ?_ ?_ | exact rfl | refine ⟨_, _, rfl, rfl, ?_⟩)) rfl rfl
 refine AC.skip (th_n (AC.seq (AC.region ?_)));refine AL.q (by exact h_lit rfl rfl rfl rfl rfl rfl rfl rfl) rfl ?_;refine zm ?_;refine AL.q (by exact h_appendI [] l (.own rfl rfl rfl) (.view rfl) (by simp; omega) (by simp)) rfl ?_;refine AL.p (by exact as2 rfl) rfl ?_;refine AL.nil (th_n (AC.ret (bq_r ?_)));exact retN [(0, _)] rfl (by repeat (first | exact rfl | refine ⟨_, rfl, ?_⟩)) (by repeat (first | exact True.intro | refine And.intro ?_ ?_ | exact rfl | refine ⟨_, _, rfl, rfl, ?_⟩)) rfl rfl
theorem delInt_spec (l : List Int) (hl : l.length ≤ 1000000) (g : FuncId) (ds : List DV) (hen : Enters Tryz.prog g) (p : Int → Bool) (hp : ∀ t, t ∈ l → ASpec Tryz.prog g (aI t :: ds.map .d) [] (Pure1 (aT (p t)))) :
  ASpec Tryz.prog 119 [.own 0 l.length, .clo g (ds.map .d)] [(0, .arr 3 1 (ints l))] (Fun1 (.own 0 (l.filter fun x => !p x).length) [(0, .arr 3 1 (ints (l.filter fun x => !p x)))]) := by
 have hIf := indexInt_spec l (by omega) g ds hen p hp;have hor := findI_or p l;obtain ⟨F, hF⟩ := eqx (findI p l);rw [← hF] at hIf hor;have hFb : -1 ≤ F ∧ F ≤ 1000000 := by rcases hor with ⟨e, _⟩ | ⟨k, hk, e, _⟩ <;> omega
 clear hF;refine ASpec.of Tryz.func119 rfl rfl fun C hC => ?_
 refine AC.seq (AC.region ?_);refine za ?_;refine AL.nil (th_n (AC.seq (AC.region ?_)));refine kB ?_;refine AL.p (by exact mv6 rfl) rfl ?_;refine AL.q (by exact h_borrow [0] en_indexInt rfl rfl hIf (.cons (.of (.own (id := 0) rfl rfl (Nat.le_of_eq (ints_len _).symm) (List.take_of_length_le (Nat.le_of_eq (ints_len _))))) (.cons .clo .nil)) rfl) rfl ?_;refine za ?_;refine AL.nil (th_n (AC.seq (AC.seq (AC.region ?_))));refine zm ?_;refine zc ?_;refine AL.nil (th_n ?_);refine AC.condD rfl (fun h0 => ?_) (fun h0 => ?_)
 ·refine AC.seq (AC.region ?_);refine kB ?_;refine AL.p (by exact as2 rfl) rfl ?_;refine AL.nil (th_n (AC.ret (th_r (bq_r ?_))));have e := filter_no (hor.elim (fun h => h.2) (fun ⟨k, _, h, _⟩ => absurd h (by omega)));exact retN [] rfl (by rw [e]; repeat (first | exact rfl | refine ⟨_, rfl, ?_⟩)) (by rw [e]; repeat (first | exact True.intro | refine And.intro ?_ ?_ | exact rfl | refine ⟨_, _, rfl, rfl, ?_⟩)) rfl rfl
 refine AC.skip (th_n (AC.seq (AC.seq ?_)));obtain ⟨k0, hk0, rfl, hpk, hbef⟩ := hor.resolve_left fun h => h0 h.1
 have hI0 : DelI p l k0 (k0 + 1) l := ⟨rfl, Nat.lt_succ_self _, hk0, by rw [filt_take hk0, if_pos hpk, List.append_nil]; exact (List.filter_eq_self.2 fun x hx => by obtain ⟨j, hj, rfl⟩ := List.mem_take_iff_getElem.1 hx; rw [hbef j (by omega) (by omega)]; rfl).symm, rfl⟩;refine AC.region ?_;refine zm ?_;refine zA ?_;refine za ?_;refine AL.nil (th_n (AC.block ?_));refine AC.loop (ι := Nat × Nat × List Int) (fun x => ⟨42, 300, [(0, .own 0 l.length), (1, .clo g (ds.map .d)), (5, aI x.1), (6, aI x.2.1)], [(0, some (.arr 3 1 (ints x.2.2)))]⟩) (fun x => DelI p l x.1 x.2.1 x.2.2) (fun x => l.length - x.2.1) ((k0, k0 + 1, l)) ?_ (hI0) ?_
 ·exact Weak.ren _ [] hC rfl ⟨⟨_, rfl, rfl⟩, ⟨_, rfl, leadsL_data _ ds⟩, by repeat (first | exact True.intro | refine And.intro ?_ ?_ | exact DLead.same)⟩ (by repeat (first | exact True.intro | refine And.intro ?_ ?_ | exact rfl | refine ⟨_, _, rfl, rfl, ?_⟩)) rfl rfl rfl
 rintro ⟨i, j, e⟩ hI;dsimp only at hI ⊢;have hlt := hI.lt;have hle := hI.le;have hel := hI.len;refine AC.seq (AC.seq (AC.region ?_));refine zm ?_;refine kB ?_;refine AL.p (by exact g_len_own (sz := 1) (els := []) (e' := 0) rfl rfl (by simp only [maxLen]; omega)) rfl ?_;refine zc ?_;refine AL.nil (th_n ?_);refine AC.condD rfl (fun h1 => ?_) (fun h1 => ?_)
 ·refine AC.skip (th_n (AC.seq (AC.block (AC.seq ?_))));have hj1 : j < l.length := by omega
  have hrow : (ints e)[j]? = some [dI l[j]] := by rw [List.getElem?_map, hI.get hj1]; rfl
  obtain ⟨y, hrowi⟩ : ∃ y, (ints e)[i]? = some [y] := ⟨_, ints_at (by omega)⟩;have hG := hp l[j] (List.getElem_mem hj1);have hsk := hI.skip hj1;have hmv := hI.move hj1;obtain ⟨x, hx⟩ := eqx (l[j]);rw [← hx] at hrow hG hsk hmv;obtain ⟨b, hb⟩ := eqx (p x);rw [← hb] at hG hsk hmv;have hset : ints (e.set i x) = (ints e).set i [dI x] := by unfold ints; rw [List.map_set]
  refine AC.region ?_;refine kB ?_;refine zm ?_;refine kO j l.length hj1 ?_;refine AL.p (by exact g_load_arr1 rfl rfl rfl rfl (by rw [Nat.mul_one]; exact hrow)) rfl ?_;refine za ?_;refine AL.nil (th_n (AC.seq (AC.region ?_)));refine AL.p (by exact mv6 rfl) rfl ?_;refine zm ?_;refine AL.q (by exact h_pure hen rfl rfl (by exact ⟨_, _, rfl, .same, leadsL_data _ ds⟩) hG rfl) rfl ?_;refine kC ?_;refine AL.nil (th_n ?_);refine AC.condB rfl (fun h2 => ?_) (fun h2 => ?_)
  ·refine AC.seq (AC.region ?_);refine kB ?_;refine zm ?_;refine zm ?_;refine AL.p (by exact g_ia_own (i := i) (l := l.length) rfl rfl rfl rfl rfl rfl (by omega) rfl) rfl ?_;refine AL.q (by exact h_store_arr (i := i) (j := 0) (d := dI x) rfl rfl rfl rfl .same rfl hrowi (by decide)) rfl ?_;refine AL.nil (th_n (AC.region ?_));refine zm ?_;refine zA ?_;refine za ?_;refine AL.nil (ib_n (th_n (AC.region ?_)));refine zm ?_;refine zA ?_;refine za ?_;refine AL.nil (th_n ?_)
   (have e2 := hmv (by simpa using ‹(!b) = true›); exact ⟨(i + 1, j + 1, e.set i x), e2, by dsimp only; omega, Weak.ren _ [] hC rfl ⟨⟨_, rfl, rfl⟩, ⟨_, rfl, leadsL_data _ ds⟩, by repeat (first | exact True.intro | refine And.intro ?_ ?_ | exact DLead.same)⟩ (by rw [hset]; repeat (first | exact True.intro | refine And.intro ?_ ?_ | exact rfl | refine ⟨_, _, rfl, rfl, ?_⟩)) rfl rfl rfl⟩)
  refine AC.skip (ib_n (th_n (AC.region ?_)));refine zm ?_;refine zA ?_;refine za ?_;refine AL.nil (th_n ?_)
  (have e2 := hsk (by simpa using ‹(!b) = false›); exact ⟨(i, j + 1, e), e2, by dsimp only; omega, Weak.ren _ [] hC rfl ⟨⟨_, rfl, rfl⟩, ⟨_, rfl, leadsL_data _ ds⟩, by repeat (first | exact True.intro | refine And.intro ?_ ?_ | exact DLead.same)⟩ (by repeat (first | exact True.intro | refine And.intro ?_ ?_ | exact rfl | refine ⟨_, _, rfl, rfl, ?_⟩)) rfl rfl rfl⟩)
 refine AC.exit (th_e (th_e (ib_y (th_n (AC.seq ?_)))));have hjj : j = l.length := by omega
 subst hjj;have hkept := hI.kept;rw [List.take_length] at hkept;have hfl : (l.filter fun x => !p x).length = i := by rw [← hkept, List.length_take]; omega
 have hst : (ints e).take i = ints (l.filter fun x => !p x) := by rw [← hkept]; unfold ints; rw [List.map_take]
 refine AC.region ?_;refine kB ?_;refine zm ?_;refine AL.p (by exact g_slice_part (els := ints e) (e' := 3) (sz := 1) (l := i) (h := l.length) rfl rfl rfl rfl rfl (.some rfl rfl) .none (by omega) (by rw [ints_len]; omega) rfl rfl) rfl ?_;refine AL.q (by exact h_clear (i := i) (q := l.length - i) (els := ints e) (e' := 3) (sz := 1) rfl rfl rfl rfl rfl rfl (by omega) (by rw [ints_len]; omega)) rfl ?_;refine AL.nil (th_n (AC.seq (AC.region ?_)));refine kB ?_;refine zm ?_;refine AL.p (by exact g_slice_own (els := (ints e).take i) (e' := 3) (sz := 1) rfl rfl rfl rfl (.some rfl rfl) (by rw [List.length_take, ints_len]; omega)) rfl ?_;refine AL.p (by exact as2 rfl) rfl ?_;refine AL.nil (th_n (AC.ret (bq_r ?_)));exact retN [] rfl (by rw [hfl]; repeat (first | exact rfl | refine ⟨_, rfl, ?_⟩)) (by rw [← hst]; repeat (first | exact True.intro | refine And.intro ?_ ?_ | exact rfl | refine ⟨_, _, rfl, rfl, ?_⟩)) rfl rfl
theorem en_delInt : Enters Tryz.prog 119 := enters_of Tryz.func119 rfl rfl
theorem any_sd (l : List Int) (n : Int) : (l.any fun x => decide (n = x)) = sdB l n := by
 unfold sdB;rw [Bool.eq_iff_iff, List.any_eq_true, decide_eq_true_eq];exact ⟨fun ⟨x, h1, h2⟩ => by rw [of_decide_eq_true h2]; exact h1, fun h => ⟨_, h, decide_eq_true rfl⟩⟩
theorem ContainsB_spec (l : List Int) (hl : l.length ≤ 2000000) (n : Int) : ASpec Tryz.prog 84 [.d (vI l), aI n] [] (Pure1 (aT (sdB l n))) := by
 have := Contains_spec l hl n
 rwa [any_sd] at this
theorem components1_spec (l : List Int) (hl : l.length ≤ 2000000) (n : Int) : ASpec Tryz.prog 120 [aI n, .d (.ref [vI l])] [] (Pure1 (aT (sdB l n))) := by
 have hC1 := ContainsB_spec l hl n;refine ASpec.of Tryz.func120 rfl rfl fun C hC => ?_
 refine AC.seq (AC.region ?_);refine za ?_;refine AL.nil (th_n (AC.seq (AC.region ?_)));refine zr ?_;refine zm ?_;refine kV en_Contains hC1 ?_;refine za ?_;refine AL.nil (th_n (AC.ret (bq_r ?_)));exact ret1 rfl rfl
theorem en_components1 : Enters Tryz.prog 120 := enters_of Tryz.func120 rfl rfl
theorem grp_len {L : List Ar} {set : List Int} {n : Nat} {H left : List Int} (h : GrI L set n H left) : H.length ≤ set.length := nodup_len _ _ (srtd_nodup h.srt) fun x hx => by obtain ⟨v, rfl, h1, _⟩ := h.hin x hx; exact h1
theorem filt_less {p : Int → Bool} {k : Int} {r : List Int} (h : p k = false) : ((k :: r).filter p).length < (k :: r).length := by
 rw [List.filter_cons_of_neg (by rw [h]; decide), List.length_cons];exact Nat.lt_succ_of_le (List.length_filter_le _ _)
set_option maxHeartbeats 64000000 in
theorem components_spec (c : SG) (set : List Int) (n : Nat) (hn : n ≤ 1000) (hal : c.arcs.length ≤ 4000) (hin : ∀ a, a ∈ c.arcs → ArIn n a) (hs : srtd set) (hb : ∀ x, x ∈ set → 0 ≤ x ∧ x < n) (hsl : set.length ≤ 1000000) : ASpec Tryz.prog 65 [sgA c, .d (vI set)] [] (Pure1 (.d (vIs (grpL c.arcs set n)))) := by
 have hCl := cloneO_spec set hsl;have hG0 := GrI.start (L := c.arcs) (n := n) hs;have hCs := fun x => ContainsB_spec set (by omega) x
 obtain ⟨F, hF⟩ : ∃ F : Int → List Int, F = fun x => cmpL c.arcs set n x.toNat := ⟨_, rfl⟩
 have hEn := fun H (h : GrI c.arcs set n H []) => h.end_ hs hb
 rw [← hF] at hEn;refine ASpec.of Tryz.func65 rfl rfl fun C hC => ?_
 refine AC.seq (AC.region ?_);refine kD ?_;refine za ?_;refine AL.nil (th_n (AC.seq (AC.region ?_)));refine AL.q (by exact h_lit rfl rfl rfl rfl rfl rfl rfl rfl) rfl ?_;refine zm ?_;refine kU [] en_clone hCl ?_;refine AL.p (by exact as2 rfl) rfl ?_;refine AL.p (by exact as2 rfl) rfl ?_;refine AL.nil (th_n (AC.seq (AC.block ?_)));refine AC.loop (ι := List Int × List Int) (fun z => ⟨88, 300, [(1, .d (vI set)), (2, .d (.ref (sgD c))), (5, .own 100 z.1.length), (6, .own 101 z.2.length)], [(100, some (.arr 30 1 (isL (z.1.map F)))), (101, some (.arr 3 1 (ints z.2)))]⟩) (fun z => GrI c.arcs set n z.1 z.2) (fun z => z.2.length) (([], set)) ?_ (hG0) ?_
 ·exact zw [(100, _), (101, _)] hC
 rintro ⟨H, left⟩ hG;dsimp only at hG ⊢;have hHl := grp_len hG;have hll : left.length ≤ set.length := nodup_len _ _ (srtd_nodup hG.lsr) fun x hx => ((hG.lft x).1 hx).1
 refine AC.seq (AC.seq (AC.region ?_));refine kB ?_;refine AL.p (by exact g_len_own (sz := 1) (els := []) (e' := 0) rfl rfl (by simp only [maxLen]; omega)) rfl ?_;refine zc ?_;refine AL.nil (th_n ?_);refine AC.condD rfl (fun h0 => ?_) (fun h0 => ?_)
 ·refine AC.skip (th_n (AC.block (AC.seq ?_)));obtain ⟨k0, r, hlr⟩ : ∃ k r, left = k :: r := by cases left with | nil => simp at h0 | cons k r => exact ⟨k, r, rfl⟩
  have hk0 := hb k0 ((hG.lft k0).1 (by rw [hlr]; exact List.mem_cons_self)).1;obtain ⟨k, hk⟩ : ∃ k : Nat, k0 = (k : Int) := ⟨k0.toNat, by omega⟩;rw [hk] at hlr;have hkn : k < n := by omega
  obtain ⟨hks, _⟩ := hG.head hb hlr;have hNx := hG.next hb hlr;have hg0 : (ints left)[0]? = some [dI (k : Int)] := by rw [hlr]; rfl
  have hB0 := BfC.start (L := c.arcs) (set := set) hkn;have hll0 : 0 < left.length := by rw [hlr]; simp
  refine AC.region ?_;refine kB ?_;refine kO 0 left.length hll0 ?_;refine AL.p (by exact g_load_arr1 rfl rfl rfl rfl (by rw [Nat.mul_one]; exact hg0)) rfl ?_;refine AL.q (by exact h_lit rfl rfl rfl rfl rfl rfl rfl rfl) rfl ?_;refine kE ?_;refine zs ?_;refine AL.nil (th_n (AC.seq (AC.seq ?_)));refine AC.weak (t := ⟨88, 600, [(1, .d (vI set)), (2, .d (.ref (sgD c))), (5, .own 100 H.length), (6, .own 101 left.length), (7, .ptr 200 0)], [(100, some (.arr 30 1 (isL (H.map F)))), (101, some (.arr 3 1 (ints left))), (200, some (.cells 30 [.own 102 1])), (102, some (.arr 3 1 (ints [(k : Int)])))]⟩) (zw [(100, 100), (101, 101), (200, _), (102, _)] hC) ?_;refine AC.region ?_;refine za ?_;refine AL.nil (th_n (AC.block ?_));refine AC.loop (ι := Nat × List Int) (fun z => ⟨88, 900, [(1, .d (vI set)), (2, .d (.ref (sgD c))), (5, .own 100 H.length), (6, .own 101 left.length), (7, .ptr 200 0), (8, aI z.1)], [(100, some (.arr 30 1 (isL (H.map F)))), (101, some (.arr 3 1 (ints left))), (200, some (.cells 30 [.own 102 z.2.length])), (102, some (.arr 3 1 (ints z.2)))]⟩) (fun z => BfC c.arcs set n k z.2 z.1 0) (fun z => n - z.1) ((0, [(k : Int)])) ?_ (hB0) ?_
  ·exact zw [(100, 100), (101, 101), (200, 200), (102, 102)] hC
  rintro ⟨at_, out⟩ hI;dsimp only at hI ⊢;have hol := hI.len;have hale := hI.al;refine AC.seq (AC.seq (AC.region ?_));refine zm ?_;refine zl ?_;refine AL.p (by exact g_len_own (sz := 1) (els := []) (e' := 0) rfl rfl (by simp only [maxLen]; omega)) rfl ?_;refine zc ?_;refine AL.nil (th_n ?_);refine AC.condD rfl (fun h1 => ?_) (fun h1 => ?_)
  ·refine AC.skip (th_n (AC.seq (AC.block (AC.seq ?_))));have ha1 : at_ < out.length := by omega
   refine AC.region ?_;refine zf ?_;refine zr ?_;refine kI c.arcs.length (arL_len _) ?_;refine zm ?_;refine AL.nil (th_n (AC.block ?_));refine AC.loop (ι := Nat × List Int) (fun z => ⟨88, 1200, [(1, .d (vI set)), (2, .d (.ref (sgD c))), (5, .own 100 H.length), (6, .own 101 left.length), (7, .ptr 200 0), (8, aI at_), (30, .d (vArs c.arcs)), (31, aI c.arcs.length), (32, aI z.1)], [(100, some (.arr 30 1 (isL (H.map F)))), (101, some (.arr 3 1 (ints left))), (200, some (.cells 30 [.own 102 z.2.length])), (102, some (.arr 3 1 (ints z.2)))]⟩) (fun z => z.1 ≤ c.arcs.length ∧ BfC c.arcs set n k z.2 at_ (2 * z.1) ∧ at_ < z.2.length) (fun z => c.arcs.length - z.1) ((0, out)) ?_ (⟨Nat.zero_le _, hI, ha1⟩) ?_
   ·exact zw [(100, 100), (101, 101), (200, 200), (102, 102)] hC
   rintro ⟨i, out⟩ ⟨hi, hI, ha1⟩;dsimp only at hi hI ha1 ⊢;have hol := hI.len;refine AC.seq (AC.region ?_);refine zc ?_;refine AL.nil (th_n (AC.seq ?_));refine AC.condD rfl (fun h2 => ?_) (fun h2 => ?_)
   ·refine AC.skip (th_n (AC.seq (AC.block (AC.seq ?_))));have hi1 : i < c.arcs.length := by omega
    have hget := arL_get hi1;have hA := hin _ (List.getElem_mem hi1);refine AC.region ?_;refine AL.p (by exact g_ia_view rfl rfl rfl rfl rfl (by rfl) (by assumption)) rfl ?_;refine kG ?_;refine kE ?_;refine zs ?_;refine AL.nil (th_n (AC.seq (AC.region ?_)));refine zF ?_;refine zl ?_;refine zF ?_;refine zl ?_;refine AL.p (by exact g_build rfl rfl rfl) rfl ?_;refine zF ?_;refine zl ?_;refine zF ?_;refine zl ?_;refine AL.p (by exact g_build rfl rfl rfl) rfl ?_;refine AL.q (by exact h_litF rfl rfl rfl rfl rfl rfl rfl rfl) rfl ?_;refine AL.p (by exact g_len_view (k := 2) rfl rfl rfl) rfl ?_;refine zm ?_;refine AL.nil (th_n (AC.block ?_));refine AC.loop (ι := Nat × List Int) (fun z => ⟨88, 1500, [(1, .d (vI set)), (2, .d (.ref (sgD c))), (5, .own 100 H.length), (6, .own 101 left.length), (7, .ptr 200 0), (8, aI at_), (30, .d (vArs c.arcs)), (31, aI c.arcs.length), (32, aI i), (46, .d (.view 131 2 [[dI c.arcs[i].from_, dI c.arcs[i].to_], [dI c.arcs[i].to_, dI c.arcs[i].from_]])), (47, aI 2), (48, aI z.1)], [(100, some (.arr 30 1 (isL (H.map F)))), (101, some (.arr 3 1 (ints left))), (200, some (.cells 30 [.own 102 z.2.length])), (102, some (.arr 3 1 (ints z.2)))]⟩) (fun z => z.1 ≤ 2 ∧ BfC c.arcs set n k z.2 at_ (2 * i + z.1) ∧ at_ < z.2.length) (fun z => 2 - z.1) ((0, out)) ?_ (⟨Nat.zero_le _, hI, ha1⟩) ?_
    ·exact zw [(100, 100), (101, 101), (200, 200), (102, 102)] hC
    rintro ⟨p, out⟩ ⟨hp, hI, ha1⟩;dsimp only at hp hI ha1 ⊢;have hol := hI.len;refine AC.seq (AC.region ?_);refine zc ?_;refine AL.nil (th_n (AC.seq ?_));refine AC.condD rfl (fun h3 => ?_) (fun h3 => ?_)
    ·refine AC.skip (th_n (AC.seq (AC.block (AC.seq ?_))));have hp1 : p < 2 := by omega
     have hgp : ([[dI c.arcs[i].from_, dI c.arcs[i].to_], [dI c.arcs[i].to_, dI c.arcs[i].from_]] : List (List DV))[p]? = some [dI (pX c.arcs[i] p), dI (pY c.arcs[i] p)] := by have : p = 0 ∨ p = 1 := by { omega }; rcases this with rfl | rfl <;> rfl
     have hgo := ints_at ha1;have hno := hI.no ha1 hi1 hp1;have hye := hI.yes ha1 hi1 hp1 hks hA;obtain ⟨x, hx⟩ := eqx (pX c.arcs[i] p);obtain ⟨y, hy⟩ := eqx (pY c.arcs[i] p);obtain ⟨o, ho⟩ := eqx (out[at_]);rw [← hx, ← hy] at hgp;rw [← hx, ← hy, ← ho] at hno hye;rw [← ho] at hgo;have hCy := hCs y;have hCo := ContainsB_spec out (by omega) y;obtain ⟨b1, g1⟩ := eqx (sdB set y);obtain ⟨b2, g2⟩ := eqx (sdB out y);rw [← g1] at hCy;rw [← g2] at hCo;have m1 : b1 = decide (y ∈ set) := g1;have m2 : b2 = decide (y ∈ out) := g2;clear g1 g2 hx hy ho;refine AC.region ?_;refine AL.p (by exact g_ia_view (i := p) rfl rfl rfl rfl rfl rfl hgp) rfl ?_;refine kG ?_;refine kE ?_;refine zs ?_;refine AL.nil (th_n (AC.seq ?_));refine AC.drawn' mixed_ok [[], [0], [], [], [2,3], [2,3,4], [0,1,2,3,4,5], [0,1,2,3,4,5,6], [0,1,2,3,4,5,6,7], [0,1,2,3,4,5,6,7], [0,1,2,3,4,5,6,7,9], [0,1,2,3,4,5,6,7,8,9,10], [0,1,2,3,4,5,6,7,8,9,10,11], [0,1,2,3,4,5,6,7,8,9,10,11,12], [0,1,2,3,4,5,6,7,8,9,10,11,12,13], [0,1,2,3,4,5,6,7,8,9,10,11,12,13], [0,1,2,3,4,5,6,7,8,9,10,11,12,13,15], [0,1,2,3,4,5,6,7,8,9,10,11,12,13,14,15,16], [0,1,2,3,4,5,6,7,8,9,10,11,12,13,14,15,16,17], [0,1,2,3,4,5,6,7,8,9,10,11,12,13,14,15,16,17,18]] (by decide) ?_;refine zd 0 [] 20 (by exact g_fa_ptr rfl rfl rfl rfl rfl) ?_;refine zd 1 [0] 20 (by exact g_load_ptr rfl rfl rfl rfl rfl) ?_;refine zd 2 [] 20 (by exact g_load_ptr rfl rfl rfl rfl rfl) ?_;refine zd 3 [] 20 (by exact mv1 rfl) ?_;refine zd 4 [2,3] 20 (by exact g_ia_own (i := at_) (l := out.length) rfl rfl rfl rfl rfl rfl ha1 rfl) ?_;refine zd 5 [2,3,4] 20 (by exact g_load_arr1 rfl rfl rfl rfl (by rw [Nat.mul_one]; exact hgo)) ?_;refine zd 6 [0,1,2,3,4,5] 20 (by exact g_cmp rfl rfl rfl) ?_;refine zd 7 [0,1,2,3,4,5,6] 20 (by exact mv1 rfl) ?_;refine DF.caseD 7 rfl (fun h4 => ?_) (fun h4 => ?_)
     ·refine ze 8 [0,1,2,3,4,5,6,7] 20 (by exact mv1 rfl) ?_;refine ze 9 [0,1,2,3,4,5,6,7] 20 (by exact g_fa_ptr rfl rfl rfl rfl rfl) ?_;refine ze 10 [0,1,2,3,4,5,6,7,9] 20 (by exact g_load_ptr rfl rfl rfl rfl rfl) ?_;refine zi 11 (List.range 11) 20 (by exact h_pure en_Contains rfl rfl (by repeat (first | exact rfl | exact DLead.same | refine ⟨_, _, rfl, ?_, ?_⟩)) hCy rfl) ?_;refine zd 12 (List.range 12) 20 (by exact g_pickT (r := .d _) rfl rfl) ?_;refine zd 13 (List.range 13) 20 (by exact mv1 rfl) ?_;refine DF.caseB 13 rfl (fun h5 => ?_) (fun h5 => ?_)
      ·refine ze 14 (List.range 14) 20 (by exact g_load_ptr rfl rfl rfl rfl rfl) ?_;refine ze 15 (List.range 14) 20 (by exact g_fa_ptr rfl rfl rfl rfl rfl) ?_;refine ze 16 [0,1,2,3,4,5,6,7,8,9,10,11,12,13,15] 20 (by exact g_load_ptr rfl rfl rfl rfl rfl) ?_;refine zi 17 (List.range 17) 20 (by exact h_borrow [102] en_Contains rfl rfl hCo (.cons (.of (.own (id := 102) rfl rfl (Nat.le_of_eq (ints_len _).symm) (List.take_of_length_le (Nat.le_of_eq (ints_len _))))) (.cons (.of .d) .nil)) rfl) ?_;refine ze 18 (List.range 18) 20 (by exact g_not rfl) ?_;refine zd 19 (List.range 19) 20 (by exact g_pickT (r := .d _) rfl rfl) ?_;refine zj 20 ?_;refine th_n ?_;refine AC.condB rfl (fun h6 => ?_) (fun h6 => ?_)
       ·refine AC.region ?_;refine zl ?_;refine zF ?_;refine zl ?_;refine AL.q (by exact h_litF rfl rfl rfl rfl rfl rfl rfl rfl) rfl ?_;refine AL.q (by exact h_appendI out [y] (.own rfl rfl (ints_len _).symm) (.view rfl) (by rw [List.length_append]; simp only [List.length_cons, List.length_nil]; omega) (by simp)) rfl ?_;refine zs ?_;refine AL.nil (ib_n (th_n (AC.region ?_)));refine zA ?_;refine zm ?_;refine AL.nil (th_n ?_)
        (have q1 := ‹x = o›; have q2 := ‹b1 = true›; have q3 : b2 = false := (by have q := ‹(!b2) = true›; simpa using q); have g := hye q1 (of_decide_eq_true (m1.symm.trans q2)) (of_decide_eq_false (m2.symm.trans q3)); exact ⟨(p + 1, out ++ [y]), ⟨by dsimp only; omega, g, by dsimp only; rw [List.length_append]; omega⟩, by dsimp only; omega, zw [(100, 100), (101, 101), (200, 200), (102, _)] hC⟩)
       refine AC.skip (ib_n (th_n (AC.region ?_)));refine zA ?_;refine zm ?_;refine AL.nil (th_n ?_)
       (have g := hno (fun q1 q2 => by (have q : b2 = true := (by have q := ‹(!b2) = false›; simpa using q); exact of_decide_eq_true (m2.symm.trans q))); exact ⟨(p + 1, out), ⟨by dsimp only; omega, g, ha1⟩, by dsimp only; omega, zw [(100, 100), (101, 101), (200, 200), (102, 102)] hC⟩)
      refine zg 14 (List.range 14) 20 ?_;refine zg 15 (List.range 14) 20 ?_;refine zg 16 [0,1,2,3,4,5,6,7,8,9,10,11,12,13,15] 20 ?_;refine zg 17 (List.range 17) 20 ?_;refine zg 18 (List.range 18) 20 ?_;refine zd 19 (List.range 19) 20 (by exact g_pickF (r := .d _) rfl rfl) ?_;refine zj 20 ?_;refine th_n ?_;refine AC.condF rfl ?_;refine AC.skip (ib_n (th_n (AC.region ?_)));refine zA ?_;refine zm ?_;refine AL.nil (th_n ?_)
      (have g := hno (fun q1 q2 => by (have q := ‹b1 = false›; exact absurd q2 (of_decide_eq_false (m1.symm.trans q)))); exact ⟨(p + 1, out), ⟨by dsimp only; omega, g, ha1⟩, by dsimp only; omega, zw [(100, 100), (101, 101), (200, 200), (102, 102)] hC⟩)
     refine zg 8 [0,1,2,3,4,5,6,7] 20 ?_;refine zg 9 [0,1,2,3,4,5,6,7] 20 ?_;refine zg 10 [0,1,2,3,4,5,6,7,9] 20 ?_;refine zg 11 (List.range 11) 20 ?_;refine zd 12 (List.range 12) 20 (by exact g_pickF (r := .d _) rfl rfl) ?_;refine zd 13 (List.range 13) 20 (by exact mv1 rfl) ?_;refine zg 14 (List.range 14) 20 ?_;refine zg 15 (List.range 14) 20 ?_;refine zg 16 [0,1,2,3,4,5,6,7,8,9,10,11,12,13,15] 20 ?_;refine zg 17 (List.range 17) 20 ?_;refine zg 18 (List.range 18) 20 ?_;refine zd 19 (List.range 19) 20 (by exact g_pickF (r := .d _) rfl rfl) ?_;refine zj 20 ?_;refine th_n ?_;refine AC.condF rfl ?_;refine AC.skip (ib_n (th_n (AC.region ?_)));refine zA ?_;refine zm ?_;refine AL.nil (th_n ?_)
     (have g := hno (fun q1 q2 => by exact absurd q1 ‹¬ x = o›); exact ⟨(p + 1, out), ⟨by dsimp only; omega, g, ha1⟩, by dsimp only; omega, zw [(100, 100), (101, 101), (200, 200), (102, 102)] hC⟩)
    refine AC.exit (th_e (th_e (ib_y (ib_n (th_n (AC.region ?_))))));refine zA ?_;refine zm ?_;refine AL.nil (th_n ?_);have e2 : 2 * i + p = 2 * (i + 1) := by omega
    rw [e2] at hI;exact ⟨(i + 1, out), ⟨by dsimp only; omega, hI, ha1⟩, by dsimp only; omega, zw [(100, 100), (101, 101), (200, 200), (102, 102)] hC⟩
   refine AC.exit (th_e (th_e (ib_y (ib_n (th_n (AC.region ?_))))));refine zm ?_;refine zA ?_;refine za ?_;refine AL.nil (th_n ?_);have e2 := hI.next ha1 (by omega);exact ⟨(at_ + 1, out), e2, by dsimp only; omega, zw [(100, 100), (101, 101), (200, 200), (102, 102)] hC⟩
  refine AC.exit (th_e (th_e (ib_y (th_n (AC.seq ?_)))));have haa : at_ = out.length := by omega
  rw [haa] at hI;obtain ⟨hE1, hE2⟩ := hI.end_;have hTd := tidy_spec out (by omega);rw [hE2] at hTd;rw [hE1] at hTd hE2;have hFk : F (k : Int) = cmpL c.arcs set n k := by rw [hF]; rfl
  have hkK : (k : Int) ∈ cmpL c.arcs set n k := cmpL_mem.2 ⟨k, rfl, hkn, Cmp.refl _ _ _⟩;obtain ⟨K, hK⟩ := eqx (cmpL c.arcs set n k);rw [← hK] at hTd hE2 hFk hkK hNx;clear hK hE1;have hmap : (H ++ [(k : Int)]).map F = H.map F ++ [K] := by rw [List.map_append, List.map_singleton, hFk]
  have hDe := delInt_spec left (by omega) 120 [.ref [vI K]] en_components1 (fun x => sdB K x) (fun t _ => components1_spec K (by omega) t);have hfl : (left.filter fun x => !decide (x ∈ K)) = left.filter fun x => !sdB K x := rfl
  rw [hfl] at hNx;have hlt : (left.filter fun x => !sdB K x).length < left.length := by rw [hlr]; exact filt_less (by show (!decide ((k : Int) ∈ K)) = false; rw [decide_eq_true hkK]; rfl)
  refine AC.region ?_;refine kB ?_;refine zl ?_;refine kU [102] en_tidy hTd ?_;refine AL.weak (Weak.freezeCS 81 0 (id0 := 200) (id := 102) rfl rfl rfl rfl (by rw [ints_len, hE2]; exact Nat.le_refl _) (List.take_of_length_le (by rw [ints_len, hE2]; exact Nat.le_refl _)) rfl) ?_;refine AL.q (by exact h_litF rfl rfl rfl rfl rfl rfl rfl rfl) rfl ?_;refine AL.q (by exact h_appendIs (H.map F) [K] (.own rfl rfl (by rw [isL_len, List.length_map])) (.view rfl) (by rw [List.length_append, List.length_map]; simp only [List.length_cons, List.length_nil]; omega) (by simp)) rfl ?_;refine AL.p (by exact as2 rfl) rfl ?_;refine AL.nil (th_n ?_);refine AC.weak (Weak.freezeRef 7 (id := 200) (ds := [vI K]) rfl rfl) ?_;refine AC.region ?_;refine kB ?_;refine AL.p (by exact g_fn rfl) rfl ?_;refine AL.q (by exact h_fun (cs := [101]) en_delInt rfl rfl (by exact ⟨_, _, rfl, ⟨_, rfl, rfl⟩, _, _, rfl, ⟨_, rfl, leadsL_data _ [.ref [vI K]]⟩, rfl⟩) (by repeat (first | exact True.intro | refine And.intro ?_ ?_ | exact rfl | refine ⟨_, _, rfl, rfl, ?_⟩)) hDe rfl rfl rfl rfl) rfl ?_;refine AL.p (by exact as2 rfl) rfl ?_;refine AL.nil (ib_n (th_n ?_));exact ⟨(H ++ [(k : Int)], left.filter fun x => !sdB K x), hNx, hlt, Weak.ren _ [(100, _), (101, 101)] hC rfl (by dsimp only; rw [show (H ++ [(k : Int)]).length = (H.map F ++ [K]).length by simp]; repeat (first | exact True.intro | refine And.intro ?_ ?_ | exact DLead.same | exact rfl | refine ⟨_, rfl, ?_⟩)) (by dsimp only; rw [hmap]; repeat (first | exact True.intro | refine And.intro ?_ ?_ | exact rfl | refine ⟨_, _, rfl, rfl, ?_⟩)) rfl rfl rfl⟩
 refine AC.exit (th_e (th_e (ib_y (th_n (AC.seq ?_)))));have hl0 : left = [] := by cases left with | nil => rfl | cons k r => exact absurd h0 (by simp)
 rw [hl0] at hG;have hE := hEn H hG;refine AC.weak (Weak.freeze (i := 5) rfl rfl (by rw [isL_len, List.length_map]; exact Nat.le_refl _) (List.take_of_length_le (by rw [isL_len, List.length_map]; exact Nat.le_refl _))) ?_;refine AC.region ?_;refine zm ?_;refine za ?_;refine AL.nil (th_n (AC.ret (bq_r ?_)));exact ret1 rfl (by rw [← hE])
theorem en_components : Enters Tryz.prog 65 := enters_of Tryz.func65 rfl rfl
end Go.Proofs.YtbofmbjefbpnaaaGreat
