/- Contracts of the functions of the program and of the reference, each proved by a walk through its code. -/
import Derived.Laws.Small
import Derived.Test.YtbiinjejokhfgaaGreatGUn5
set_option linter.all false
set_option maxRecDepth 20000
namespace Go.Proofs.YtbiinjejokhfgaaGreat
open Go.RowKit
theorem evAt_old {N : Net} {u : Unf} {h : Ev} {e : Nat} (he : e < u.es.length) : evAt (withI N u h) (e : Int) = evAt u (e : Int) := by
 unfold evAt;rw [Int.toNat_natCast, List.getD_eq_getElem?_getD, List.getD_eq_getElem?_getD];show ((u.es ++ [h])[e]?.getD _).pre = _;rw [List.getElem?_append_left he]
theorem evAt_new {N : Net} {u : Unf} {h : Ev} : evAt (withI N u h) (u.es.length : Int) = h.pre := by
 unfold evAt;rw [Int.toNat_natCast, List.getD_eq_getElem?_getD];show ((u.es ++ [h])[u.es.length]?.getD _).pre = _;rw [List.getElem?_append_right (Nat.le_refl _), Nat.sub_self]; rfl
theorem cAt_old {N : Net} {u : Unf} {h : Ev} {c : Int} (h0 : 0 ≤ c) (hc : c < u.cs.length) : cAt (withI N u h) c = cAt u c := by
 unfold cAt;rw [List.getD_eq_getElem?_getD, List.getD_eq_getElem?_getD];show ((u.cs ++ _)[c.toNat]?.getD _) = _;rw [List.getElem?_append_left (by omega)]
theorem es_len {N : Net} {u : Unf} {h : Ev} : (withI N u h).es.length = u.es.length + 1 := by show (u.es ++ [h]).length = _; rw [List.length_append]; rfl
theorem evAt_in {u : Unf} (hw : WF u) {e : Nat} (he : e < u.es.length) : ∀ c, c ∈ evAt u (e : Int) → 0 ≤ c ∧ c < u.cs.length := by
 rw [evAt_nat he]; exact hw.p _ (List.getElem_mem he)
theorem rch_old {N : Net} {u : Unf} {h : Ev} (hw : WF u) (ho : Ord u) {S : List Int} (hS : ∀ s, s ∈ S → s < u.es.length) {f : Nat} : Rch (withI N u h) S f ↔ Rch u S f := by
 constructor
 ·intro hr
  induction hr with
  | base h1 h2 => exact .base h1 (by have := hS _ h1; omega)
  | step _ hc hb ih =>
   have hl := ih.lt ho;rw [evAt_old hl] at hc;have hi := evAt_in hw hl _ hc;rw [cAt_old hi.1 hi.2] at hb;exact ih.step hc hb
 intro hr
 induction hr with
 | base h1 h2 => exact .base h1 (by rw [es_len]; omega)
 | step h1 hc hb ih =>
  have hl := h1.lt ho;have hi := evAt_in hw hl _ hc;exact ih.step (by rw [evAt_old hl]; exact hc) (by rw [cAt_old hi.1 hi.2]; exact hb)
theorem rch_new {N : Net} {u : Unf} {h : Ev} (hw : WF u) (ho : Ord u) (hin : ∀ c, c ∈ h.pre → 0 ≤ c ∧ c < u.cs.length) {f : Nat} : Rch (withI N u h) [(u.es.length : Int)] f ↔ (f = u.es.length ∨ Rch u (byL u h.pre) f) := by
 have hby : ∀ c : Int, 0 ≤ c ∧ c < u.cs.length → (cAt u c).by_ < u.es.length := by
  intro c hc;obtain ⟨i, rfl⟩ : ∃ i : Nat, c = i := ⟨c.toNat, by omega⟩;have hi : i < u.cs.length := by omega
  rw [cAt_nat hi]; exact (hw.b _ (List.getElem_mem hi)).2
 constructor
 ·intro hr
  induction hr with
  | base h1 h2 => have := List.mem_singleton.1 h1; exact .inl (by omega)
  | @step e f c _ hc hb ih =>
   right;rcases ih with ih | ih
   ·subst ih;rw [evAt_new] at hc;have hi := hin _ hc;rw [cAt_old hi.1 hi.2] at hb;have := hby c hi;exact .base (List.mem_map.2 ⟨c, hc, hb⟩) (by omega)
   have hl := ih.lt ho;rw [evAt_old hl] at hc;have hi := evAt_in hw hl _ hc;rw [cAt_old hi.1 hi.2] at hb;exact ih.step hc hb
 rintro (rfl | hr)
 ·exact .base (List.mem_singleton.2 rfl) (by rw [es_len]; omega)
 have h0 : Rch (withI N u h) [(u.es.length : Int)] u.es.length := .base (List.mem_singleton.2 rfl) (by rw [es_len]; omega)
 induction hr with
 | base h1 h2 =>
  obtain ⟨c, hc, hb⟩ := List.mem_map.1 h1;have hi := hin _ hc;exact h0.step (by rw [evAt_new]; exact hc) (by rw [cAt_old hi.1 hi.2]; exact hb)
 | step h1 hc hb ih =>
  have hl := h1.lt ho;have hi := evAt_in hw hl _ hc;exact ih.step (by rw [evAt_old hl]; exact hc) (by rw [cAt_old hi.1 hi.2]; exact hb)
theorem bitU_get {k f : Nat} (hk : k < 64) : (bitU k).getLsbD f = decide (f = k) := by
 unfold bitU;rw [BitVec.getLsbD_twoPow]
 by_cases h : k = f
 ·subst h; simp [hk]
 rw [decide_eq_false h, Bool.and_false, decide_eq_false (fun e => h e.symm)]
theorem getD_app_l {α : Type} {L : List α} {x d : α} {e : Nat} (h : e < L.length) : (L ++ [x]).getD e d = L.getD e d := by
 rw [List.getD_eq_getElem?_getD, List.getD_eq_getElem?_getD, List.getElem?_append_left h]
theorem getD_app_r {α : Type} {L : List α} {x d : α} {e : Nat} (h : e = L.length) : (L ++ [x]).getD e d = x := by
 subst h;rw [List.getD_eq_getElem?_getD, List.getElem?_append_right (Nat.le_refl _), Nat.sub_self]; rfl
theorem agK_bit (u : Unf) (h : Ev) (f : Nat) : ∀ k, k ≤ 64 → ((agK u h k).getLsbD f = true ↔ (f < k ∧ shareI (evAt u (f : Int)) h.pre = true))
 | 0, _ => by simp [agK]
 | k + 1, hk => by
  rw [agK];have ih := agK_bit u h f k (by omega)
  split
  ·rename_i hs;rw [BitVec.getLsbD_or, Bool.or_eq_true, bitU_get (by omega), decide_eq_true_eq, ih];constructor
   ·rintro (⟨h1, h2⟩ | h1)
    ·exact ⟨by omega, h2⟩
    subst h1; exact ⟨by omega, hs⟩
   rintro ⟨h1, h2⟩
   by_cases e : f = k
   ·exact .inr e
   exact .inl ⟨by omega, h2⟩
  rename_i hs;rw [ih];constructor
  ·rintro ⟨h1, h2⟩; exact ⟨by omega, h2⟩
  rintro ⟨h1, h2⟩;refine ⟨?_, h2⟩
  by_cases e : f = k
  ·subst e; exact absurd h2 hs
  omega
theorem agA_at (u : Unf) (h : Ev) (A : List ES) (e : Nat) (he : e < A.length) : ∀ k, (agA u h A k).getD e 0 = if e < k ∧ shareI (evAt u (e : Int)) h.pre = true then A.getD e 0 ||| bitU u.es.length else A.getD e 0
 | 0 => by rw [agA, if_neg (by omega)]
 | k + 1 => by
  rw [agA];have ih := agA_at u h A e he k
  split
  ·rename_i hs;rw [List.getD_eq_getElem?_getD, List.getElem?_set]
   by_cases hke : k = e
   ·subst hke;rw [if_pos rfl, if_pos (by rw [agA_len]; exact he), if_pos ⟨by omega, hs⟩]; rfl
   rw [if_neg hke, ← List.getD_eq_getElem?_getD, ih]
   by_cases h2 : e < k ∧ shareI (evAt u (e : Int)) h.pre = true
   ·rw [if_pos h2, if_pos ⟨by omega, h2.2⟩]
   rw [if_neg h2, if_neg (fun h3 => h2 ⟨by omega, h3.2⟩)]
  rename_i hs;rw [ih]
  by_cases h2 : e < k ∧ shareI (evAt u (e : Int)) h.pre = true
  ·rw [if_pos h2, if_pos ⟨by omega, h2.2⟩]
  rw [if_neg h2, if_neg (fun h3 => h2 ⟨by
   by_cases e2 : e = k
   ·subst e2; exact absurd h3.2 hs
   omega, h3.2⟩)]
theorem Tru.zero {N : Net} (hN : NetS N) (m : List UInt8) : Tru ⟨madeI N m, []⟩ [] [] :=
 ⟨⟨(Now.zero hN m).w, Nat.zero_le _, rfl, rfl, fun x hx => absurd hx List.not_mem_nil⟩, fun e c he => absurd he (Nat.not_lt_zero _), fun e he => absurd he List.not_mem_nil, fun e he => absurd he (Nat.not_lt_zero _), fun e he => absurd he (Nat.not_lt_zero _)⟩
theorem Tru.add {N : Net} {u : Unf} {L A : List ES} {h : Ev} (hT : Tru u L A) (hw' : WF (withI N u h)) (he : u.es.length < 64) (hin : ∀ c, c ∈ h.pre → 0 ≤ c ∧ c < u.cs.length) (hnd : h.pre.Nodup) : Tru (withI N u h) (addL u L h) (addA u A h) := by
 have hw := hT.w.w;have hLl := hT.w.l;have hAl := hT.w.a;have hel := es_len (N := N) (u := u) (h := h)
 have hby : ∀ c : Int, 0 ≤ c ∧ c < u.cs.length → (cAt u c).by_ < u.es.length := by
  intro c hc;obtain ⟨i, rfl⟩ : ∃ i : Nat, c = i := ⟨c.toNat, by omega⟩;have hi : i < u.cs.length := by omega
  rw [cAt_nat hi]; exact (hw.b _ (List.getElem_mem hi)).2
 have hO : Ord (withI N u h) := by
  intro e c he' hc;rw [hel] at he'
  by_cases h1 : e < u.es.length
  ·rw [evAt_old h1] at hc;have hi := evAt_in hw h1 _ hc;rw [cAt_old hi.1 hi.2];exact hT.o e c h1 hc
  have : e = u.es.length := by omega
  subst this;rw [evAt_new] at hc;have hi := hin _ hc;rw [cAt_old hi.1 hi.2];exact hby c hi
 have hLb : ∀ e, e < (withI N u h).es.length → ∀ f, ((addL u L h).getD e 0).getLsbD f = true ↔ Rch (withI N u h) [(e : Int)] f := by
  intro e he' f;rw [hel] at he';unfold addL
  by_cases h1 : e < u.es.length
  ·rw [getD_app_l (by omega), rch_old hw hT.o (fun s hs => by rw [List.mem_singleton] at hs; omega)];exact hT.l e h1 f
  have : e = u.es.length := by omega
  subst this;rw [getD_app_r (by omega), rch_new hw hT.o hin, BitVec.getLsbD_or, Bool.or_eq_true, bitU_get he, decide_eq_true_eq, all_bit hT hin, or_comm]
 have hAb : ∀ e, e < (withI N u h).es.length → ∀ f, ((addA u A h).getD e 0).getLsbD f = true ↔ (f < (withI N u h).es.length ∧ e ≠ f ∧ shareI (evAt (withI N u h) (e : Int)) (evAt (withI N u h) (f : Int)) = true) := by
  intro e he' f;rw [hel] at he' ⊢;unfold addA
  by_cases h1 : e < u.es.length
  ·rw [getD_app_l (by rw [agA_len]; omega), agA_at u h A e (by omega), evAt_old h1];have ha := hT.a e h1 f
   by_cases h2 : e < u.es.length ∧ shareI (evAt u (e : Int)) h.pre = true
   ·rw [if_pos h2, BitVec.getLsbD_or, Bool.or_eq_true, bitU_get he, decide_eq_true_eq, ha];constructor
    ·rintro (⟨q1, q2, q3⟩ | rfl)
     ·exact ⟨by omega, q2, by rw [evAt_old q1]; exact q3⟩
     exact ⟨by omega, by omega, by rw [evAt_new]; exact h2.2⟩
    rintro ⟨q1, q2, q3⟩
    by_cases q : f = u.es.length
    ·exact .inr q
    have q1' : f < u.es.length := by omega
    rw [evAt_old q1'] at q3;exact .inl ⟨q1', q2, q3⟩
   rw [if_neg h2, ha];constructor
   ·rintro ⟨q1, q2, q3⟩;exact ⟨by omega, q2, by rw [evAt_old q1]; exact q3⟩
   rintro ⟨q1, q2, q3⟩
   by_cases q : f = u.es.length
   ·subst q; rw [evAt_new] at q3; exact absurd ⟨h1, q3⟩ h2
   have q1' : f < u.es.length := by omega
   rw [evAt_old q1'] at q3;exact ⟨q1', q2, q3⟩
  have : e = u.es.length := by omega
  subst this;rw [getD_app_r (by rw [agA_len]; omega), agK_bit u h f _ (by omega), evAt_new];constructor
  ·rintro ⟨q1, q2⟩;exact ⟨by omega, by omega, by rw [evAt_old q1]; exact share_symm q2⟩
  rintro ⟨q1, q2, q3⟩;have q1' : f < u.es.length := by omega
  rw [evAt_old q1'] at q3;exact ⟨q1', share_symm q3⟩
 refine ⟨⟨hw', by omega, ?_, ?_, ?_⟩, hO, ?_, hLb, hAb⟩
 ·unfold addL; rw [List.length_append, hel, hLl]; rfl
 ·unfold addA; rw [List.length_append, agA_len, hel, hAl]; rfl
 ·intro x hx f hf;obtain ⟨i, hi, rfl⟩ := List.getElem_of_mem hx
  have hi' : i < (withI N u h).es.length := by
   have : (addL u L h).length = u.es.length + 1 := by unfold addL; rw [List.length_append, hLl]; rfl
   omega
  have := (hLb i hi' f).1 (by rw [List.getD_eq_getElem?_getD, List.getElem?_eq_getElem hi]; exact hf);exact this.lt hO
 intro e he';rcases List.mem_append.1 he' with h1 | h1
 ·exact hT.d e h1
 rw [List.mem_singleton] at h1; subst h1; exact hnd
def srtd (l : List Int) : Prop := l.Pairwise (fun a b => a < b)
theorem srtd_ext : ∀ {a b : List Int}, srtd a → srtd b → (∀ x, x ∈ a ↔ x ∈ b) → a = b
 | [], [], _, _, _ => rfl
 | [], y :: b, _, _, h => by have := (h y).2 List.mem_cons_self; cases this
 | x :: a, [], _, _, h => by have := (h x).1 List.mem_cons_self; cases this
 | x :: a, y :: b, ha, hb, h => by
  have ha' := List.pairwise_cons.1 ha;have hb' := List.pairwise_cons.1 hb
  have hxy : x = y := by
   rcases List.mem_cons.1 ((h x).1 List.mem_cons_self) with e | e
   ·exact e
   rcases List.mem_cons.1 ((h y).2 List.mem_cons_self) with e2 | e2
   ·exact e2.symm
   have := hb'.1 x e;have := ha'.1 y e2;omega
  subst hxy;congr 1;refine srtd_ext ha'.2 hb'.2 fun z => ?_
  have hz := h z;rw [List.mem_cons, List.mem_cons] at hz;constructor
  ·intro q;rcases hz.1 (.inr q) with e | e
   ·subst e; have := ha'.1 _ q; omega
   exact e
  intro q;rcases hz.2 (.inr q) with e | e
  ·subst e; have := hb'.1 _ q; omega
  exact e
theorem findIdx_le {l : List Int} {x : Int} {i : Nat} (hi : i < l.findIdx (fun y => decide (x ≤ y))) (hl : i < l.length) : l[i] < x := by
 have := List.not_of_lt_findIdx hi;simp only [decide_eq_true_eq, decide_eq_false_iff_not, Bool.not_eq_true] at this;omega
theorem putI_srtd {l : List Int} (h : srtd l) (x : Int) : srtd (putI l x) ∧ ∀ y, y ∈ putI l x ↔ (y ∈ l ∨ y = x) := by
 unfold putI;obtain ⟨k, hk⟩ := eqx (l.findIdx (fun y => decide (x ≤ y)));rw [← hk]
 by_cases he : l[k]? = some x
 ·rw [if_pos he];refine ⟨h, fun y => ⟨.inl, ?_⟩⟩;rintro (q | rfl)
  ·exact q
  exact List.mem_of_getElem? he
 rw [if_neg he];have hlow : ∀ i (hi : i < l.length), i < k → l[i] < x := fun i hi hik => findIdx_le (by omega) hi
 have hhigh : ∀ i (hi : i < l.length), k ≤ i → x < l[i] := by
  intro i hi hki;have hkl : k < l.length := by omega
  have h1 : x ≤ l[k] := by
   have := List.findIdx_getElem (w := show l.findIdx (fun y => decide (x ≤ y)) < l.length by omega);have := of_decide_eq_true this;simpa only [← hk] using this
  have h2 : l[k] ≠ x := fun e => he (by rw [List.getElem?_eq_getElem hkl, e])
  by_cases e : k = i
  ·subst e; omega
  have := (List.pairwise_iff_getElem.1 h) k i hkl hi (by omega);omega
 refine ⟨?_, ?_⟩
 ·unfold srtd;rw [List.pairwise_append, List.pairwise_append];refine ⟨⟨List.Pairwise.sublist (List.take_sublist _ _) h, List.pairwise_singleton _ _, ?_⟩, List.Pairwise.sublist (List.drop_sublist _ _) h, ?_⟩
  ·intro a ha b hb;rw [List.mem_singleton] at hb; subst hb;obtain ⟨i, hi, rfl⟩ := List.mem_take_iff_getElem.1 ha;exact hlow i (by omega) (by omega)
  intro a ha b hb;obtain ⟨j, hj, rfl⟩ := List.mem_drop_iff_getElem.1 hb;have h2 := hhigh (k + j) (by omega) (by omega);rcases List.mem_append.1 ha with ha | ha
  ·obtain ⟨i, hi, rfl⟩ := List.mem_take_iff_getElem.1 ha;have := hlow i (by omega) (by omega);omega
  rw [List.mem_singleton] at ha; subst ha; exact h2
 intro y;have : y ∈ l ↔ (y ∈ l.take k ∨ y ∈ l.drop k) := by rw [← List.mem_append, List.take_append_drop]
 rw [this, List.mem_append, List.mem_append, List.mem_singleton];constructor
 ·rintro ((q | q) | q)
  ·exact .inl (.inl q)
  ·exact .inr q
  exact .inl (.inr q)
 rintro ((q | q) | q)
 ·exact .inl (.inl q)
 ·exact .inr q
 exact .inl (.inr q)
def setP (l : List Int) : List Int := l.foldl putI []
theorem setF_srtd : ∀ (l a : List Int), srtd a → srtd (l.foldl putI a) ∧ ∀ y, y ∈ l.foldl putI a ↔ (y ∈ a ∨ y ∈ l)
 | [], a, h => ⟨h, fun y => by simp⟩
 | x :: l, a, h => by
  have h1 := putI_srtd h x;have h2 := setF_srtd l (putI a x) h1.1;refine ⟨h2.1, fun y => ?_⟩;rw [List.foldl_cons, h2.2 y, h1.2 y, List.mem_cons, or_assoc]
theorem setP_srtd (l : List Int) : srtd (setP l) ∧ ∀ y, y ∈ setP l ↔ y ∈ l := by
 have := setF_srtd l [] List.Pairwise.nil;exact ⟨this.1, fun y => by rw [setP, this.2 y]; simp⟩
theorem places_set (u : Unf) (l : List Int) : placesI u l = setP (plK u l) := by
 unfold placesI setP plK;rw [List.foldl_map]
theorem sort_perm (l : List Int) : (sortI l).Perm l := List.mergeSort_perm _ _
theorem sort_le (l : List Int) : (sortI l).Pairwise (fun a b => a ≤ b) := by
 have := List.pairwise_mergeSort (le := fun x y : Int => decide (x ≤ y)) (fun a b c h1 h2 => by have := of_decide_eq_true h1; have := of_decide_eq_true h2; exact decide_eq_true (by omega)) (fun a b => by
  by_cases h : a ≤ b
  ·simp [h]
  simp [h, show b ≤ a by omega]) l
 exact this.imp fun h => of_decide_eq_true h
theorem rising_srtd {l : List Int} {lo hi : Int} (h : rising l lo hi = true) : srtd l := by
 rw [srtd, List.pairwise_iff_getElem];intro i j hi hj hij;exact rise_lt h j i hj hij
theorem srtd_nodup {l : List Int} (h : srtd l) : l.Nodup := h.imp fun q => by omega
theorem nodup_len : ∀ (l s : List Int), s.Nodup → (∀ x, x ∈ s → x ∈ l) → s.length ≤ l.length
 | [], s, _, h => by
  cases s with
  | nil => exact Nat.le_refl _
  | cons x s => have := h x List.mem_cons_self; cases this
 | a :: l, s, hs, h => by
  by_cases ha : a ∈ s
  ·have := nodup_len l (s.erase a) (hs.erase a) (fun x hx => by
    have hx' := (hs.mem_erase_iff).1 hx;rcases List.mem_cons.1 (h x hx'.2) with e | e
    ·exact absurd e hx'.1
    exact e)
   rw [List.length_erase_of_mem ha] at this;rw [List.length_cons]; omega
  have := nodup_len l s hs (fun x hx => by
   rcases List.mem_cons.1 (h x hx) with e | e
   ·subst e; exact absurd hx ha
   exact e)
  rw [List.length_cons]; omega
theorem nodup_full : ∀ (l s : List Int), s.Nodup → (∀ x, x ∈ s → x ∈ l) → s.length = l.length → l.Nodup
 | [], s, _, _, _ => List.nodup_nil
 | a :: l, s, hs, h, hl => by
  rw [List.length_cons] at hl
  have hsub : a ∉ s ∨ a ∈ l → ∀ x, x ∈ s → x ∈ l := by
   intro q x hx;rcases List.mem_cons.1 (h x hx) with e | e
   ·subst e;rcases q with q | q
    ·exact absurd hx q
    exact q
   exact e
  have hno : ¬ (a ∉ s ∨ a ∈ l) := fun q => by have := nodup_len l s hs (hsub q); omega
  have ha : a ∈ s := Classical.byContradiction fun q => hno (.inl q)
  rw [List.nodup_cons];refine ⟨fun q => hno (.inr q), nodup_full l (s.erase a) (hs.erase a) (fun x hx => ?_) (by rw [List.length_erase_of_mem ha]; omega)⟩;have hx' := (hs.mem_erase_iff).1 hx;rcases List.mem_cons.1 (h x hx'.2) with e | e
  ·exact absurd e hx'.1
  exact e
theorem perm_len_nodup {l : List Int} (h : (setP l).length = l.length) : l.Nodup :=
 nodup_full l (setP l) (srtd_nodup (setP_srtd l).1) (fun x hx => ((setP_srtd l).2 x).1 hx) h
theorem sort_set {l p : List Int} (hp : srtd p) : sortI l = p ↔ (l.length = p.length ∧ setP l = p) := by
 have hs := setP_srtd l;constructor
 ·intro h;have hl : l.length = p.length := by rw [← h, sortI_len]
  refine ⟨hl, srtd_ext hs.1 hp fun x => ?_⟩;rw [hs.2 x, ← h];exact (sort_perm l).mem_iff.symm
 rintro ⟨hl, h⟩;have hn : l.Nodup := perm_len_nodup (by rw [h]; omega);have hsn : (sortI l).Nodup := (sort_perm l).nodup_iff.2 hn
 have hso : srtd (sortI l) := by
  have := (sort_le l).and hsn;exact this.imp fun ⟨h1, h2⟩ => by omega
 rw [← h];refine srtd_ext hso hs.1 fun x => ?_
 rw [hs.2 x]; exact (sort_perm l).mem_iff
theorem fits_both {N : Net} {u : Unf} {L A : List ES} {h : Ev} (hN : NetS N) (hT : Tru u L A) : fitsJ N u L A h = fitsI N u h := by
 unfold fitsJ fitsI fitA fitA1
 by_cases hr : inR N h.t = true
 ·by_cases hi : rising h.pre 0 ((u.cs.length : Int) - 1) = true
  ·have hin : ∀ c, c ∈ h.pre → 0 ≤ c ∧ c < u.cs.length := fun c hc => by have := rising_in hi c hc; omega
   have hco := coset_tog hT hin (srtd_nodup (rising_srtd hi));have hpr := rising_srtd (hN.t _ (tAt_mem hr)).2.2.2.1;have hss := sort_set (l := plK u h.pre) hpr;rw [plK_len, ← places_set] at hss;rw [hr, hi, hco, fitC, decide_eq_decide.2 hss]
   have : decide (h.pre.length = (tAt N h.t).pre.length ∧ placesI u h.pre = (tAt N h.t).pre) = (decide ((h.pre.length : Int) = ((tAt N h.t).pre.length : Int)) && decide (placesI u h.pre = (tAt N h.t).pre)) := by
    rw [← Bool.decide_and]; apply decide_eq_decide.2; constructor
    ·rintro ⟨a, b⟩; exact ⟨by omega, b⟩
    rintro ⟨a, b⟩; exact ⟨by omega, b⟩
   rw [this];cases decide ((h.pre.length : Int) = ((tAt N h.t).pre.length : Int)) <;> cases decide (placesI u h.pre = (tAt N h.t).pre) <;> cases fitB u h <;> cases togI u h.pre <;> rfl
  rw [Bool.not_eq_true] at hi;rw [hi]; cases inR N h.t <;> rfl
 rw [Bool.not_eq_true] at hr;rw [hr]; rfl
set_option maxHeartbeats 1000000 in
theorem eqConds_spec (a b : List Cond) (ha : a.length ≤ 2000000) (hb : b.length ≤ 2000000) : ASpec Tryz.prog 107 [.d (vCs a), .d (vCs b)] [] (Pure1 (aT (decide (a = b)))) := by
 refine ASpec.of Tryz.func107 rfl rfl fun C hC => ?_
 refine AC.seq (AC.region ?_);refine za ?_;refine AL.nil (th_n (AC.seq (AC.seq (AC.region ?_))));refine zm ?_;refine kH ?_;refine zm ?_;refine kH ?_;refine zc ?_;refine AL.nil (th_n ?_);refine AC.condND rfl (fun h0 => ?_) (fun h0 => ?_)
 ·refine AC.seq (AC.region ?_);refine za ?_;refine AL.nil (th_n (AC.ret (th_r (bq_r ?_))));have hz : ¬ a = b := fun e => by rw [e] at h0; simp at h0
  exact ret1 rfl (by rw [decide_eq_false hz])
 refine AC.skip (th_n (AC.seq (AC.seq (AC.region ?_))));refine zm ?_;refine kH ?_;refine zm ?_;refine AL.nil (th_n (AC.block ?_));refine AC.loop (ι := Nat) (fun k => ⟨26, 8, [(0, .d (vCs a)), (1, .d (vCs b)), (12, aI a.length), (13, aI k)], []⟩) (fun k => k ≤ a.length ∧ ∀ j, j < k → a[j]? = b[j]?) (fun k => a.length - k) (0) ?_ (⟨Nat.zero_le _, fun j hj => by omega⟩) ?_
 ·refine Weak.ren _ [] hC rfl ?_ ?_ rfl rfl rfl <;> repeat (first | exact True.intro | refine And.intro ?_ ?_ | exact DLead.same)
 intro q ⟨hq, hall⟩;refine AC.seq (AC.region ?_);refine zc ?_;refine AL.nil (th_n (AC.seq ?_));refine AC.condD rfl (fun h1 => ?_) (fun h1 => ?_)
 ·refine AC.skip (th_n (AC.seq (AC.block (AC.seq ?_))));have hlen : a.length = b.length := by omega
  have hq1 : q < a.length := by omega
  have hq2 : q < b.length := by omega
  have hgetn := condsL_get hq1;have hgetu := condsL_get hq2;refine AC.region ?_;refine zm ?_;refine za ?_;refine AL.nil (th_n (AC.seq ?_));refine AC.drawn' mixed_ok [[], [], [0,1], [0,1,2], [], [], [4,5], [4,5,6], [0,1,2,3,4,5,6,7]] (by decide) ?_;refine zd 0 [] 9 (by exact mv1 rfl) ?_;refine zd 1 [] 9 (by exact mv1 rfl) ?_;refine zd 2 [0,1] 9 (by exact g_ia_view rfl rfl rfl rfl rfl (by rfl) (by assumption)) ?_;refine zd 3 [0,1,2] 9 (by exact g_load_refN rfl rfl rfl rfl) ?_;refine zd 4 [] 9 (by exact mv1 rfl) ?_;refine zd 5 [] 9 (by exact mv1 rfl) ?_;refine zd 6 [4,5] 9 (by exact g_ia_view rfl rfl rfl rfl rfl (by rfl) (by assumption)) ?_;refine zd 7 [4,5,6] 9 (by exact g_load_refN rfl rfl rfl rfl) ?_;refine zd 8 [0,1,2,3,4,5,6,7] 9 (by exact g_eq2 (by decide +kernel) rfl rfl rfl) ?_;refine zj 9 ?_;refine th_n ?_;refine AC.condND rfl (fun h2 => ?_) (fun h2 => ?_)
  ·refine AC.seq (AC.region ?_);refine za ?_;refine AL.nil (th_n (AC.ret (ib_r (th_r (th_r (ib_r (th_r (bq_r ?_))))))));exact ret1 rfl (by rw [decide_eq_false (cs_ne hq1 hq2 h2)])
  refine AC.skip (ib_n (th_n (AC.region ?_)));refine zA ?_;refine zm ?_;refine AL.nil (th_n ?_);exact ⟨q + 1, ⟨by omega, by exact cs_step hq1 hq2 hall h2⟩, by omega, Weak.ren _ [] hC rfl (by repeat (first | exact True.intro | refine And.intro ?_ ?_ | exact DLead.same)) (by repeat (exact True.intro)) rfl rfl rfl⟩
 refine AC.exit (th_e (th_e (ib_y (th_n (AC.seq (AC.region ?_))))));refine za ?_;refine AL.nil (th_n (AC.ret (bq_r ?_)));have hlen : a.length = b.length := by omega
 have hz : a = b := cs_all hlen (by omega) hall;exact ret1 rfl (by rw [decide_eq_true hz])
theorem en_eqConds : Enters Tryz.prog 107 := enters_of Tryz.func107 rfl rfl
def runLA (N : Net) : Unf → List ES → List ES → List Ev → List ES × List ES
 | _, L, A, [] => (L, A)
 | u, L, A, h :: hs => runLA N (withI N u h) (addL u L h) (addA u A h) hs
def locL (N : Net) (m : List UInt8) (u : Unf) : List ES := (runLA N ⟨madeI N m, []⟩ [] [] u.es).1
def agaA (N : Net) (m : List UInt8) (u : Unf) : List ES := (runLA N ⟨madeI N m, []⟩ [] [] u.es).2
def brRes (N : Net) (m : List UInt8) (u : Unf) : AV → List (Nat × Chunk) → Prop := if goodU N m u = true then Fun1 (.tup [.ptr 0 0, aT true]) (brChs N u (locL N m u) (agaA N m u)) else Pure1 (.tup [.dead, aT false])
theorem brRes_t {N : Net} {m : List UInt8} {u : Unf} (h : goodU N m u = true) : brRes N m u = Fun1 (.tup [.ptr 0 0, aT true]) (brChs N u (locL N m u) (agaA N m u)) := if_pos h
theorem brRes_f {N : Net} {m : List UInt8} {u : Unf} (h : goodU N m u = false) : brRes N m u = Pure1 (.tup [.dead, aT false]) := if_neg (by rw [h]; exact Bool.false_ne_true)
theorem run_es {N : Net} : ∀ {hs : List Ev} {u now : Unf}, runI N u hs = some now → now.es = u.es ++ hs
 | [], u, now, h => by rw [runI] at h; cases h; exact (List.append_nil _).symm
 | x :: hs, u, now, h => by
  rw [runI] at h
  split at h
  ·have := run_es h;rw [this]; show (u.es ++ [x]) ++ hs = _;rw [List.append_assoc]; rfl
  cases h
theorem fits_in {N : Net} {u : Unf} {h : Ev} (hf : fitsI N u h = true) : (∀ c, c ∈ h.pre → 0 ≤ c ∧ c < u.cs.length) ∧ h.pre.Nodup := by
 have hr := fits_rising hf;exact ⟨fun c hc => by have := rising_in hr c hc; omega, srtd_nodup (rising_srtd hr)⟩
theorem run_tru {N : Net} (hN : NetS N) : ∀ (hs : List Ev) (k : Nat) (u now : Unf) (L A : List ES), Now N k u → Tru u L A → k + hs.length ≤ 60 → runI N u hs = some now → Tru now (runLA N u L A hs).1 (runLA N u L A hs).2
 | [], k, u, now, L, A, hn, hT, hk, h => by rw [runI] at h; cases h; exact hT
 | x :: hs, k, u, now, L, A, hn, hT, hk, h => by
  rw [List.length_cons] at hk;rw [runI] at h
  split at h
  ·rename_i hf;have h2 := hn.fit hN (by omega) hf;have hi := fits_in hf;have hu := hn.n;exact run_tru hN hs (k + 1) _ now _ _ h2.1 (hT.add h2.1.w (by omega) hi.1 hi.2) (by omega) h
  cases h
structure Good (N : Net) (m : List UInt8) (u : Unf) : Prop where
 n : NetS N
 q : (m.length : Int) = N.places
 b : bitsB m N.places = true
 e : u.es.length ≤ 60
 c : u.cs.length ≤ 200
 r : runI N ⟨madeI N m, []⟩ u.es = some u
theorem goodU_iff {N : Net} {m : List UInt8} {u : Unf} (h : goodU N m u = true) : Good N m u := by
 unfold goodU at h;rw [Bool.and_eq_true, Bool.and_eq_true, Bool.and_eq_true] at h;obtain ⟨⟨h1, h2⟩, h3, h4⟩ := h;unfold limB at h3;rw [Bool.and_eq_true, decide_eq_true_eq, decide_eq_true_eq] at h3;have hm : (m.length : Int) = N.places := by have h5 := h2; unfold bitsB at h5; rw [Bool.and_eq_true, decide_eq_true_eq] at h5; exact h5.2
 refine ⟨good_S h1, hm, h2, by omega, by omega, ?_⟩;cases hr : runI N ⟨madeI N m, []⟩ u.es with
 | none => rw [isU_none hr] at h4; cases h4
 | some now =>
  rw [isU_some hr, decide_eq_true_eq] at h4;have he := run_es hr;congr 1;cases now; cases u;simp only at h4 he;rw [h4, he]; rfl
theorem Good.tru {N : Net} {m : List UInt8} {u : Unf} (h : Good N m u) : Tru u (locL N m u) (agaA N m u) :=
 run_tru h.n _ 0 _ _ _ _ (Now.zero h.n m) (Tru.zero h.n m) (by have := h.e; omega) h.r
set_option maxRecDepth 20000 in
set_option maxHeartbeats 8000000 in
theorem branchingOf_spec (N : Net) (m : List UInt8) (u : Unf) (hB : NetL N) (hm : m.length ≤ 2000000) (hu : UnfL u) : ASpec Tryz.prog 49 [netA N, aS (bstr m), unfA u] [] (brRes N m u) := by
 have hue := hu.e;have huc := hu.c;have hA0 := IsValidMarking_gen N m hB hm;have hL0 := isFull_spec u hue huc;obtain ⟨ask, hask⟩ := eqx ((goodN N && bitsB m N.places));obtain ⟨lim, hlim⟩ := eqx (limB u);have hgu : goodU N m u = (ask && (lim && isU N m u)) := by rw [hask, hlim]; rfl
 have hask2 : ask = true → goodN N = true ∧ bitsB m N.places = true := by intro h; rw [hask, Bool.and_eq_true] at h; exact h
 have hlim2 : lim = true → u.es.length ≤ 60 ∧ u.cs.length ≤ 200 := by intro h; rw [hlim, limB, Bool.and_eq_true, decide_eq_true_eq, decide_eq_true_eq] at h; omega
 rw [← hask] at hA0;rw [← hlim] at hL0;refine ASpec.of Tryz.func49 rfl rfl fun C hC => ?_
 refine AC.seq (AC.region ?_);refine kD ?_;refine kD ?_;refine za ?_;refine za ?_;refine AL.nil (th_n (AC.seq (AC.seq (AC.region ?_))));refine kG ?_;refine zm ?_;refine kV en_IsValidMarking hA0 ?_;refine kC ?_;refine zm ?_;refine AL.caseGB rfl rfl (fun h0 => ?_) (fun h0 => ?_)
 ·refine zn ?_;refine zn ?_;refine zQ ?_;refine AL.nil (th_n ?_);refine AC.condT rfl ?_;refine AC.seq (AC.region ?_);refine za ?_;refine za ?_;refine AL.nil (th_n (AC.ret (th_r (bq_r ?_))));have hz := and3_0 (b := lim) (c := isU N m u) h0;rw [brRes_f (hgu.trans hz)];exact ret0 rfl (by repeat (first | exact rfl | exact DLead.same | exact True.intro | refine ⟨_, _, rfl, ?_, ?_⟩ | refine ⟨_, rfl, ?_⟩))
 refine zy ?_;refine kG ?_;refine zy ?_;refine kV en_isFull hL0 ?_;refine zP ?_;refine AL.nil (th_n ?_);refine AC.condB rfl (fun h1 => ?_) (fun h1 => ?_)
 ·refine AC.seq (AC.region ?_);refine za ?_;refine za ?_;refine AL.nil (th_n (AC.ret (th_r (bq_r ?_))));have hz := and3_1 (a := ask) (c := isU N m u) h1;rw [brRes_f (hgu.trans hz)];exact ret0 rfl (by repeat (first | exact rfl | exact DLead.same | exact True.intro | refine ⟨_, _, rfl, ?_, ?_⟩ | refine ⟨_, rfl, ?_⟩))
 refine AC.skip (th_n (AC.seq ?_));have hat := (Bool.not_eq_false' _).mp h0;have hlt := (Bool.not_eq_false' _).mp h1;have hN := good_S (hask2 hat).1;have hul := hlim2 hlt;have hml : (m.length : Int) = N.places := by have h5 := (hask2 hat).2; unfold bitsB at h5; rw [Bool.and_eq_true, decide_eq_true_eq] at h5; exact h5.2
 have hM0 := newBr_spec N m hN hml;have hNow0 := Now.zero hN m;have hTru0 := Tru.zero hN m;have hgi : goodU N m u = isU N m u := by rw [hgu, hat, hlt]; rfl
 have hNB := hN.B;refine AC.region ?_;refine kG ?_;refine zm ?_;refine kU [] en_newBr hM0 ?_;refine AL.p (by exact as3 rfl) rfl ?_;refine AL.nil (th_n (AC.seq (AC.seq (AC.region ?_))));refine zf ?_;refine zr ?_;refine kH ?_;refine zm ?_;refine AL.nil (th_n (AC.block ?_));refine AC.loop (ι := Nat × Unf × List ES × List ES) (fun x => ⟨46, 136, [(3, .d (.ref (netD N))), (5, .d (.ref (unfD u))), (8, .ptr 100 0), (23, .d (vEs u.es)), (24, aI u.es.length), (25, aI x.1)], [(100, some (brC N 101 x.2.1.cs.length 102 x.2.1.es.length 103 x.2.2.1.length 104 x.2.2.2.length)), (101, some (.arr 143 2 (condsL x.2.1.cs))), (102, some (.arr 59 2 (evsL x.2.1.es))), (103, some (.arr 97 1 (esL x.2.2.1))), (104, some (.arr 97 1 (esL x.2.2.2)))]⟩) (fun x => x.1 ≤ u.es.length ∧ Now N x.1 x.2.1 ∧ Tru x.2.1 x.2.2.1 x.2.2.2 ∧ runI N x.2.1 (u.es.drop x.1) = runI N ⟨madeI N m, []⟩ u.es ∧ runLA N x.2.1 x.2.2.1 x.2.2.2 (u.es.drop x.1) = runLA N ⟨madeI N m, []⟩ [] [] u.es) (fun x => u.es.length - x.1) ((0, ⟨madeI N m, []⟩, [], [])) ?_ (⟨Nat.zero_le _, hNow0, hTru0, rfl, rfl⟩) ?_
 ·exact zw [(100, _), (101, _), (102, _), (103, _), (104, _)] hC
 rintro ⟨k, now, L, A⟩ ⟨hk, hnow, hT, hrun, hrla⟩;dsimp only at hk hnow hT hrun hrla ⊢;refine AC.seq (AC.region ?_);refine zc ?_;refine AL.nil (th_n (AC.seq ?_));refine AC.condD rfl (fun h2 => ?_) (fun h2 => ?_)
 ·refine AC.skip (th_n (AC.seq (AC.block (AC.seq ?_))));have hk1 : k < u.es.length := by omega
  have hget := evsL_get hk1;have hnl := hnow.n;have hlim5 : u.es[k].pre.length ≤ 2000000 := hu.l _ (List.getElem_mem hk1);have hF := brFits_spec N now L A u.es[k] hNB hT.w hlim5;rw [fits_both hN hT] at hF;rw [List.drop_eq_getElem_cons hk1] at hrun hrla;obtain ⟨ft, hft⟩ := eqx (fitsI N now u.es[k]);rw [← hft] at hF;refine AC.region ?_;refine AL.p (by exact g_ia_view rfl rfl rfl rfl rfl (by rfl) (by assumption)) rfl ?_;refine kG ?_;refine kE ?_;refine zs ?_;refine AL.nil (th_n (AC.seq (AC.seq (AC.region ?_))));refine AL.p (by exact mv3 rfl) rfl ?_;refine AL.p (by exact g_load_ptrN rfl rfl rfl rfl rfl) rfl ?_;refine AL.q (by exact h_borrow [100, 101, 102, 103, 104] en_brFits rfl rfl hF (br_lent [100, 101, 102, 103, 104] 100 101 102 103 104 rfl rfl rfl rfl rfl rfl rfl rfl rfl rfl (.cons (.agg (ds := evD u.es[k])) .nil)) rfl) rfl ?_;refine kC ?_;refine AL.nil (th_n ?_);refine AC.condB rfl (fun h3 => ?_) (fun h3 => ?_)
  ·refine AC.seq (AC.region ?_);refine za ?_;refine za ?_;refine AL.nil (th_n (AC.ret (th_r (ib_r (th_r (th_r (ib_r (th_r (bq_r ?_)))))))));have hff : fitsI N now u.es[k] = false := by rw [← hft]; exact (Bool.not_eq_true' _).mp h3
   rw [runI_no hff] at hrun;rw [brRes_f (hgi.trans (isU_none hrun.symm))];exact ret0 rfl (by repeat (first | exact rfl | exact DLead.same | exact True.intro | refine ⟨_, _, rfl, ?_, ?_⟩ | refine ⟨_, rfl, ?_⟩))
  refine AC.skip (th_n ?_);have hff : fitsI N now u.es[k] = true := by rw [← hft]; exact (Bool.not_eq_false' _).mp h3
  rw [runI_yes hff] at hrun;rw [runLA] at hrla;obtain ⟨hnow2, hpl⟩ := hnow.fit hN (by omega) hff;have hi := fits_in hff;have hT2 := hT.add hnow2.w (by omega) hi.1 hi.2;have hAd := brAdd_spec N now L A u.es[k] hNB hT.w (by omega) (by omega) (fits_inR hff) hi.1;refine AC.region ?_;refine AL.p (by exact mv3 rfl) rfl ?_;refine AL.p (by exact g_load_ptrN rfl rfl rfl rfl rfl) rfl ?_;refine kU [100, 101, 102, 103, 104] en_brAdd hAd ?_;refine AL.nil (ib_n (th_n (AC.region ?_)));refine zA ?_;refine zm ?_;refine AL.nil (th_n ?_);exact ⟨(k + 1, withI N now u.es[k], addL now L u.es[k], addA now A u.es[k]), ⟨by show k + 1 ≤ _; omega, hnow2, hT2, hrun, hrla⟩, by show u.es.length - (k + 1) < u.es.length - k; omega, zw [(100, _), (101, _), (102, _), (103, _), (104, _)] hC⟩
 refine AC.exit (th_e (th_e (ib_y (th_n (AC.seq ?_)))));have hkk : k = u.es.length := by omega
 rw [hkk, List.drop_length] at hrun hrla;have hU := isU_some hrun.symm;have hncl := hnow.c;have hgn : goodU N m u = decide (now.cs = u.cs) := by rw [hgi, hU]
 have hL : L = locL N m u := by unfold locL; rw [← hrla]; rfl
 have hA : A = agaA N m u := by unfold agaA; rw [← hrla]; rfl
 have hes : now.es = u.es := by have := run_es hrun.symm; exact this
 have hEq := eqConds_spec now.cs u.cs (by omega) (by omega);refine AC.drawn' mixed_ok [[], [], [1], [1,2], [1,2,3], [1,2,3,4], [], [6], [1,2,3,4,5,6,7], [0,1,2,3,4,5,6,7,8], [0,1,2,3,4,5,6,7,8,9]] (by decide) ?_;refine zd 0 [] 11 (by exact mv3 rfl) ?_;refine zd 1 [] 11 (by exact mv3 rfl) ?_;refine zd 2 [1] 11 (by exact g_nilP rfl) ?_;refine zd 3 [1,2] 11 (by exact g_fa_ptr rfl rfl rfl rfl rfl) ?_;refine zd 4 [1,2,3] 11 (by exact g_fa_ptr rfl rfl rfl rfl rfl) ?_;refine zd 5 [1,2,3,4] 11 (by exact g_load_ptr rfl rfl rfl rfl rfl) ?_;refine zd 6 [] 11 (by exact g_fa_ref rfl rfl rfl rfl rfl rfl) ?_;refine zd 7 [6] 11 (by exact g_load_ref rfl rfl rfl) ?_;refine zh 8 [1,2,3,4,5,6,7] 11 (by exact h_borrow [101] en_eqConds rfl rfl hEq (.cons (.of (.own rfl rfl (own_le _ _) (own_take _ _))) (.cons (.of .d) .nil)) rfl) ?_;refine zd 9 (List.range 9) 11 (by exact as3 rfl) ?_;refine zd 10 (List.range 10) 11 (by exact as1 rfl) ?_;refine zj 11 ?_;refine th_n (AC.ret (bq_r ?_))
 by_cases hz : now.cs = u.cs
 rotate_left
 rw [brRes_f (hgn.trans (decide_eq_false hz))];exact ret0 rfl (by rw [decide_eq_false hz]; repeat (first | exact rfl | exact DLead.same | exact True.intro | refine ⟨_, _, rfl, ?_, ?_⟩ | refine ⟨_, rfl, ?_⟩));have hnu : now = u := by cases now; cases u; simp only at hz hes; rw [hz, hes]
 rw [brRes_t (hgn.trans (decide_eq_true hz)), ← hL, ← hA];subst hnu;exact retN [(0, _), (1, _), (2, _), (3, _), (4, _)] rfl (by rw [decide_eq_true hz]; repeat (first | exact rfl | exact DLead.same | refine ⟨_, _, rfl, ?_, ?_⟩ | refine ⟨_, rfl, ?_⟩)) (by repeat (first | exact True.intro | refine And.intro ?_ ?_ | exact DLead.same | exact rfl | refine ⟨_, _, rfl, rfl, ?_⟩ | refine ⟨_, rfl, ?_⟩ | refine ⟨_, _, rfl, ?_, ?_⟩)) rfl rfl
theorem en_branchingOf : Enters Tryz.prog 49 := enters_of Tryz.func49 rfl rfl
theorem iIsValidUnf_t (N : Net) (m : List UInt8) (u : Unf) (hB : NetL N) (hm : m.length ≤ 2000000) (hu : UnfL u) (hg : goodU N m u = true) : ASpec Tryz.prog 46 [netA N, aS (bstr m), unfA u] [] (Pure1 (aT true)) := by
 have hS := branchingOf_spec N m u hB hm hu;rw [brRes_t hg] at hS;refine ASpec.of Tryz.func46 rfl rfl fun C hC => ?_
 refine AC.seq (AC.region ?_);refine kD ?_;refine kD ?_;refine za ?_;refine AL.nil (th_n (AC.seq (AC.region ?_)));refine kG ?_;refine zm ?_;refine kG ?_;refine kU [] en_branchingOf hS ?_;refine AL.p (by exact mv5 rfl) rfl ?_;refine AL.p (by exact g_extract (r := .ptr _ _) rfl rfl) rfl ?_;refine AL.p (by exact g_extract (r := .d _) rfl rfl) rfl ?_;refine AL.p (by exact as3 rfl) rfl ?_;refine za ?_;refine AL.nil (th_n (AC.seq (AC.region ?_)));refine zm ?_;refine za ?_;refine AL.nil (th_n (AC.ret (bq_r ?_)));exact ret1 rfl rfl
theorem iIsValidUnf_f (N : Net) (m : List UInt8) (u : Unf) (hB : NetL N) (hm : m.length ≤ 2000000) (hu : UnfL u) (hg : goodU N m u = false) : ASpec Tryz.prog 46 [netA N, aS (bstr m), unfA u] [] (Pure1 (aT false)) := by
 have hS := branchingOf_spec N m u hB hm hu;rw [brRes_f hg] at hS;refine ASpec.of Tryz.func46 rfl rfl fun C hC => ?_
 refine AC.seq (AC.region ?_);refine kD ?_;refine kD ?_;refine za ?_;refine AL.nil (th_n (AC.seq (AC.region ?_)));refine kG ?_;refine zm ?_;refine kG ?_;refine kU [] en_branchingOf hS ?_;refine AL.p (by exact mv5 rfl) rfl ?_;refine AL.p (by exact g_extract (r := .dead) rfl rfl) rfl ?_;refine AL.p (by exact g_extract (r := .d _) rfl rfl) rfl ?_;refine AL.p (by exact as9 rfl) rfl ?_;refine za ?_;refine AL.nil (th_n (AC.seq (AC.region ?_)));refine zm ?_;refine za ?_;refine AL.nil (th_n (AC.ret (bq_r ?_)));exact ret1 rfl rfl
theorem en_iIsValidUnf : Enters Tryz.prog 46 := enters_of Tryz.func46 rfl rfl
theorem iIsValidUnf_spec (N : Net) (m : List UInt8) (u : Unf) (hB : NetL N) (hm : m.length ≤ 2000000) (hu : UnfL u) : ASpec Tryz.prog 46 [netA N, aS (bstr m), unfA u] [] (Pure1 (aT (goodU N m u))) := by
 cases hg : goodU N m u with
 | true => exact iIsValidUnf_t N m u hB hm hu hg
 | false => exact iIsValidUnf_f N m u hB hm hu hg
open Go.ChangeShapes Go.WideShapes Go.ChangeAt Go.RowKit
section
variable {H : Type} {enc : TypeId × Value → H} {P : Program}
structure RT (enc : TypeId × Value → H) (P : Program) (t : TypeId) (k : Nat) {α : Type} (f : α → List DV) (ok : α → Prop) : Prop where
 rd : ∀ (W : World) (fuel : Nat) (cs : List Value) (x : DataW H × List MemPlace), DataW.trod enc P W 0 (fun _ => true) true fuel t cs = some x →
  cs.length = k ∧ ∃ a, ok a ∧ (f a).length = k ∧ ∀ j d, (f a)[j]? = some d → DRep (fun k => k < W.heap.size) W d (cs.getD j undef)
theorem get1 {x d : DV} {j : Nat} (h : [x][j]? = some d) : j = 0 ∧ d = x := by
 cases j with
 | zero => simp at h; exact ⟨rfl, h.symm⟩
 | succ j => simp at h
def okI (n : Int) : Prop := -9223372036854775808 ≤ n ∧ n ≤ 9223372036854775807
theorem RT.int {t : TypeId} (ht : P.underlying t = some (.int .i64)) : RT enc P t 1 (fun n : Int => [dI n]) okI := by
 refine ⟨fun W fuel cs x h => ?_⟩;obtain ⟨n, rfl, rfl, hwf⟩ := DataW.trod_int ht h;have hb := bounds_i64 hwf;refine ⟨rfl, n, hb, rfl, fun j d hj => ?_⟩;obtain ⟨rfl, rfl⟩ := get1 hj;refine .val ?_;show IntKind.i64.wrap n = n;exact wrap_i64 hb
theorem RT.bool {t : TypeId} (ht : P.underlying t = some .bool) : RT enc P t 1 (fun b : Bool => [dT b]) (fun _ => True) := by
 refine ⟨fun W fuel cs x h => ?_⟩;obtain ⟨b, rfl, rfl⟩ := DataW.trod_bool ht h;exact ⟨rfl, b, trivial, rfl, fun j d hj => by obtain ⟨rfl, rfl⟩ := get1 hj; exact .val trivial⟩
theorem RT.str {t : TypeId} (ht : P.underlying t = some .string) : RT enc P t 1 (fun s : List UInt8 => [dS (bstr s)]) (fun s => s.length ≤ 9223372036854775807) := by
 refine ⟨fun W fuel cs x h => ?_⟩;obtain ⟨s, rfl, rfl, hm⟩ := DataW.trod_string ht h;have hsz : s.data.toList.length = s.size := by simp
 have he : bstr s.data.toList = s := by
  apply ByteArray.ext
  simp [bstr]
 refine ⟨rfl, s.data.toList, by rw [hsz]; exact hm, rfl, fun j d hj => ?_⟩;simp only [he] at hj;obtain ⟨rfl, rfl⟩ := get1 hj;exact .val hm
theorem list_of {α : Type} {n : Nat} {Q : Nat → α → Prop} (h : ∀ i, i < n → ∃ a, Q i a) : ∃ l : List α, l.length = n ∧ ∀ i a, l[i]? = some a → Q i a := by
 induction n with
 | zero => exact ⟨[], rfl, fun i a h => by simp at h⟩
 | succ n ih =>
  obtain ⟨l, hl, hq⟩ := ih fun i hi => h i (by omega)
  obtain ⟨a, ha⟩ := h n (by omega);refine ⟨l ++ [a], by simp [hl], fun i b hb => ?_⟩
  by_cases hi : i < l.length
  ·rw [List.getElem?_append_left hi] at hb; exact hq i b hb
  rw [List.getElem?_append_right (by omega)] at hb
  have h0 : i - l.length = 0 := by
   by_cases e : i - l.length = 0
   ·exact e
   rw [List.getElem?_eq_none (by simp; omega)] at hb; cases hb
  rw [h0] at hb;simp at hb; subst hb;have : i = n := by omega
  subst this; exact ha
theorem RT.slice {t e : TypeId} {k : Nat} {α : Type} {f : α → List DV} {ok : α → Prop} (te : Nat) (ht : P.underlying t = some (.slice e)) (hc : P.cellsOf e = k) (hk : 0 < k) (hr : RT enc P e k f ok) :
  RT enc P t 1 (fun l : List α => [.view te k (l.map f)]) (fun l => l.length ≤ 9223372036854775807 ∧ ∀ a, a ∈ l → ok a) := by
 refine ⟨fun W fuel cs x h => ?_⟩;rcases DataW.trod_slice ht h with ⟨rfl, _⟩ | ⟨a, len, cap, elems, rest, n, _, rfl, _, _, hl, hm, hlen, hel, hsp, _⟩
 ·exact ⟨rfl, [], ⟨Nat.zero_le _, fun a ha => absurd ha List.not_mem_nil⟩, rfl, fun j d hj => by obtain ⟨rfl, rfl⟩ := get1 hj; exact .nil⟩
 refine ⟨rfl, ?_⟩;rw [hc] at hel hsp;obtain ⟨hrl, hrs⟩ := hsp rfl
 -- every element up to the capacity is there
 have hcell : ∀ i, i < cap → ∃ cs', W.cells? 0 (a.add (i * k)) k = some cs' ∧ ∃ y, DataW.trod enc P W 0 (fun _ => true) true n e cs' = some y := by
  intro i hi
  by_cases hil : i < len
  ·have h1 := hel i hil;rw [List.getElem?_eq_getElem (by omega)] at h1;obtain ⟨cs', h2, h3⟩ := Option.bind_eq_some_iff.1 h1;exact ⟨cs', h2, _, h3⟩
  have h1 := hrs (i - len) (by omega);rw [show len + (i - len) = i by omega, List.getElem?_eq_getElem (by omega)] at h1;obtain ⟨cs', h2, h3⟩ := Option.bind_eq_some_iff.1 h1;exact ⟨cs', h2, _, h3⟩
 by_cases hc0 : cap = 0
 ·subst hc0;have : len = 0 := by omega
  subst this;exact ⟨[], ⟨Nat.zero_le _, fun a ha => absurd ha List.not_mem_nil⟩, rfl, fun j d hj => by obtain ⟨rfl, rfl⟩ := get1 hj; exact .empty⟩
 obtain ⟨b, off, sp⟩ := a
 have hrow : ∀ i, i < cap → ∀ j, j < k → ∃ v, W.cell? (((⟨b, off, sp⟩ : Addr).add (i * k)).add j) = some v := by
  intro i hi j hj;obtain ⟨cs', h1, _⟩ := hcell i hi;obtain ⟨_, h2, h3⟩ := World.cells?_some h1;rw [h3 j hj, List.getElem?_eq_getElem (by omega)];exact ⟨_, rfl⟩
 have h00 := hrow 0 (by omega) 0 hk
 have hsp0 : sp = none := by
  obtain ⟨v, hv⟩ := h00;cases sp with
  | none => rfl
  | some q =>
   unfold World.cell? Addr.add at hv
   split at hv
   ·split at hv <;> simp_all
   cases hv
 subst hsp0;have hadd : ∀ i j, ((⟨b, off, none⟩ : Addr).add (i * k)).add j = ⟨b, off + i * k + j, none⟩ := fun i j => by rw [Addr.add_mid, Addr.add_mid]
 simp only [hadd] at hrow
 obtain ⟨arr, e2, fz, hb⟩ : ∃ arr e2 fz, W.heap[b]? = some (.cells arr e2 fz) := by
  obtain ⟨v, hv⟩ := hrow 0 (by omega) 0 hk;unfold World.cell? at hv
  split at hv
  ·rename_i c e2 fz hb; exact ⟨c, e2, fz, hb⟩
  cases hv
 have hget : ∀ q, W.cell? ⟨b, q, none⟩ = arr[q]? := by intro q; simp [World.cell?, hb]
 have hsz : off + cap * k ≤ arr.size := by
  obtain ⟨v, hv⟩ := hrow (cap - 1) (by omega) (k - 1) (by omega);rw [hget] at hv;have := (Array.getElem?_eq_some_iff.1 hv).1;obtain ⟨c, rfl⟩ : ∃ c, cap = c + 1 := ⟨cap - 1, by omega⟩;rw [Nat.add_sub_cancel] at this;rw [Nat.succ_mul]; omega
 have hall : ∀ i, i < len → ∃ a, ok a ∧ (f a).length = k ∧ ∀ j d, (f a)[j]? = some d → DRep (fun k => k < W.heap.size) W d (arr.getD (off + i * k + j) undef) := by
  intro i hi;obtain ⟨cs', h1, y, h2⟩ := hcell i (by omega);obtain ⟨h3, a, h4, h5, h6⟩ := hr.rd W n cs' y h2;obtain ⟨_, h7, h8⟩ := World.cells?_some h1;refine ⟨a, h4, h5, fun j d hj => ?_⟩;have hj1 := (List.getElem?_eq_some_iff.1 hj).1;have h9 := h8 j (by omega);rw [hadd, hget] at h9
  have : arr.getD (off + i * k + j) undef = cs'.getD j undef := by
   rw [Array.getD_eq_getD_getElem?, h9, List.getD_eq_getElem?_getD]
  rw [this];exact h6 j d hj
 obtain ⟨l, hll, hq⟩ := list_of hall
 have hin : ∀ a, a ∈ l → ok a ∧ (f a).length = k := by
  intro a ha;obtain ⟨i, hi⟩ := List.getElem?_of_mem ha;exact ⟨(hq i a hi).1, (hq i a hi).2.1⟩
 refine ⟨l, ⟨by have : cap ≤ 9223372036854775807 := hm; omega, fun a ha => (hin a ha).1⟩, rfl, fun j d hj => ?_⟩;obtain ⟨rfl, rfl⟩ := get1 hj;have hle : (l.map f).length = len := by rw [List.length_map, hll]
 have hv := DRep.view (F := fun k => k < W.heap.size) (w := W) (e := te) (sz := k) (els := l.map f) (b := b) (off := off) (cap := cap) (arr := arr) (lt_of_block hb) hb (by omega) hm hsz (fun i cs hi => ?_) (fun i cs j d hi hj => ?_)
 ·rw [hle] at hv; exact hv
 ·rw [List.getElem?_map, Option.map_eq_some_iff] at hi;obtain ⟨a, ha, rfl⟩ := hi;exact (hin a (List.mem_of_getElem? ha)).2
 rw [List.getElem?_map, Option.map_eq_some_iff] at hi;obtain ⟨a, ha, rfl⟩ := hi;exact (hq i a ha).2.2 j d hj
theorem RT.imp {t : TypeId} {k : Nat} {α β : Type} {f : α → List DV} {ok : α → Prop} {f' : β → List DV} {ok' : β → Prop} (h : RT enc P t k f ok) (g : α → β) (hf : ∀ a, ok a → f' (g a) = f a) (ho : ∀ a, ok a → ok' (g a)) : RT enc P t k f' ok' :=
 ⟨fun W fuel cs x hx => by
  obtain ⟨h1, a, h2, h3, h4⟩ := h.rd W fuel cs x hx
  exact ⟨h1, g a, ho a h2, by rw [hf a h2]; exact h3, by rw [hf a h2]; exact h4⟩⟩
end
inductive AReps (m : Nat → Option (Option Nat × Nat)) (F : Nat → Prop) (W : World) : List AV → List Value → Prop
 | nil : AReps m F W [] []
 | cons {x : AV} {v : Value} {xs : List AV} {vs : List Value} : ARep m F W x v → AReps m F W xs vs → AReps m F W (x :: xs) (v :: vs)
theorem AReps.at {m : Nat → Option (Option Nat × Nat)} {F : Nat → Prop} {W : World} {xs : List AV} {vs : List Value} (h : AReps m F W xs vs) : ∀ (i : Nat) a, xs[i]? = some a → ARep m F W a (vs.toArray.getD i undef) := by
 have key : ∀ (i : Nat) a, xs[i]? = some a → ARep m F W a (vs.getD i undef) := by
  induction h with
  | nil => intro i a h; simp at h
  | cons h _ ih =>
   intro i a hi;cases i with
   | zero => simp at hi; subst hi; exact h
   | succ i => simp at hi; exact ih i a hi
 intro i a hi;have := key i a hi;have e : vs.toArray.getD i undef = vs.getD i undef := by simp [List.getD_eq_getElem?_getD, Array.getD_eq_getD_getElem?]
 rwa [e]
def PL (N : Net) (u : Unf) : Prop := ∀ c, c ∈ u.cs → 0 ≤ c.place ∧ c.place < N.places
theorem run_pl {N : Net} (hN : NetS N) : ∀ (hs : List Ev) (u now : Unf), PL N u → runI N u hs = some now → PL N now
 | [], u, now, hp, h => by rw [runI] at h; cases h; exact hp
 | x :: hs, u, now, hp, h => by
  rw [runI] at h
  split at h
  ·rename_i hf;refine run_pl hN hs _ now ?_ h;intro c hc;rcases List.mem_append.1 hc with h1 | h1
   ·exact hp c h1
   obtain ⟨p, hp', rfl⟩ := List.mem_map.1 h1;have := rising_in (hN.t _ (tAt_mem (fits_inR hf))).2.2.2.2 p hp';show 0 ≤ p ∧ p < _;omega
  cases h
theorem Good.pl {N : Net} {m : List UInt8} {u : Unf} (h : Good N m u) : PL N u := by
 refine run_pl h.n _ _ _ ?_ h.r;intro c hc;obtain ⟨p, hp, rfl⟩ := List.mem_map.1 hc;have := List.mem_range.1 (List.mem_filter.1 hp).1;have := h.n.p;show 0 ≤ (p : Int) ∧ (p : Int) < _;omega
def lexI : List Int → List Int → Int
 | [], [] => 0
 | [], _ :: _ => -1
 | _ :: _, [] => 1
 | a :: as', b :: bs => if a < b then -1 else if b < a then 1 else lexI as' bs
def aheadI : List Int → List Int → Bool
 | [], [] => false
 | [], _ :: _ => true
 | _ :: _, [] => false
 | a :: as', b :: bs => if a = b then aheadI as' bs else decide (a < b)
theorem lex_ahead : ∀ (x y : List Int), lexI x y = if aheadI x y = true then -1 else if x = y then 0 else 1
 | [], [] => rfl
 | [], _ :: _ => rfl
 | _ :: _, [] => rfl
 | a :: x, b :: y => by
  rw [lexI, aheadI, lex_ahead x y]
  by_cases h : a = b
  ·subst h;rw [if_neg (Int.lt_irrefl _), if_neg (Int.lt_irrefl _), if_pos rfl];simp
  rw [if_neg h]
  by_cases h2 : a < b
  ·rw [if_pos h2, if_pos (decide_eq_true h2)]
  rw [if_neg h2, if_pos (by omega), if_neg (by simpa using h2), if_neg (by simp [h])]
def nI : List Int → DV
 | [] => .val (.slice none 0 0)
 | x :: l => vI (x :: l)
theorem nI_lead : ∀ l : List Int, DLead (vI l) (.d (nI l))
 | [] => .nil
 | _ :: _ => .same
theorem nI_ne : ∀ {l : List Int}, l ≠ [] → nI l = vI l
 | [], h => absurd rfl h
 | _ :: _, _ => rfl
abbrev nIs (l : List (List Int)) : List (List DV) := l.map fun x => [nI x]
abbrev vNs (l : List (List Int)) : DV := .view 36 1 (nIs l)
theorem nIs_len (l : List (List Int)) : (nIs l).length = l.length := List.length_map _
theorem nIs_get {l : List (List Int)} {k : Nat} (h : k < l.length) : (nIs l)[k]? = some [nI l[k]] := by rw [List.getElem?_map, List.getElem?_eq_getElem h]; rfl
theorem h_appendN (acc : List (List Int)) (z : List Int) (hz : z ≠ []) {s : ASt} {dst : Option Nat} {ty : Nat} {pos : String} {af : Array Edge} {gd : Option (Nat × Bool)} {x y : Operand} {f : Nat} {ids ids2 : List Nat} {gone : List (Nat × Option Chunk)}
  (hto : AppTo s x 36 1 (nIs acc) ids gone) (harg : AppArg s y 1 [[vI z]] ids2) (h : acc.length + 1 ≤ 100000000) :
  NOp Tryz.prog (ids ++ ids2) s ⟨dst, .call { callee := .builtin .append, args := #[x, y], argTypes := #[168, 168] }, ty, pos, af, gd⟩ f ⟨.own f (acc ++ [z]).length, (f, some (.arr 36 1 (nIs (acc ++ [z])))) :: gone⟩ := by
 have hl : (acc ++ [z]).length = acc.length + 1 := by rw [List.length_append]; rfl
 have := h_append (P := Tryz.prog) (s := s) (dst := dst) (ty := ty) (pos := pos) (af := af) (gd := gd) (x := x) (y := y) (f := f) (t := 168) (tx := 168) (k := (acc ++ [z]).length) rfl rfl rfl rfl rfl rfl hto harg (by rw [hl, nIs_len]; rfl) (by omega) (by show (acc ++ [z]).length * 24 ≤ _; omega) (fun _ => by show 0 < 1; omega);have e : nIs acc ++ [[vI z]] = nIs (acc ++ [z]) := by unfold nIs; rw [List.map_append, List.map_cons, List.map_nil, nI_ne hz]
 rwa [e] at this
theorem putI_ne (l : List Int) (x : Int) : putI l x ≠ [] := by
 intro h;have := putI_len l x;unfold putI at h
 split at h
 ·rename_i q;rw [h] at q;simp at q
 simp at h
def chO (u : Unf) (p : Int) (l : List Int) (k : Nat) : List (List Int) := ((List.range k).filter fun (c : Nat) => decide ((cAt u (c : Int)).place = p) && togI u (putI l (c : Int))).map fun (c : Nat) => putI l (c : Int)
theorem chO_succ (u : Unf) (p : Int) (l : List Int) (k : Nat) : chO u p l (k + 1) = chO u p l k ++ (if (decide ((cAt u (k : Int)).place = p) && togI u (putI l (k : Int))) = true then [putI l (k : Int)] else []) := by
 unfold chO;rw [List.range_succ, List.filter_append, List.map_append];congr 1;rw [List.filter_cons, List.filter_nil]
 split <;> rfl
theorem chO_len (u : Unf) (p : Int) (l : List Int) (k : Nat) : (chO u p l k).length ≤ k := by
 unfold chO;rw [List.length_map];exact Nat.le_trans (List.length_filter_le _ _) (by rw [List.length_range]; exact Nat.le_refl _)
def chN (u : Unf) (p : Int) (out : List (List Int)) (j : Nat) : List (List Int) := (out.take j).flatMap fun l => chO u p l u.cs.length
theorem chN_succ {u : Unf} {p : Int} {out : List (List Int)} {j : Nat} (h : j < out.length) : chN u p out (j + 1) = chN u p out j ++ chO u p out[j] u.cs.length := by
 unfold chN;rw [List.take_add_one, List.getElem?_eq_getElem h, List.flatMap_append];simp
theorem chN_len (u : Unf) (p : Int) (out : List (List Int)) : ∀ j, j ≤ out.length → (chN u p out j).length ≤ j * u.cs.length
 | 0, _ => Nat.le_of_eq (by rw [Nat.zero_mul]; rfl)
 | j + 1, h => by
  rw [chN_succ h, List.length_append, Nat.succ_mul];exact Nat.add_le_add (chN_len u p out j (Nat.le_of_succ_le h)) (chO_len ..)
def chF (u : Unf) (ps : List Int) : List (List Int) := ps.foldl (fun out p => chN u p out out.length) [[]]
theorem chF_succ {u : Unf} {ps : List Int} {i : Nat} (h : i < ps.length) : chF u (ps.take (i + 1)) = chN u ps[i] (chF u (ps.take i)) (chF u (ps.take i)).length := by
 unfold chF;rw [List.take_add_one, List.getElem?_eq_getElem h, List.foldl_append]; rfl
def ChOk (u : Unf) (i : Nat) (out : List (List Int)) : Prop := ∀ l, l ∈ out → srtd l ∧ l.length ≤ i ∧ ∀ c, c ∈ l → 0 ≤ c ∧ c < u.cs.length
theorem put_ok {u : Unf} {i : Nat} {l : List Int} {k : Nat} (hk : k < u.cs.length) (h : srtd l ∧ l.length ≤ i ∧ ∀ c, c ∈ l → 0 ≤ c ∧ c < u.cs.length) : srtd (putI l (k : Int)) ∧ (putI l (k : Int)).length ≤ i + 1 ∧ ∀ c, c ∈ putI l (k : Int) → 0 ≤ c ∧ c < u.cs.length := by
 obtain ⟨h1, h2⟩ := putI_srtd h.1 (k : Int);refine ⟨h1, Nat.le_trans (putI_len _ _) (by omega), fun c hc => ?_⟩;rcases (h2 c).1 hc with q | q
 ·exact h.2.2 c q
 omega
theorem chN_ok {u : Unf} {p : Int} {i j : Nat} {out : List (List Int)} (h : ChOk u i out) : ChOk u (i + 1) (chN u p out j) := by
 intro z hz;obtain ⟨l, hl, hz⟩ := List.mem_flatMap.1 hz;obtain ⟨c, hc, rfl⟩ := List.mem_map.1 hz;exact put_ok (List.mem_range.1 (List.mem_filter.1 hc).1) (h l (List.mem_of_mem_take hl))
theorem chF_ok (u : Unf) (ps : List Int) : ∀ i, i ≤ ps.length → ChOk u i (chF u (ps.take i))
 | 0, _ => fun l hl => by
  have : l = [] := List.mem_singleton.1 hl;subst this;exact ⟨List.Pairwise.nil, Nat.le_refl _, fun c hc => absurd hc List.not_mem_nil⟩
 | i + 1, h => by rw [chF_succ h]; exact chN_ok (chF_ok u ps i (Nat.le_of_succ_le h))
theorem chF_len (u : Unf) (ps : List Int) : ∀ i, i ≤ ps.length → (chF u (ps.take i)).length ≤ u.cs.length ^ i
 | 0, _ => Nat.le_refl _
 | i + 1, h => by
  rw [chF_succ h, Nat.pow_succ];exact Nat.le_trans (chN_len u _ _ _ (Nat.le_refl _)) (Nat.mul_le_mul_right _ (chF_len u ps i (Nat.le_of_succ_le h)))
theorem pow_200 {n i : Nat} (h : n ≤ 200) (hi : i ≤ 3) : n ^ i ≤ 8000000 := Nat.le_trans (Nat.pow_le_pow_left h i) (Nat.le_trans (Nat.pow_le_pow_right (by decide) hi) (by decide))
set_option maxHeartbeats 16000000 in
theorem l7Choices_spec (u : Unf) (ps : List Int) (hw : WF u) (hc : u.cs.length ≤ 200) (hp : ps.length ≤ 3) : ASpec Tryz.prog 142 [unfA u, .d (vI ps)] [] (Pure1 (.d (vNs (chF u ps)))) := by
 refine ASpec.of Tryz.func142 rfl rfl fun C hC => ?_
 refine AC.seq (AC.region ?_);refine kD ?_;refine za ?_;refine AL.nil (th_n (AC.seq (AC.region ?_)));refine AL.q (by exact h_litF rfl rfl rfl rfl rfl rfl rfl rfl) rfl ?_;refine za ?_;refine AL.nil (th_n (AC.seq (AC.seq (AC.region ?_))));refine zm ?_;refine kI ps.length (ints_len _) ?_;refine zm ?_;refine AL.nil (th_n (AC.block ?_));refine AC.loop (ι := Nat) (fun i => ⟨54, 300, [(2, .d (.ref (unfD u))), (5, .d (vNs (chF u (ps.take i)))), (15, .d (vI ps)), (16, aI ps.length), (17, aI i)], []⟩) (fun i => i ≤ ps.length) (fun i => ps.length - i) (0) ?_ (Nat.zero_le _) ?_
 ·exact Weak.ren _ [] hC rfl (by repeat (first | exact True.intro | refine And.intro ?_ ?_ | exact DLead.same)) (by repeat (exact True.intro)) rfl rfl rfl
 intro i hi;refine AC.seq (AC.region ?_);refine zc ?_;refine AL.nil (th_n (AC.seq ?_));refine AC.condD rfl (fun h0 => ?_) (fun h0 => ?_)
 ·refine AC.skip (th_n (AC.seq (AC.block (AC.seq ?_))));have hi1 : i < ps.length := by omega
  have hgp := ints_at hi1;have hsn := chF_succ (u := u) hi1;have hok := chF_ok u ps i hi;have hln := chF_len u ps i hi;have hln2 := chF_len u ps (i + 1) hi1;have hpw := pow_200 (i := i) hc (by omega);have hpw2 := pow_200 (i := i + 1) hc (by omega);obtain ⟨out, ho⟩ := eqx (chF u (ps.take i));rw [← ho] at hok hln hsn ⊢;obtain ⟨p, hpp⟩ := eqx (ps[i]);rw [← hpp] at hgp hsn;have hcl := chN_len u p out;have hmul : ∀ j, j < out.length → (j + 1) * u.cs.length ≤ 8000000 := fun j hj => Nat.le_trans (Nat.mul_le_mul_right _ (Nat.le_trans hj hln)) (by rw [Nat.pow_succ] at hpw2; exact hpw2)
  refine AC.region ?_;refine AL.p (by exact g_ia_view rfl rfl rfl rfl rfl (by rfl) (by assumption)) rfl ?_;refine zr ?_;refine za ?_;refine AL.nil (th_n (AC.seq (AC.region ?_)));refine za ?_;refine AL.nil (th_n (AC.seq (AC.seq (AC.region ?_))));refine zm ?_;refine kI out.length (nIs_len _) ?_;refine zm ?_;refine AL.nil (th_n (AC.block ?_));refine AC.loop (ι := Nat) (fun j => ⟨54, 600, [(2, .d (.ref (unfD u))), (7, aI p), (8, .own 100 (chN u p out j).length), (15, .d (vI ps)), (16, aI ps.length), (17, aI i), (21, .d (vNs out)), (22, aI out.length), (23, aI j)], [(100, some (.arr 36 1 (nIs (chN u p out j))))]⟩) (fun j => j ≤ out.length) (fun j => out.length - j) (0) ?_ (Nat.zero_le _) ?_
  ·exact (Weak.nilOwn (i := 8) (e := 36) (sz := 1) rfl (by decide)).trans (zw [(100, _)] hC)
  intro j hj;refine AC.seq (AC.region ?_);refine zc ?_;refine AL.nil (th_n (AC.seq ?_));refine AC.condD rfl (fun h1 => ?_) (fun h1 => ?_)
  ·refine AC.skip (th_n (AC.seq (AC.block (AC.seq ?_))));have hj1 : j < out.length := by omega
   have hgl := nIs_get hj1;have hlj := hok _ (List.getElem_mem hj1);have hsj := chN_succ (u := u) (p := p) hj1;have hcj := hcl j hj;have hmj := hmul j hj1;rw [Nat.succ_mul] at hmj;obtain ⟨l, hl⟩ := eqx (out[j]);rw [← hl] at hgl hlj hsj;obtain ⟨B, hB⟩ := eqx (chN u p out j);rw [← hB] at hsj hcj ⊢;refine AC.region ?_;refine AL.p (by exact g_ia_view rfl rfl rfl rfl rfl (by rfl) (by assumption)) rfl ?_;refine zr ?_;refine za ?_;refine AL.nil (th_n (AC.seq (AC.region ?_)));refine zf ?_;refine zr ?_;refine kH ?_;refine zm ?_;refine AL.nil (th_n (AC.block ?_));refine AC.loop (ι := Nat) (fun k => ⟨54, 900, [(2, .d (.ref (unfD u))), (7, aI p), (8, .own 100 (B ++ chO u p l k).length), (10, .d (vI l)), (15, .d (vI ps)), (16, aI ps.length), (17, aI i), (21, .d (vNs out)), (22, aI out.length), (23, aI j), (28, .d (vCs u.cs)), (29, aI u.cs.length), (30, aI k)], [(100, some (.arr 36 1 (nIs (B ++ chO u p l k))))]⟩) (fun k => k ≤ u.cs.length) (fun k => u.cs.length - k) (0) ?_ (Nat.zero_le _) ?_
   ·refine Weak.ren _ [(100, 100)] hC rfl ?_ (by rw [show chO u p l 0 = [] from rfl, List.append_nil]; repeat (first | exact True.intro | refine And.intro ?_ ?_ | exact rfl | refine ⟨_, _, rfl, rfl, ?_⟩)) rfl rfl rfl; rw [show chO u p l 0 = [] from rfl, List.append_nil]; repeat (first | exact True.intro | refine And.intro ?_ ?_ | exact DLead.same | exact nI_lead _ | exact rfl | refine ⟨_, rfl, ?_⟩)
   intro k hk;refine AC.seq (AC.region ?_);refine zc ?_;refine AL.nil (th_n (AC.seq ?_));refine AC.condD rfl (fun h2 => ?_) (fun h2 => ?_)
   ·refine AC.skip (th_n (AC.seq (AC.block (AC.seq ?_))));have hk1 : k < u.cs.length := by omega
    have hgc := condsL_get hk1;have hcv : cAt u (k : Int) = u.cs[k] := cAt_nat hk1;have hks := chO_succ u p l k;rw [hcv] at hks;have hkl := chO_len u p l k;have hpo := put_ok hk1 hlj;have hP1 := l1Put_spec l (k : Int) (by omega);have hne := putI_ne l (k : Int);obtain ⟨z, hz⟩ := eqx (putI l (k : Int));rw [← hz] at hks hpo hP1 hne;have hT := l7Together_spec u z hw (by omega) hpo.2.2;obtain ⟨b, hb⟩ := eqx (togI u z);rw [← hb] at hks hT;refine AC.region ?_;refine zm ?_;refine AL.p (by exact g_ia_view rfl rfl rfl rfl rfl (by rfl) (by assumption)) rfl ?_;refine kG ?_;refine kE ?_;refine za ?_;refine zs ?_;refine AL.nil (th_n (AC.seq (AC.seq (AC.region ?_))));refine zF ?_;refine zl ?_;refine zm ?_;refine zc ?_;refine AL.nil (th_n ?_);refine AC.condND rfl (fun h3 => ?_) (fun h3 => ?_)
    ·refine AC.exit (th_e (ib_y (th_n (AC.region ?_))));refine zA ?_;refine zm ?_;refine AL.nil (th_n ?_)
     (have q2 : ¬ u.cs[k].place = p := (by assumption); rw [decide_eq_false q2, Bool.false_and, if_neg (by decide), List.append_nil] at hks; exact ⟨k + 1, by omega, by omega, zw [(100, 100)] hC (by rw [hks]; repeat (first | exact True.intro | refine And.intro ?_ ?_ | exact DLead.same | exact rfl | refine ⟨_, rfl, ?_⟩)) (by rw [hks]; repeat (first | exact True.intro | refine And.intro ?_ ?_ | exact rfl | refine ⟨_, _, rfl, rfl, ?_⟩))⟩)
    refine AC.skip (th_n (AC.seq (AC.region ?_)));refine zm ?_;refine zm ?_;refine kV en_l1Put hP1 ?_;refine za ?_;refine AL.nil (th_n (AC.seq (AC.region ?_)));refine kG ?_;refine zm ?_;refine kV en_l7Together hT ?_;refine AL.nil (th_n ?_);refine AC.condB rfl (fun h4 => ?_) (fun h4 => ?_)
    ·refine AC.region ?_;refine kB ?_;refine zm ?_;refine AL.q (by exact h_litF rfl rfl rfl rfl rfl rfl rfl rfl) rfl ?_;refine AL.q (by exact h_appendN (B ++ chO u p l k) z hne (.own rfl rfl (nIs_len _).symm) (.view rfl) (by rw [List.length_append]; omega)) rfl ?_;refine AL.p (by exact as2 rfl) rfl ?_;refine AL.nil (ib_n (th_n (AC.region ?_)));refine zA ?_;refine zm ?_;refine AL.nil (th_n ?_)
     (have q1 := ‹b = true›; have q2 : u.cs[k].place = p := (by assumption); rw [q1, decide_eq_true q2, Bool.true_and, if_pos rfl] at hks; exact ⟨k + 1, by omega, by omega, zw [(100, _)] hC (by rw [hks, ← List.append_assoc]; repeat (first | exact True.intro | refine And.intro ?_ ?_ | exact DLead.same | exact rfl | refine ⟨_, rfl, ?_⟩)) (by rw [hks, ← List.append_assoc]; repeat (first | exact True.intro | refine And.intro ?_ ?_ | exact rfl | refine ⟨_, _, rfl, rfl, ?_⟩))⟩)
    refine AC.skip (ib_n (th_n (AC.region ?_)));refine zA ?_;refine zm ?_;refine AL.nil (th_n ?_)
    (have q1 := ‹b = false›; rw [q1, Bool.and_false, if_neg (by decide), List.append_nil] at hks; exact ⟨k + 1, by omega, by omega, zw [(100, 100)] hC (by rw [hks]; repeat (first | exact True.intro | refine And.intro ?_ ?_ | exact DLead.same | exact rfl | refine ⟨_, rfl, ?_⟩)) (by rw [hks]; repeat (first | exact True.intro | refine And.intro ?_ ?_ | exact rfl | refine ⟨_, _, rfl, rfl, ?_⟩))⟩)
   refine AC.exit (th_e (th_e (ib_y (ib_n (th_n (AC.region ?_))))));refine zA ?_;refine zm ?_;refine AL.nil (th_n ?_);have hkk : k = u.cs.length := by omega
   subst hkk;exact ⟨j + 1, by omega, by omega, zw [(100, 100)] hC (by rw [hsj]; repeat (first | exact True.intro | refine And.intro ?_ ?_ | exact DLead.same | exact rfl | refine ⟨_, rfl, ?_⟩)) (by rw [hsj]; repeat (first | exact True.intro | refine And.intro ?_ ?_ | exact rfl | refine ⟨_, _, rfl, rfl, ?_⟩))⟩
  refine AC.exit (th_e (th_e (ib_y (th_n ?_))));have hjj : j = out.length := by omega
  rw [hjj, ← hsn];refine AC.weak (Weak.freeze (els := nIs (chF u (ps.take (i + 1)))) (i := 8) rfl rfl (Nat.le_of_eq (nIs_len _).symm) (List.take_of_length_le (Nat.le_of_eq (nIs_len _)))) ?_;refine AC.region ?_;refine zm ?_;refine za ?_;refine AL.nil (ib_n (th_n (AC.region ?_)));refine zA ?_;refine zm ?_;refine AL.nil (th_n ?_);exact ⟨i + 1, by omega, by omega, Weak.ren _ [] hC rfl (by repeat (first | exact True.intro | refine And.intro ?_ ?_ | exact DLead.same)) (by repeat (exact True.intro)) rfl rfl rfl⟩
 refine AC.exit (th_e (th_e (ib_y (th_n (AC.seq ?_)))));have hii : i = ps.length := by omega
 rw [hii, List.take_length];refine AC.region ?_;refine zm ?_;refine za ?_;refine AL.nil (th_n (AC.ret (bq_r ?_)));exact ret1 rfl rfl
theorem en_l7Choices : Enters Tryz.prog 142 := enters_of Tryz.func142 rfl rfl
theorem c1 {q b1 b2 : Bool} (hq : q = ((true || b1) && !b2)) (h : (!b2) = true) : q = true := by rw [hq, h]; rfl
theorem c2 {q b1 b2 : Bool} (hq : q = ((true || b1) && !b2)) (h : (!b2) = false) : q = false := by rw [hq, h]; rfl
theorem ahead_at : ∀ {x y : List Int} {k : Nat}, (∀ i, i < k → x[i]? = y[i]?) → k ≤ x.length → k ≤ y.length → aheadI x y = aheadI (x.drop k) (y.drop k)
 | x, y, 0, _, _, _ => by simp
 | [], _, k + 1, _, h, _ => by simp at h
 | _ :: _, [], k + 1, _, _, h => by simp at h
 | a :: x, b :: y, k + 1, h, hx, hy => by
  have h0 := h 0 (by omega);simp only [List.getElem?_cons_zero, Option.some.injEq] at h0;rw [aheadI, if_pos h0, List.drop_succ_cons, List.drop_succ_cons];exact ahead_at (fun i hi => by have := h (i + 1) (by omega); simpa using this) (by simpa using hx) (by simpa using hy)
theorem ahead_ne {x y : List Int} {k : Nat} (h : ∀ i, i < k → x[i]? = y[i]?) (hx : k < x.length) (hy : k < y.length) (hne : ¬ x[k] = y[k]) : aheadI x y = decide (x[k] < y[k]) := by
 rw [ahead_at h (by omega) (by omega), List.drop_eq_getElem_cons hx, List.drop_eq_getElem_cons hy, aheadI, if_neg hne]
theorem ahead_end {x y : List Int} {k : Nat} (h : ∀ i, i < k → x[i]? = y[i]?) (hx : k ≤ x.length) (hy : k ≤ y.length) (he : x.length ≤ k ∨ y.length ≤ k) : aheadI x y = decide ((x.length : Int) < y.length) := by
 rw [ahead_at h hx hy]
 by_cases hxk : x.length ≤ k
 ·have : x.drop k = [] := List.drop_eq_nil_of_le hxk;rw [this]
  by_cases hyk : y.length ≤ k
  ·have : y.drop k = [] := List.drop_eq_nil_of_le hyk;rw [this, aheadI, decide_eq_false (by omega)]
  rw [List.drop_eq_getElem_cons (by omega), aheadI, decide_eq_true (by omega)]
 have hyk : y.length ≤ k := by omega
 have h1 : y.drop k = [] := List.drop_eq_nil_of_le hyk;rw [h1, List.drop_eq_getElem_cons (by omega), aheadI, decide_eq_false (by omega)]
theorem eq_step {x y : List Int} {k : Nat} (h : ∀ i, i < k → x[i]? = y[i]?) (hx : k < x.length) (hy : k < y.length) (he : x[k] = y[k]) : ∀ i, i < k + 1 → x[i]? = y[i]? := by
 intro i hi;rcases Nat.lt_succ_iff_lt_or_eq.1 hi with h' | rfl
 ·exact h i h'
 rw [List.getElem?_eq_getElem hx, List.getElem?_eq_getElem hy, he]
set_option maxHeartbeats 2000000 in
theorem l7Ahead_spec (x y : List Int) (hx : x.length ≤ 1000000) (hy : y.length ≤ 1000000) : ASpec Tryz.prog 163 [.d (vI x), .d (vI y)] [] (Pure1 (aT (aheadI x y))) := by
 refine ASpec.of Tryz.func163 rfl rfl fun C hC => ?_
 refine AC.seq (AC.region ?_);refine za ?_;refine AL.nil (th_n (AC.seq (AC.seq (AC.region ?_))));refine za ?_;refine AL.nil (th_n (AC.block ?_));refine AC.loop (ι := Nat) (fun k => ⟨41, 8, [(0, .d (vI x)), (1, .d (vI y)), (5, aI k)], []⟩) (fun k => k ≤ x.length ∧ k ≤ y.length ∧ ∀ i, i < k → x[i]? = y[i]?) (fun k => x.length - k) (0) ?_ (⟨Nat.zero_le _, Nat.zero_le _, fun i hi => by omega⟩) ?_
 ·refine Weak.ren _ [] hC rfl ?_ ?_ rfl rfl rfl <;> repeat (first | exact True.intro | refine And.intro ?_ ?_ | exact DLead.same)
 intro k ⟨hk, hky, hall⟩;refine AC.seq (AC.seq (AC.region ?_));refine zm ?_;refine zm ?_;refine kH ?_;refine zc ?_;refine zm ?_;refine AL.caseG rfl rfl (fun h0 => ?_) (fun h0 => ?_)
 ·refine zy ?_;refine zm ?_;refine zy ?_;refine zm ?_;refine zy ?_;refine kH ?_;refine zy ?_;refine zc ?_;refine zQ ?_;refine AL.nil (th_n ?_);refine AC.condD rfl (fun h1 => ?_) (fun h1 => ?_)
  ·refine AC.skip (th_n (AC.seq (AC.block (AC.seq ?_))));have hkx1 : k < x.length := by omega
   have hky1 : k < y.length := by omega
   have hgx := ints_at hkx1;have hgy := ints_at hky1;refine AC.drawn' mixed_ok [[], [], [0,1], [0,1,2], [], [], [4,5], [4,5,6], [0,1,2,3,4,5,6,7]] (by decide) ?_;refine zd 0 [] 9 (by exact mv1 rfl) ?_;refine zd 1 [] 9 (by exact mv1 rfl) ?_;refine zd 2 [0,1] 9 (by exact g_ia_view rfl rfl rfl rfl rfl (by rfl) (by assumption)) ?_;refine zd 3 [0,1,2] 9 (by exact g_load_ref rfl rfl rfl) ?_;refine zd 4 [] 9 (by exact mv1 rfl) ?_;refine zd 5 [] 9 (by exact mv1 rfl) ?_;refine zd 6 [4,5] 9 (by exact g_ia_view rfl rfl rfl rfl rfl (by rfl) (by assumption)) ?_;refine zd 7 [4,5,6] 9 (by exact g_load_ref rfl rfl rfl) ?_;refine zd 8 [0,1,2,3,4,5,6,7] 9 (by exact g_cmp rfl rfl rfl) ?_;refine zj 9 ?_;refine th_n ?_;refine AC.condND rfl (fun h2 => ?_) (fun h2 => ?_)
   ·refine AC.seq ?_;refine AC.drawn' mixed_ok [[], [], [0,1], [0,1,2], [], [], [4,5], [4,5,6], [0,1,2,3,4,5,6,7], [0,1,2,3,4,5,6,7,8]] (by decide) ?_;refine zd 0 [] 10 (by exact mv1 rfl) ?_;refine zd 1 [] 10 (by exact mv1 rfl) ?_;refine zd 2 [0,1] 10 (by exact g_ia_view rfl rfl rfl rfl rfl (by rfl) (by assumption)) ?_;refine zd 3 [0,1,2] 10 (by exact g_load_ref rfl rfl rfl) ?_;refine zd 4 [] 10 (by exact mv1 rfl) ?_;refine zd 5 [] 10 (by exact mv1 rfl) ?_;refine zd 6 [4,5] 10 (by exact g_ia_view rfl rfl rfl rfl rfl (by rfl) (by assumption)) ?_;refine zd 7 [4,5,6] 10 (by exact g_load_ref rfl rfl rfl) ?_;refine zd 8 [0,1,2,3,4,5,6,7] 10 (by exact g_cmp rfl rfl rfl) ?_;refine zd 9 (List.range 9) 10 (by exact as1 rfl) ?_;refine zj 10 ?_;refine th_n (AC.ret (ib_r (th_r (th_r (ib_r (th_r (bq_r ?_)))))));exact ret1 rfl (by rw [ahead_ne hall hkx1 hky1 h2])
   refine AC.skip (ib_n (th_n (AC.region ?_)));refine zm ?_;refine zA ?_;refine za ?_;refine AL.nil (th_n ?_);exact ⟨k + 1, ⟨by omega, by omega, eq_step hall hkx1 hky1 h2⟩, by omega, Weak.ren _ [] hC rfl (by repeat (first | exact True.intro | refine And.intro ?_ ?_ | exact DLead.same)) (by repeat (exact True.intro)) rfl rfl rfl⟩
  refine AC.exit (th_e (th_e (ib_y (th_n (AC.seq (AC.region ?_))))));refine zm ?_;refine kH ?_;refine zm ?_;refine kH ?_;refine zc ?_;refine za ?_;refine AL.nil (th_n (AC.ret (bq_r ?_)));exact ret1 rfl (by rw [ahead_end hall hk hky (by omega)])
 refine zn ?_;refine zn ?_;refine zn ?_;refine zn ?_;refine zP ?_;refine AL.nil (th_n ?_);refine AC.condF rfl ?_;refine AC.exit (th_e (th_e (ib_y (th_n (AC.seq (AC.region ?_))))));refine zm ?_;refine kH ?_;refine zm ?_;refine kH ?_;refine zc ?_;refine za ?_;refine AL.nil (th_n (AC.ret (bq_r ?_)));exact ret1 rfl (by rw [ahead_end hall hk hky (by omega)])
theorem en_l7Ahead : Enters Tryz.prog 163 := enters_of Tryz.func163 rfl rfl
def cmp1 (a b : Int) : Int := if a < b then -1 else if b < a then 1 else 0
theorem lex_at : ∀ {x y : List Int} {k : Nat}, (∀ i, i < k → x[i]? = y[i]?) → k ≤ x.length → k ≤ y.length → lexI x y = lexI (x.drop k) (y.drop k)
 | x, y, 0, _, _, _ => by simp
 | [], _, k + 1, _, h, _ => by simp at h
 | _ :: _, [], k + 1, _, _, h => by simp at h
 | a :: x, b :: y, k + 1, h, hx, hy => by
  have h0 := h 0 (by omega);simp only [List.getElem?_cons_zero, Option.some.injEq] at h0;subst h0;rw [lexI, if_neg (Int.lt_irrefl _), if_neg (Int.lt_irrefl _), List.drop_succ_cons, List.drop_succ_cons];exact lex_at (fun i hi => by have := h (i + 1) (by omega); simpa using this) (by simpa using hx) (by simpa using hy)
theorem lex_ne {x y : List Int} {k : Nat} (h : ∀ i, i < k → x[i]? = y[i]?) (hx : k < x.length) (hy : k < y.length) (hne : ¬ cmp1 x[k] y[k] = 0) : lexI x y = cmp1 x[k] y[k] := by
 rw [lex_at h (by omega) (by omega), List.drop_eq_getElem_cons hx, List.drop_eq_getElem_cons hy, lexI];unfold cmp1 at hne ⊢
 split
 ·rfl
 split
 ·rfl
 rename_i h1 h2; rw [if_neg h1, if_neg h2] at hne; exact absurd rfl hne
theorem lex_long {x y : List Int} {k : Nat} (h : ∀ i, i < k → x[i]? = y[i]?) (hx : k < x.length) (hky : k ≤ y.length) (hy : y.length ≤ k) : lexI x y = 1 := by
 rw [lex_at h (by omega) hky, List.drop_eq_getElem_cons hx, List.drop_eq_nil_of_le hy, lexI]
theorem lex_short {x y : List Int} {k : Nat} (h : ∀ i, i < k → x[i]? = y[i]?) (hk : x.length ≤ k) (hkx : k ≤ x.length) (hky : k ≤ y.length) (hy : (x.length : Int) < y.length) : lexI x y = -1 := by
 rw [lex_at h hkx hky, List.drop_eq_nil_of_le hk, List.drop_eq_getElem_cons (by omega), lexI]
theorem lex_same {x y : List Int} {k : Nat} (h : ∀ i, i < k → x[i]? = y[i]?) (hk : x.length ≤ k) (hkx : k ≤ x.length) (hky : k ≤ y.length) (hy : ¬ (x.length : Int) < y.length) : lexI x y = 0 := by
 rw [lex_at h hkx hky, List.drop_eq_nil_of_le hk, List.drop_eq_nil_of_le (by omega), lexI]
abbrev nE (h : Ev) : List DV := [dI h.t, nI h.pre]
abbrev nEs (l : List Ev) : List (List DV) := l.map nE
abbrev vNE (l : List Ev) : DV := .view 59 2 (nEs l)
theorem nEs_len (l : List Ev) : (nEs l).length = l.length := List.length_map _
theorem h_appendNE (acc new : List Ev) {s : ASt} {dst : Option Nat} {ty : Nat} {pos : String} {af : Array Edge} {gd : Option (Nat × Bool)} {x y : Operand} {f : Nat} {ids ids2 : List Nat} {gone : List (Nat × Option Chunk)}
  (hto : AppTo s x 59 2 (nEs acc) ids gone) (harg : AppArg s y 2 (nEs new) ids2) (h : (acc ++ new).length ≤ 100000000) (hnew : gone = [] → 0 < new.length) :
  NOp Tryz.prog (ids ++ ids2) s ⟨dst, .call { callee := .builtin .append, args := #[x, y], argTypes := #[27, 27] }, ty, pos, af, gd⟩ f ⟨.own f (acc ++ new).length, (f, some (.arr 59 2 (nEs (acc ++ new)))) :: gone⟩ := by
 have := h_append (P := Tryz.prog) (s := s) (dst := dst) (ty := ty) (pos := pos) (af := af) (gd := gd) (x := x) (y := y) (f := f) (t := 27) (tx := 27) (k := (acc ++ new).length) rfl rfl rfl rfl rfl rfl hto harg (by simp) (by omega) (by show (acc ++ new).length * 32 ≤ _; omega) (fun h => by rw [nEs_len]; exact hnew h)
 rwa [← List.map_append] at this
def lessE (h x : Ev) : Bool := decide (h.t < x.t) || (decide (h.t = x.t) && aheadI h.pre x.pre)
def posE (l : List Ev) (h : Ev) : Nat → Nat
 | 0 => 0
 | k + 1 => if lessE h (l.getD k ⟨0, []⟩) = true then posE l h k else k + 1
def putE (l : List Ev) (h : Ev) : List Ev := l.take (posE l h l.length) ++ [h] ++ l.drop (posE l h l.length)
theorem posE_le (l : List Ev) (h : Ev) : ∀ k, posE l h k ≤ k
 | 0 => Nat.le_refl _
 | k + 1 => by
  unfold posE
  split
  ·exact Nat.le_succ_of_le (posE_le l h k)
  exact Nat.le_refl _
theorem posE_go {l : List Ev} {h : Ev} {k : Nat} (h0 : 0 < k) (hq : lessE h (l.getD (k - 1) ⟨0, []⟩) = true) : posE l h k = posE l h (k - 1) := by
 obtain ⟨m, rfl⟩ : ∃ m, k = m + 1 := ⟨k - 1, by omega⟩;rw [posE, if_pos (by simpa using hq)]; rfl
theorem posE_no {l : List Ev} {h : Ev} {k : Nat} (hq : 0 < k → lessE h (l.getD (k - 1) ⟨0, []⟩) = false) : posE l h k = k := by
 cases k with
 | zero => rfl
 | succ m => rw [posE, if_neg (by have := hq (Nat.succ_pos _); rw [Nat.add_sub_cancel] at this; rw [this]; decide)]
theorem putE_len (l : List Ev) (h : Ev) : (putE l h).length = l.length + 1 := by
 unfold putE;have := posE_le l h l.length;simp only [List.length_append, List.length_take, List.length_drop, List.length_cons, List.length_nil];omega
theorem nEs_at {l : List Ev} {k : Nat} (h0 : 0 < k) (hk : k ≤ l.length) : (nEs l)[k - 1]? = some (nE (l.getD (k - 1) ⟨0, []⟩)) := by
 rw [List.getElem?_map, List.getD_eq_getElem?_getD, List.getElem?_eq_getElem (by omega)]; rfl
set_option maxHeartbeats 16000000 in
theorem l7Put_spec (l : List Ev) (h : Ev) (hl : l.length ≤ 90000000) (hp : h.pre.length ≤ 1000000) (hb : ∀ x, x ∈ l → x.pre.length ≤ 1000000) : ASpec Tryz.prog 143 [.d (vNE l), .agg [aI h.t, .d (nI h.pre)]] [] (Pure1 (.d (vNE (putE l h)))) := by
 have hPE : putE l h = l.take (posE l h l.length) ++ [h] ++ l.drop (posE l h l.length) := rfl;refine ASpec.of Tryz.func143 rfl rfl fun C hC => ?_
 refine AC.seq (AC.region ?_);refine kD ?_;refine za ?_;refine AL.nil (th_n (AC.seq (AC.region ?_)));refine zm ?_;refine kI l.length (nEs_len _) ?_;refine za ?_;refine AL.nil (th_n ?_);refine AC.cut (fun (k : Nat) => ⟨61, 600, [(0, .d (vNE l)), (3, .d (.ref (nE h))), (5, aI k)], []⟩) (fun k => k ≤ l.length ∧ posE l h l.length = k) ?_ ?_
 ·refine AC.block ?_;refine AC.loop (ι := Nat) (fun k => ⟨61, 200, [(0, .d (vNE l)), (3, .d (.ref (nE h))), (5, aI k)], []⟩) (fun k => k ≤ l.length ∧ posE l h l.length = posE l h k) (fun k => k) (l.length) ?_ (⟨Nat.le_refl _, rfl⟩) ?_
  ·exact Weak.ren _ [] hC rfl (by repeat (first | exact True.intro | refine And.intro ?_ ?_ | exact DLead.same)) (by repeat (exact True.intro)) rfl rfl rfl
  intro k ⟨hk, hpos⟩;refine AC.seq (AC.seq ?_);have hget := fun q => nEs_at (l := l) (k := k) q hk
  have hK : 0 < k → (k : Int) - 1 = ((k - 1 : Nat) : Int) := fun q => by omega
  have hgo := @posE_go l h k;have hno := @posE_no l h k;have hxb : 0 < k → (l.getD (k - 1) ⟨0, []⟩).pre.length ≤ 1000000 := fun q => by rw [List.getD_eq_getElem?_getD, List.getElem?_eq_getElem (by omega)]; exact hb _ (List.getElem_mem _)
  obtain ⟨x, hx⟩ := eqx (l.getD (k - 1) ⟨0, []⟩);rw [← hx] at hget hgo hno hxb;have hA := fun q => l7Ahead_spec h.pre x.pre hp (hxb q)
  have hq : lessE h x = (decide (h.t < x.t) || (decide (h.t = x.t) && aheadI h.pre x.pre)) := rfl;obtain ⟨b, hbb⟩ := eqx (aheadI h.pre x.pre);rw [← hbb] at hA hq;refine AC.drawn' mixed_ok [[], [0], [0,1], [0,1,2], [0,1,2,3], [0,1,2], [0,1,2], [0,1,2,6], [0,1,2,5,6,7], [0,1,2,5,6,7,8], [0,1,2,5,6,7,8,9], [0,1,2,3,4,5,6,7,8,9,10], [0,1,2,3,4,5,6,7,8,9,10,11], [0,1,2,3,4,5,6,7,8,9,10,11,12], [0,1,2,3,4,5,6,7,8,9,10,11,12,13], [0,1,2,3,4,5,6,7,8,9,10,11,12], [0,1,2,3,4,5,6,7,8,9,10,11,12], [0,1,2,3,4,5,6,7,8,9,10,11,12,16], [0,1,2,3,4,5,6,7,8,9,10,11,12,15,16,17], [0,1,2,3,4,5,6,7,8,9,10,11,12,15,16,17,18], [0,1,2,3,4,5,6,7,8,9,10,11,12,15,16,17,18,19], [0,1,2,3,4,5,6,7,8,9,10,11,12,13,14,15,16,17,18,19,20], [0,1,2,3,4,5,6,7,8,9,10,11,12,13,14,15,16,17,18,19,20,21], [0,1,2,3,4,5,6,7,8,9,10,11,12,13,14,15,16,17,18,19,20,21,22], [0,1,2,3,4,5,6,7,8,9,10,11,12,13,14,15,16,17,18,19,20,21,22,23], [0,1,2,3,4,5,6,7,8,9,10,11,12,13,14,15,16,17,18,19,20,21,22], [0,1,2,3,4,5,6,7,8,9,10,11,12,13,14,15,16,17,18,19,20,21,22], [0,1,2,3,4,5,6,7,8,9,10,11,12,13,14,15,16,17,18,19,20,21,22,26], [0,1,2,3,4,5,6,7,8,9,10,11,12,13,14,15,16,17,18,19,20,21,22,25,26,27], [0,1,2,3,4,5,6,7,8,9,10,11,12,13,14,15,16,17,18,19,20,21,22,25,26,27,28], [0,1,2,3,4,5,6,7,8,9,10,11,12,13,14,15,16,17,18,19,20,21,22,25,26,27,28,29], [0,1,2,3,4,5,6,7,8,9,10,11,12,13,14,15,16,17,18,19,20,21,22,23,24,25,26,27,28,29,30], [0,1,2,3,4,5,6,7,8,9,10,11,12,13,14,15,16,17,18,19,20,21,22,23,24,25,26,27,28,29,30,31], [0,1,2,3,4,5,6,7,8,9,10,11,12,13,14,15,16,17,18,19,20,21,22,23,24,25,26,27,28,29,30,31,32], [0,1,2,3,4,5,6,7,8,9,10,11,12,13,14,15,16,17,18,19,20,21,22,23,24,25,26,27,28,29,30,31,32,33]] (by decide) ?_;refine zd 0 [] 35 (by exact mv1 rfl) ?_;refine zd 1 [0] 35 (by exact g_cmp rfl rfl rfl) ?_;refine zd 2 [0,1] 35 (by exact mv1 rfl) ?_;refine DF.caseD 2 rfl (fun h0 => ?_) (fun h0 => ?_)
  ·refine ze 3 [0,1,2] 35 (by exact g_fa_ref rfl rfl rfl rfl rfl rfl) ?_;refine ze 4 [0,1,2,3] 35 (by exact g_load_ref rfl rfl rfl) ?_;refine ze 5 [0,1,2] 35 (by exact mv1 rfl) ?_;refine ze 6 [0,1,2] 35 (by exact mv1 rfl) ?_;refine ze 7 [0,1,2,6] 35 (by exact g_arith rfl rfl rfl (by exact wrap_i64 (by omega))) ?_;refine ze 8 [0,1,2,5,6,7] 35 (by exact g_ia_view (i := k - 1) rfl rfl rfl rfl rfl (hK (by omega)) (hget (by omega))) ?_;refine ze 9 [0,1,2,5,6,7,8] 35 (by exact g_fa_ref rfl rfl rfl rfl rfl rfl) ?_;refine ze 10 [0,1,2,5,6,7,8,9] 35 (by exact g_load_ref rfl rfl rfl) ?_;refine ze 11 (List.range 11) 35 (by exact g_cmp rfl rfl rfl) ?_;refine ze 12 (List.range 12) 35 (by exact mv1 rfl) ?_;refine DF.caseD 12 rfl (fun h1 => ?_) (fun h1 => ?_)
   ·refine zg 13 (List.range 13) 35 ?_;refine zg 14 (List.range 14) 35 ?_;refine zg 15 (List.range 13) 35 ?_;refine zg 16 (List.range 13) 35 ?_;refine zg 17 [0,1,2,3,4,5,6,7,8,9,10,11,12,16] 35 ?_;refine zg 18 [0,1,2,3,4,5,6,7,8,9,10,11,12,15,16,17] 35 ?_;refine zg 19 [0,1,2,3,4,5,6,7,8,9,10,11,12,15,16,17,18] 35 ?_;refine zg 20 [0,1,2,3,4,5,6,7,8,9,10,11,12,15,16,17,18,19] 35 ?_;refine zg 21 (List.range 21) 35 ?_;refine zg 22 (List.range 22) 35 ?_;refine DF.op (ids := []) 23 (List.range 23) 35 rfl rfl rfl (.noU rfl rfl rfl rfl) rfl ?_;refine DF.op (ids := []) 24 (List.range 24) 35 rfl rfl rfl (.noU rfl rfl rfl rfl) rfl ?_;refine DF.op (ids := []) 25 (List.range 23) 35 rfl rfl rfl (.noU rfl rfl rfl rfl) rfl ?_;refine DF.op (ids := []) 26 (List.range 23) 35 rfl rfl rfl (.noU rfl rfl rfl rfl) rfl ?_;refine DF.op (ids := []) 27 [0,1,2,3,4,5,6,7,8,9,10,11,12,13,14,15,16,17,18,19,20,21,22,26] 35 rfl rfl rfl (.noU rfl rfl rfl rfl) rfl ?_;refine DF.op (ids := []) 28 [0,1,2,3,4,5,6,7,8,9,10,11,12,13,14,15,16,17,18,19,20,21,22,25,26,27] 35 rfl rfl rfl (.noU rfl rfl rfl rfl) rfl ?_;refine DF.op (ids := []) 29 [0,1,2,3,4,5,6,7,8,9,10,11,12,13,14,15,16,17,18,19,20,21,22,25,26,27,28] 35 rfl rfl rfl (.noU rfl rfl rfl rfl) rfl ?_;refine DF.op (ids := []) 30 [0,1,2,3,4,5,6,7,8,9,10,11,12,13,14,15,16,17,18,19,20,21,22,25,26,27,28,29] 35 rfl rfl rfl (.noU rfl rfl rfl rfl) rfl ?_;refine DF.op (ids := []) 31 (List.range 31) 35 rfl rfl rfl (.noU rfl rfl rfl rfl) rfl ?_;refine zg 32 (List.range 32) 35 ?_;refine ze 33 (List.range 33) 35 (by exact g_pickT (r := .d _) rfl rfl) ?_;refine zd 34 (List.range 34) 35 (by exact g_pickT (r := .d _) rfl rfl) ?_;refine zj 35 ?_;refine th_n ?_;refine AC.condT rfl ?_;refine AC.skip (th_n (AC.block (AC.region ?_)));refine zm ?_;refine zA ?_;refine za ?_;refine AL.nil (ib_n (th_n ?_));have h0k : 0 < k := by omega
    have hle : lessE h x = true := by (have q1 : h.t < x.t := (by assumption); rw [hq, decide_eq_true q1]; rfl)
    exact ⟨k - 1, ⟨by omega, hpos.trans (hgo h0k hle)⟩, by omega, Weak.ren _ [] hC rfl (by repeat (first | exact True.intro | refine And.intro ?_ ?_ | exact DLead.same | exact DLead.eqI (by omega))) (by repeat (exact True.intro)) rfl rfl rfl⟩
   refine ze 13 (List.range 13) 35 (by exact g_fa_ref rfl rfl rfl rfl rfl rfl) ?_;refine ze 14 (List.range 14) 35 (by exact g_load_ref rfl rfl rfl) ?_;refine ze 15 (List.range 13) 35 (by exact mv1 rfl) ?_;refine ze 16 (List.range 13) 35 (by exact mv1 rfl) ?_;refine ze 17 [0,1,2,3,4,5,6,7,8,9,10,11,12,16] 35 (by exact g_arith rfl rfl rfl (by exact wrap_i64 (by omega))) ?_;refine ze 18 [0,1,2,3,4,5,6,7,8,9,10,11,12,15,16,17] 35 (by exact g_ia_view (i := k - 1) rfl rfl rfl rfl rfl (hK (by omega)) (hget (by omega))) ?_;refine ze 19 [0,1,2,3,4,5,6,7,8,9,10,11,12,15,16,17,18] 35 (by exact g_fa_ref rfl rfl rfl rfl rfl rfl) ?_;refine ze 20 [0,1,2,3,4,5,6,7,8,9,10,11,12,15,16,17,18,19] 35 (by exact g_load_ref rfl rfl rfl) ?_;refine ze 21 (List.range 21) 35 (by exact g_cmp rfl rfl rfl) ?_;refine ze 22 (List.range 22) 35 (by exact mv1 rfl) ?_;refine DF.caseD 22 rfl (fun h2 => ?_) (fun h2 => ?_)
   ·refine ze 23 (List.range 23) 35 (by exact g_fa_ref rfl rfl rfl rfl rfl rfl) ?_;refine ze 24 (List.range 24) 35 (by exact g_load_ref rfl rfl rfl) ?_;refine ze 25 (List.range 23) 35 (by exact mv1 rfl) ?_;refine ze 26 (List.range 23) 35 (by exact mv1 rfl) ?_;refine ze 27 [0,1,2,3,4,5,6,7,8,9,10,11,12,13,14,15,16,17,18,19,20,21,22,26] 35 (by exact g_arith rfl rfl rfl (by exact wrap_i64 (by omega))) ?_;refine ze 28 [0,1,2,3,4,5,6,7,8,9,10,11,12,13,14,15,16,17,18,19,20,21,22,25,26,27] 35 (by exact g_ia_view (i := k - 1) rfl rfl rfl rfl rfl (hK (by omega)) (hget (by omega))) ?_;refine ze 29 [0,1,2,3,4,5,6,7,8,9,10,11,12,13,14,15,16,17,18,19,20,21,22,25,26,27,28] 35 (by exact g_fa_ref rfl rfl rfl rfl rfl rfl) ?_;refine ze 30 [0,1,2,3,4,5,6,7,8,9,10,11,12,13,14,15,16,17,18,19,20,21,22,25,26,27,28,29] 35 (by exact g_load_ref rfl rfl rfl) ?_;refine zi 31 (List.range 31) 35 (by exact h_pure en_l7Ahead rfl rfl (by exact ⟨_, _, rfl, nI_lead _, ⟨_, _, rfl, nI_lead _, rfl⟩⟩) (hA (by omega)) rfl) ?_;refine ze 32 (List.range 32) 35 (by exact g_pickT (r := .d _) rfl rfl) ?_;refine ze 33 (List.range 33) 35 (by exact g_pickF (r := .d _) rfl rfl) ?_;refine zd 34 (List.range 34) 35 (by exact g_pickT (r := .d _) rfl rfl) ?_;refine zj 35 ?_;refine th_n ?_;refine AC.condB rfl (fun h3 => ?_) (fun h3 => ?_)
    ·refine AC.skip (th_n (AC.block (AC.region ?_)));refine zm ?_;refine zA ?_;refine za ?_;refine AL.nil (ib_n (th_n ?_));have h0k : 0 < k := by omega
     have hle : lessE h x = true := by (have q2 : h.t = x.t := (by assumption); have q3 : b = true := (by assumption); rw [hq, decide_eq_true q2, q3, Bool.true_and, Bool.or_true])
     exact ⟨k - 1, ⟨by omega, hpos.trans (hgo h0k hle)⟩, by omega, Weak.ren _ [] hC rfl (by repeat (first | exact True.intro | refine And.intro ?_ ?_ | exact DLead.same | exact DLead.eqI (by omega))) (by repeat (exact True.intro)) rfl rfl rfl⟩
    refine AC.exit (th_e (th_e (ib_y (th_n ?_))));have hle : 0 < k → lessE h x = false := fun q0 => by (have q1 : ¬ h.t < x.t := (by assumption); have q3 : b = false := (by assumption); rw [hq, decide_eq_false q1, q3, Bool.and_false]; rfl)
    exact ⟨k, ⟨hk, hpos.trans (hno hle)⟩, Weak.ren _ [] hC rfl (by repeat (first | exact True.intro | refine And.intro ?_ ?_ | exact DLead.same)) (by repeat (exact True.intro)) rfl rfl rfl⟩
   refine zg 23 (List.range 23) 35 ?_;refine zg 24 (List.range 24) 35 ?_;refine zg 25 (List.range 23) 35 ?_;refine zg 26 (List.range 23) 35 ?_;refine zg 27 [0,1,2,3,4,5,6,7,8,9,10,11,12,13,14,15,16,17,18,19,20,21,22,26] 35 ?_;refine zg 28 [0,1,2,3,4,5,6,7,8,9,10,11,12,13,14,15,16,17,18,19,20,21,22,25,26,27] 35 ?_;refine zg 29 [0,1,2,3,4,5,6,7,8,9,10,11,12,13,14,15,16,17,18,19,20,21,22,25,26,27,28] 35 ?_;refine zg 30 [0,1,2,3,4,5,6,7,8,9,10,11,12,13,14,15,16,17,18,19,20,21,22,25,26,27,28,29] 35 ?_;refine zg 31 (List.range 31) 35 ?_;refine ze 32 (List.range 32) 35 (by exact g_pickF (r := .d _) rfl rfl) ?_;refine ze 33 (List.range 33) 35 (by exact g_pickF (r := .d _) rfl rfl) ?_;refine zd 34 (List.range 34) 35 (by exact g_pickT (r := .d _) rfl rfl) ?_;refine zj 35 ?_;refine th_n ?_;refine AC.condF rfl ?_;refine AC.exit (th_e (th_e (ib_y (th_n ?_))));have hle : 0 < k → lessE h x = false := fun q0 => by (have q1 : ¬ h.t < x.t := (by assumption); have q2 : ¬ h.t = x.t := (by assumption); rw [hq, decide_eq_false q1, decide_eq_false q2]; rfl)
   exact ⟨k, ⟨hk, hpos.trans (hno hle)⟩, Weak.ren _ [] hC rfl (by repeat (first | exact True.intro | refine And.intro ?_ ?_ | exact DLead.same)) (by repeat (exact True.intro)) rfl rfl rfl⟩
  refine zg 3 [0,1,2] 35 ?_;refine zg 4 [0,1,2,3] 35 ?_;refine zg 5 [0,1,2] 35 ?_;refine zg 6 [0,1,2] 35 ?_;refine zg 7 [0,1,2,6] 35 ?_;refine zg 8 [0,1,2,5,6,7] 35 ?_;refine zg 9 [0,1,2,5,6,7,8] 35 ?_;refine zg 10 [0,1,2,5,6,7,8,9] 35 ?_;refine zg 11 (List.range 11) 35 ?_;refine zg 12 (List.range 12) 35 ?_;refine DF.op (ids := []) 13 (List.range 13) 35 rfl rfl rfl (.noU rfl rfl rfl rfl) rfl ?_;refine DF.op (ids := []) 14 (List.range 14) 35 rfl rfl rfl (.noU rfl rfl rfl rfl) rfl ?_;refine DF.op (ids := []) 15 (List.range 13) 35 rfl rfl rfl (.noU rfl rfl rfl rfl) rfl ?_;refine DF.op (ids := []) 16 (List.range 13) 35 rfl rfl rfl (.noU rfl rfl rfl rfl) rfl ?_;refine DF.op (ids := []) 17 [0,1,2,3,4,5,6,7,8,9,10,11,12,16] 35 rfl rfl rfl (.noU rfl rfl rfl rfl) rfl ?_;refine DF.op (ids := []) 18 [0,1,2,3,4,5,6,7,8,9,10,11,12,15,16,17] 35 rfl rfl rfl (.noU rfl rfl rfl rfl) rfl ?_;refine DF.op (ids := []) 19 [0,1,2,3,4,5,6,7,8,9,10,11,12,15,16,17,18] 35 rfl rfl rfl (.noU rfl rfl rfl rfl) rfl ?_;refine DF.op (ids := []) 20 [0,1,2,3,4,5,6,7,8,9,10,11,12,15,16,17,18,19] 35 rfl rfl rfl (.noU rfl rfl rfl rfl) rfl ?_;refine DF.op (ids := []) 21 (List.range 21) 35 rfl rfl rfl (.noU rfl rfl rfl rfl) rfl ?_;refine DF.op (ids := []) 22 (List.range 22) 35 rfl rfl rfl (.noU rfl rfl rfl rfl) rfl ?_;refine DF.op (ids := []) 23 (List.range 23) 35 rfl rfl rfl (.noU rfl rfl rfl rfl) rfl ?_;refine DF.op (ids := []) 24 (List.range 24) 35 rfl rfl rfl (.noU rfl rfl rfl rfl) rfl ?_;refine DF.op (ids := []) 25 (List.range 23) 35 rfl rfl rfl (.noU rfl rfl rfl rfl) rfl ?_;refine DF.op (ids := []) 26 (List.range 23) 35 rfl rfl rfl (.noU rfl rfl rfl rfl) rfl ?_;refine DF.op (ids := []) 27 [0,1,2,3,4,5,6,7,8,9,10,11,12,13,14,15,16,17,18,19,20,21,22,26] 35 rfl rfl rfl (.noU rfl rfl rfl rfl) rfl ?_;refine DF.op (ids := []) 28 [0,1,2,3,4,5,6,7,8,9,10,11,12,13,14,15,16,17,18,19,20,21,22,25,26,27] 35 rfl rfl rfl (.noU rfl rfl rfl rfl) rfl ?_;refine DF.op (ids := []) 29 [0,1,2,3,4,5,6,7,8,9,10,11,12,13,14,15,16,17,18,19,20,21,22,25,26,27,28] 35 rfl rfl rfl (.noU rfl rfl rfl rfl) rfl ?_;refine DF.op (ids := []) 30 [0,1,2,3,4,5,6,7,8,9,10,11,12,13,14,15,16,17,18,19,20,21,22,25,26,27,28,29] 35 rfl rfl rfl (.noU rfl rfl rfl rfl) rfl ?_;refine DF.op (ids := []) 31 (List.range 31) 35 rfl rfl rfl (.noU rfl rfl rfl rfl) rfl ?_;refine DF.op (ids := []) 32 (List.range 32) 35 rfl rfl rfl (.noU rfl rfl rfl rfl) rfl ?_;refine zg 33 (List.range 33) 35 ?_;refine zd 34 (List.range 34) 35 (by exact g_pickF (r := .d _) rfl rfl) ?_;refine zj 35 ?_;refine th_n ?_;refine AC.condF rfl ?_;refine AC.exit (th_e (th_e (ib_y (th_n ?_))));have hle : 0 < k → lessE h x = false := fun q0 => by (exact absurd q0 (by omega))
  exact ⟨k, ⟨hk, hpos.trans (hno hle)⟩, Weak.ren _ [] hC rfl (by repeat (first | exact True.intro | refine And.intro ?_ ?_ | exact DLead.same)) (by repeat (exact True.intro)) rfl rfl rfl⟩
 intro k ⟨hk, hpos⟩;refine AC.seq ?_;rw [hpos] at hPE;have h1 : (l.take k).length = k := by rw [List.length_take]; omega
 have h2 : (l.drop k).length = l.length - k := by rw [List.length_drop]
 refine AC.region ?_;refine AL.q (by exact h_lit rfl rfl rfl rfl rfl rfl rfl rfl) rfl ?_;refine zm ?_;refine zm ?_;refine AL.p (by exact g_slice_view (r := nEs (l.drop k)) (l := k) (h := (nEs l).length) rfl rfl rfl rfl (.some rfl rfl) .none (by rw [nEs_len]; exact hk) (Nat.le_refl _) (by rw [List.take_length]; exact (List.map_drop ..).symm)) rfl ?_;refine AL.q (by exact h_appendNE [] (l.drop k) (.own rfl rfl rfl) (.view rfl) (by rw [List.nil_append]; omega) (by simp)) rfl ?_;refine AL.p (by exact as2 rfl) rfl ?_;refine AL.nil (th_n (AC.seq ?_));refine AC.weak (Weak.freeze (els := nEs (l.drop k)) (i := 6) rfl rfl (Nat.le_of_eq (nEs_len _).symm) (List.take_of_length_le (Nat.le_of_eq (nEs_len _)))) ?_;refine AC.drawn' mixed_ok [[], [], [], [1,2], [0,1,2,3], [], [5], [0,1,2,3,4,5,6], [], [0,1,2,3,4,5,6,7,8], [0,1,2,3,4,5,6,7,8,9]] (by decide) ?_;refine zh 0 [] 11 (by exact h_lit rfl rfl rfl rfl rfl rfl rfl rfl) ?_;refine zd 1 [] 11 (by exact mv1 rfl) ?_;refine zd 2 [] 11 (by exact mv1 rfl) ?_;refine zd 3 [1,2] 11 (by exact g_slice_view (r := nEs (l.take k)) (l := 0) (h := k) rfl rfl rfl rfl .none (.some rfl rfl) (Nat.zero_le _) (by rw [nEs_len]; exact hk) (by rw [List.drop_zero]; exact (List.map_take ..).symm)) ?_;refine zh 4 [0,1,2,3] 11 (by exact h_appendNE [] (l.take k) (.own rfl rfl rfl) (.view rfl) (by rw [List.nil_append]; omega) (by simp)) ?_;refine zd 5 [] 11 (by exact g_load_refN rfl rfl rfl rfl) ?_;refine zh 6 [5] 11 (by exact h_litF rfl rfl rfl rfl rfl rfl rfl rfl) ?_;refine zh 7 [0,1,2,3,4,5,6] 11 (by exact h_appendNE ([] ++ l.take k) [h] (.own rfl rfl (nEs_len _).symm) (.view rfl) (by rw [List.nil_append, List.length_append, h1]; simp only [List.length_cons, List.length_nil]; omega) (by simp)) ?_;refine zd 8 [] 11 (by exact mv1 rfl) ?_;refine zh 9 (List.range 9) 11 (by exact h_appendNE ([] ++ l.take k ++ [h]) (l.drop k) (.own rfl rfl (nEs_len _).symm) (.view rfl) (by rw [List.nil_append, List.length_append, List.length_append, h1, h2]; simp only [List.length_cons, List.length_nil]; omega) (by simp)) ?_;refine zd 10 (List.range 10) 11 (by exact as2 rfl) ?_;refine zj 11 ?_;refine th_n ?_;refine AC.weak (Weak.freeze (els := nEs ([] ++ l.take k ++ [h] ++ l.drop k)) (i := 4) rfl rfl (Nat.le_of_eq (nEs_len _).symm) (List.take_of_length_le (Nat.le_of_eq (nEs_len _)))) ?_;refine AC.ret (bq_r ?_);exact ret1 rfl (by rw [hPE]; rfl)
theorem en_l7Put : Enters Tryz.prog 143 := enters_of Tryz.func143 rfl rfl
def exS (N : Net) (u : Unf) (t : Int) (acc : List Ev) (l : List Int) : List Ev := if fitsI N u ⟨t, l⟩ = true then putE acc ⟨t, l⟩ else acc
def exO (N : Net) (u : Unf) (t : Int) (acc : List Ev) (L : List (List Int)) : List Ev := L.foldl (exS N u t) acc
def exK (N : Net) (u : Unf) : Nat → List Ev
 | 0 => []
 | k + 1 => exO N u (k : Int) (exK N u k) (chF u (tAt N (k : Int)).pre)
def exI (N : Net) (u : Unf) : List Ev := exK N u N.ts.length
theorem exO_succ {N : Net} {u : Unf} {t : Int} {acc : List Ev} {L : List (List Int)} {j : Nat} (h : j < L.length) : exO N u t acc (L.take (j + 1)) = exS N u t (exO N u t acc (L.take j)) L[j] := by
 unfold exO;rw [List.take_add_one, List.getElem?_eq_getElem h, List.foldl_append]; rfl
theorem putE_mem {l : List Ev} {h x : Ev} (hx : x ∈ putE l h) : x ∈ l ∨ x = h := by
 unfold putE at hx;rcases List.mem_append.1 hx with q | q
 ·rcases List.mem_append.1 q with q | q
  ·exact .inl (List.mem_of_mem_take q)
  exact .inr (List.mem_singleton.1 q)
 exact .inl (List.mem_of_mem_drop q)
theorem exO_len (N : Net) (u : Unf) (t : Int) (acc : List Ev) (L : List (List Int)) : ∀ j, j ≤ L.length → (exO N u t acc (L.take j)).length ≤ acc.length + j
 | 0, _ => Nat.le_refl _
 | j + 1, h => by
  have ih := exO_len N u t acc L j (Nat.le_of_succ_le h);rw [exO_succ h];unfold exS
  split
  ·rw [putE_len]; omega
  omega
theorem exO_mem {N : Net} {u : Unf} {t : Int} {acc : List Ev} : ∀ (L : List (List Int)) {x : Ev}, x ∈ exO N u t acc L → x ∈ acc ∨ (fitsI N u x = true ∧ x.t = t ∧ x.pre ∈ L) := by
 intro L
 induction L generalizing acc with
 | nil => intro x hx; exact .inl hx
 | cons l L ih =>
  intro x hx;rcases ih (show x ∈ exO N u t (exS N u t acc l) L from hx) with q | ⟨q1, q2, q3⟩
  ·unfold exS at q
   split at q
   ·rename_i hf;rcases putE_mem q with w | rfl
    ·exact .inl w
    exact .inr ⟨hf, rfl, List.mem_cons_self ..⟩
   exact .inl q
  exact .inr ⟨q1, q2, List.mem_cons_of_mem _ q3⟩
theorem exK_fit {N : Net} {u : Unf} : ∀ (k : Nat) {x : Ev}, x ∈ exK N u k → fitsI N u x = true
 | 0, x, h => absurd h List.not_mem_nil
 | k + 1, x, h => by
  rcases exO_mem _ h with q | q
  ·exact exK_fit k q
  exact q.1
theorem chF_all (u : Unf) (ps : List Int) : ChOk u ps.length (chF u ps) := by have := chF_ok u ps ps.length (Nat.le_refl _); rwa [List.take_length] at this
theorem chF_len3 {u : Unf} {ps : List Int} (hc : u.cs.length ≤ 100) (hp : ps.length ≤ 3) : (chF u ps).length ≤ 1000000 := by
 have := chF_len u ps ps.length (Nat.le_refl _);rw [List.take_length] at this;exact Nat.le_trans this (Nat.le_trans (Nat.pow_le_pow_left hc _) (Nat.le_trans (Nat.pow_le_pow_right (by decide) hp) (by decide)))
theorem exK_len {N : Net} {u : Unf} (hc : u.cs.length ≤ 100) (hp : ∀ t, t ∈ N.ts → t.pre.length ≤ 3) : ∀ k, k ≤ N.ts.length → (exK N u k).length ≤ k * 1000000
 | 0, _ => Nat.zero_le _
 | k + 1, h => by
  have ih := exK_len hc hp k (Nat.le_of_succ_le h);have hps : (tAt N (k : Int)).pre.length ≤ 3 := by rw [tAt_nat h]; exact hp _ (List.getElem_mem h)
  have h2 := chF_len3 hc hps;have h3 := exO_len N u (k : Int) (exK N u k) (chF u (tAt N (k : Int)).pre) _ (Nat.le_refl _);rw [List.take_length] at h3;show (exO N u (k : Int) (exK N u k) (chF u (tAt N (k : Int)).pre)).length ≤ _;rw [Nat.succ_mul];omega
def vNo : List Ev → DV
 | [] => .val (.slice none 0 0)
 | x :: l => vNE (x :: l)
theorem vNo_lead : ∀ l : List Ev, DLead (vNE l) (.d (vNo l))
 | [] => .nil
 | _ :: _ => .same
theorem vNo_ne : ∀ {l : List Ev}, l ≠ [] → vNo l = vNE l
 | [], h => absurd rfl h
 | _ :: _, _ => rfl
theorem putE_ne (l : List Ev) (h : Ev) : putE l h ≠ [] := fun e => by have := putE_len l h; rw [e] at this; simp at this
set_option maxHeartbeats 16000000 in
theorem l7Extend_spec (N : Net) (u : Unf) (hB : NetB N) (hN : N.ts.length ≤ 24) (hp : ∀ t, t ∈ N.ts → t.pre.length ≤ 3) (hw : WF u) (hc : u.cs.length ≤ 100) : ASpec Tryz.prog 99 [netA N, unfA u] [] (Pure1 (.d (vNo (exI N u)))) := by
 refine ASpec.of Tryz.func99 rfl rfl fun C hC => ?_
 refine AC.seq (AC.region ?_);refine kD ?_;refine kD ?_;refine za ?_;refine AL.nil (th_n (AC.seq (AC.region ?_)));refine za ?_;refine AL.nil (th_n (AC.seq (AC.seq (AC.region ?_))));refine zf ?_;refine zr ?_;refine kI N.ts.length (List.length_map _) ?_;refine zm ?_;refine AL.nil (th_n (AC.block ?_));refine AC.loop (ι := Nat) (fun k => ⟨42, 300, [(2, .d (.ref (netD N))), (3, .d (.ref (unfD u))), (5, .d (vNo (exK N u k))), (12, aI N.ts.length), (13, aI k)], []⟩) (fun k => k ≤ N.ts.length) (fun k => N.ts.length - k) (0) ?_ (Nat.zero_le _) ?_
 ·exact Weak.ren _ [] hC rfl (by repeat (first | exact True.intro | refine And.intro ?_ ?_ | exact DLead.same)) (by repeat (exact True.intro)) rfl rfl rfl
 intro k hk;refine AC.seq (AC.region ?_);refine zc ?_;refine AL.nil (th_n (AC.seq ?_));refine AC.condD rfl (fun h0 => ?_) (fun h0 => ?_)
 ·refine AC.skip (th_n (AC.seq (AC.block (AC.seq ?_))));have hk1 : k < N.ts.length := by omega
  have hgt := tsL_get hk1;have hta : tAt N (k : Int) = N.ts[k] := tAt_nat hk1;have hps := hp _ (List.getElem_mem hk1);have hel := exK_len hc hp k hk;have hes : exK N u (k + 1) = exO N u (k : Int) (exK N u k) (chF u N.ts[k].pre) := by rw [← hta]; rfl
  have hCh := l7Choices_spec u N.ts[k].pre hw (by omega) hps;have hol := chF_len3 hc hps;have hok := chF_all u N.ts[k].pre;have hef := fun (x : Ev) (hx : x ∈ exK N u k) => exK_fit k hx
  obtain ⟨L, hL⟩ := eqx (chF u N.ts[k].pre);rw [← hL] at hCh hes hol hok;obtain ⟨acc, hacc⟩ := eqx (exK N u k);rw [← hacc] at hes hel hef ⊢;refine AC.region ?_;refine zm ?_;refine za ?_;refine AL.nil (th_n (AC.seq ?_));refine AC.drawn' mixed_ok [[], [], [1], [], [1,2,3], [1,2,3,4], [1,2,3,4,5], [0,1,2,3,4,5,6], [0,1,2,3,4,5,6,7], []] (by decide) ?_;refine zd 0 [] 10 (by exact g_load_refN rfl rfl rfl rfl) ?_;refine zd 1 [] 10 (by exact g_fa_ref rfl rfl rfl rfl rfl rfl) ?_;refine zd 2 [1] 10 (by exact g_load_ref rfl rfl rfl) ?_;refine zd 3 [] 10 (by exact mv1 rfl) ?_;refine zd 4 [1,2,3] 10 (by exact g_ia_view (i := k) rfl rfl rfl rfl rfl rfl hgt) ?_;refine zd 5 [1,2,3,4] 10 (by exact g_fa_ref rfl rfl rfl rfl rfl rfl) ?_;refine zd 6 [1,2,3,4,5] 10 (by exact g_load_ref rfl rfl rfl) ?_;refine zh 7 [0,1,2,3,4,5,6] 10 (by exact h_pure en_l7Choices rfl rfl (by repeat (first | exact rfl | exact DLead.same | refine ⟨_, _, rfl, ?_, ?_⟩ | refine ⟨_, rfl, ?_⟩)) hCh rfl) ?_;refine zd 8 [0,1,2,3,4,5,6,7] 10 (by exact g_len_view (k := L.length) rfl rfl (nIs_len _)) ?_;refine zd 9 [] 10 (by exact mv1 rfl) ?_;refine zj 10 ?_;refine th_n (AC.block ?_);refine AC.loop (ι := Nat) (fun j => ⟨42, 700, [(2, .d (.ref (netD N))), (3, .d (.ref (unfD u))), (5, .d (vNo (exO N u (k : Int) acc (L.take j)))), (6, aI k), (12, aI N.ts.length), (13, aI k), (23, .d (vNs L)), (24, aI L.length), (25, aI j)], []⟩) (fun j => j ≤ L.length) (fun j => L.length - j) (0) ?_ (Nat.zero_le _) ?_
  ·exact Weak.ren _ [] hC rfl (by repeat (first | exact True.intro | refine And.intro ?_ ?_ | exact DLead.same)) (by repeat (exact True.intro)) rfl rfl rfl
  intro j hj;refine AC.seq (AC.region ?_);refine zc ?_;refine AL.nil (th_n (AC.seq ?_));refine AC.condD rfl (fun h1 => ?_) (fun h1 => ?_)
  ·refine AC.skip (th_n (AC.seq (AC.block (AC.seq ?_))));have hj1 : j < L.length := by omega
   have hgl := nIs_get hj1;have hlj := hok _ (List.getElem_mem hj1);have hsn := exO_succ (N := N) (u := u) (t := (k : Int)) (acc := acc) hj1;have hln := exO_len N u (k : Int) acc L j hj;have hmm := fun x hx => @exO_mem N u (k : Int) acc (L.take j) x hx
   obtain ⟨l, hl⟩ := eqx (L[j]);rw [← hl] at hgl hlj hsn;obtain ⟨B, hBB⟩ := eqx (exO N u (k : Int) acc (L.take j));rw [← hBB] at hsn hln hmm ⊢;have hF := l7Fits_spec N u ⟨(k : Int), l⟩ hB hw (by dsimp only; omega);have hBp : ∀ x, x ∈ B → x.pre.length ≤ 1000000 := fun x hx => by rcases hmm x hx with q | q; (have h1 := rising_len (fits_rising (hef x q)); omega); (have h1 := (hok _ (List.mem_of_mem_take q.2.2)).2.1; omega)
   have hP := l7Put_spec B ⟨(k : Int), l⟩ (by omega) (by dsimp only; omega) hBp;have hex : exS N u (k : Int) B l = if fitsI N u ⟨(k : Int), l⟩ = true then putE B ⟨(k : Int), l⟩ else B := rfl
   obtain ⟨b, hb⟩ := eqx (fitsI N u ⟨(k : Int), l⟩);rw [← hb] at hF hex;refine AC.region ?_;refine AL.p (by exact g_ia_view rfl rfl rfl rfl rfl (by rfl) (by assumption)) rfl ?_;refine zr ?_;refine za ?_;refine AL.nil (th_n (AC.seq (AC.region ?_)));refine zm ?_;refine zm ?_;refine AL.p (by exact g_build rfl rfl rfl) rfl ?_;refine kE ?_;refine zs ?_;refine AL.nil (th_n (AC.seq (AC.region ?_)));refine kG ?_;refine kG ?_;refine AL.p (by exact g_load_ptrN rfl rfl rfl rfl rfl) rfl ?_;refine AL.q (by exact h_pure en_l7Fits rfl rfl (by repeat (first | exact rfl | exact DLead.same | exact nI_lead _ | refine ⟨_, _, rfl, ?_, ?_⟩ | refine ⟨_, rfl, ?_⟩)) hF rfl) rfl ?_;refine AL.nil (th_n ?_);refine AC.condB rfl (fun h2 => ?_) (fun h2 => ?_)
   ·refine AC.region ?_;refine zm ?_;refine AL.p (by exact g_load_ptrN rfl rfl rfl rfl rfl) rfl ?_;refine AL.q (by exact h_pure en_l7Put rfl rfl (by repeat (first | exact rfl | exact vNo_lead _ | exact DLead.same | refine ⟨_, _, rfl, ?_, ?_⟩ | refine ⟨_, rfl, ?_⟩)) hP rfl) rfl ?_;refine za ?_;refine AL.nil (ib_n (th_n (AC.region ?_)));refine zA ?_;refine zm ?_;refine AL.nil (th_n ?_)
    (have q := ‹b = true›; rw [if_pos q] at hex; rw [hex] at hsn; exact ⟨j + 1, by omega, by omega, Weak.ren _ [] hC rfl (by rw [hsn, vNo_ne (putE_ne _ _)]; repeat (first | exact True.intro | refine And.intro ?_ ?_ | exact DLead.same)) (by repeat (exact True.intro)) rfl rfl rfl⟩)
   refine AC.skip (ib_n (th_n (AC.region ?_)));refine zA ?_;refine zm ?_;refine AL.nil (th_n ?_)
   (have q := ‹b = false›; rw [if_neg (by rw [q]; decide)] at hex; rw [hex] at hsn; exact ⟨j + 1, by omega, by omega, Weak.ren _ [] hC rfl (by rw [hsn]; repeat (first | exact True.intro | refine And.intro ?_ ?_ | exact DLead.same)) (by repeat (exact True.intro)) rfl rfl rfl⟩)
  refine AC.exit (th_e (th_e (ib_y (ib_n (th_n (AC.region ?_))))));refine zA ?_;refine zm ?_;refine AL.nil (th_n ?_);have hjj : j = L.length := by omega
  rw [hjj, List.take_length, ← hes];exact ⟨k + 1, by omega, by omega, Weak.ren _ [] hC rfl (by repeat (first | exact True.intro | refine And.intro ?_ ?_ | exact DLead.same)) (by repeat (exact True.intro)) rfl rfl rfl⟩
 refine AC.exit (th_e (th_e (ib_y (th_n (AC.seq ?_)))));have hkk : k = N.ts.length := by omega
 rw [hkk];refine AC.region ?_;refine zm ?_;refine za ?_;refine AL.nil (th_n (AC.ret (bq_r ?_)));exact ret1 rfl rfl
theorem en_l7Extend : Enters Tryz.prog 99 := enters_of Tryz.func99 rfl rfl
set_option maxHeartbeats 4000000 in
theorem l7WithO_spec (N : Net) (u : Unf) (h : Ev) (hB : NetB N) (hw : WF u) (hh : h.pre.length ≤ 1000000) (hr : inR N h.t = true) : ASpec Tryz.prog 66 [netA N, unfA u, evA h] [] (Fun1 (.agg [.own 0 (withI N u h).cs.length, .own 1 (withI N u h).es.length]) [(0, .arr 143 2 (condsL (withI N u h).cs)), (1, .arr 59 2 (evsL (withI N u h).es))]) := by
 have hel := hw.e;have hcl := hw.c;obtain ⟨i, hi, hin⟩ := inR_nat hr;have hgetT := tsL_get hin;have hpl := (hB.t _ (List.getElem_mem hin)).2;have hwi : withI N u h = ⟨withC u N.ts[i].post, u.es ++ [h]⟩ := by unfold withI; rw [hi, tAt_nat hin]
 obtain ⟨ht, hp⟩ := h;obtain rfl : ht = (i : Int) := hi;rw [hwi];refine ASpec.of Tryz.func66 rfl rfl fun C hC => ?_
 refine AC.seq (AC.region ?_);refine kD ?_;refine kD ?_;refine kD ?_;refine kE ?_;refine AL.nil (th_n (AC.seq (AC.region ?_)));refine AL.q (by exact h_lit rfl rfl rfl rfl rfl rfl rfl rfl) rfl ?_;refine zf ?_;refine zr ?_;refine AL.q (by exact h_appendC [] u.cs (.own rfl rfl rfl) (.view rfl) (by simp; omega) (by simp)) rfl ?_;refine AL.p (by exact g_build rfl rfl rfl) rfl ?_;refine kE ?_;refine zs ?_;refine AL.nil (th_n (AC.seq (AC.seq (AC.region ?_))));refine zf ?_;refine zr ?_;refine kH ?_;refine zm ?_;refine AL.nil (th_n (AC.block ?_));refine AC.loop (ι := Nat) (fun k => ⟨63, 136, [(3, .d (.ref (netD N))), (4, .d (.ref (unfD u))), (5, .d (.ref (evD ⟨(i : Int), hp⟩))), (6, .ptr 103 0), (7, .ptr 100 0), (18, .d (vEs u.es)), (19, aI u.es.length), (20, aI k)], [(100, some (.cells 29 [.own 101 u.cs.length, .own 102 k])), (101, some (.arr 143 2 (condsL u.cs))), (102, some (.arr 59 2 (evsL (u.es.take k)))), (103, some (.cells 29 [.d (.val (.slice none 0 0)), .d (.val (.slice none 0 0))]))]⟩) (fun k => k ≤ u.es.length) (fun k => u.es.length - k) (0) ?_ (Nat.zero_le _) ?_
 ·exact (Weak.nilOwnP 7 1 (e := 59) (sz := 2) rfl rfl rfl rfl rfl).trans (zw [(100, _), (101, _), (102, _), (103, _)] hC)
 intro k hk;refine AC.seq (AC.region ?_);refine zc ?_;refine AL.nil (th_n (AC.seq ?_));refine AC.condD rfl (fun h0 => ?_) (fun h0 => ?_)
 ·refine AC.skip (th_n (AC.seq (AC.block (AC.seq ?_))));have hk1 : k < u.es.length := by omega
  have hget := evsL_get hk1;have hl1 := hw.l _ (List.getElem_mem hk1);have htl : (u.es.take k).length = k := by rw [List.length_take]; omega
  have htk : u.es.take (k + 1) = u.es.take k ++ [u.es[k]] := by rw [List.take_add_one, List.getElem?_eq_getElem hk1]; rfl
  refine AC.region ?_;refine AL.p (by exact g_ia_view rfl rfl rfl rfl rfl (by rfl) (by assumption)) rfl ?_;refine kG ?_;refine kE ?_;refine zs ?_;refine AL.nil (th_n ?_);refine AC.drawn' mixed_ok [[], [0], [], [2], [2,3], [0,1,2,3,4], [0,1,2,3,4,5], [0,1,2,3,4,5,6]] (by decide) ?_;refine zd 0 [] 8 (by exact g_fa_ptr rfl rfl rfl rfl rfl) ?_;refine zd 1 [0] 8 (by exact g_load_ptr rfl rfl rfl rfl rfl) ?_;refine zd 2 [] 8 (by exact g_load_ptrN rfl rfl rfl rfl rfl) ?_;refine zh 3 [2] 8 (by exact h_pure en_l7OwnH rfl rfl (by repeat (first | exact rfl | exact DLead.same | refine ⟨_, _, rfl, ?_, ?_⟩ | refine ⟨_, rfl, ?_⟩)) (l7OwnH_spec _ (by assumption)) rfl) ?_;refine zh 4 [2,3] 8 (by exact h_litF rfl rfl rfl rfl rfl rfl rfl rfl) ?_;refine zh 5 [0,1,2,3,4] 8 (by exact h_appendE (u.es.take k) [u.es[k]] (.own rfl rfl (by rw [evsL_len, htl])) (.view rfl) (by simp; omega) (by simp)) ?_;refine zd 6 [0,1,2,3,4,5] 8 (by exact g_fa_ptr rfl rfl rfl rfl rfl) ?_;refine zh 7 [0,1,2,3,4,5,6] 8 (by exact h_store rfl rfl rfl rfl rfl rfl) ?_;refine zj 8 ?_;refine ib_n (th_n (AC.region ?_));refine zA ?_;refine zm ?_;refine AL.nil (th_n ?_);have hl3 : (u.es.take k ++ [u.es[k]]).length = k + 1 := by rw [List.length_append, htl]; rfl
  exact ⟨k + 1, by omega, by omega, zw [(100, _), (101, _), (102, _), (103, _)] hC (b := by rw [htk, ← hl3]; repeat (first | exact True.intro | refine And.intro ?_ ?_ | exact DLead.same | exact rfl | refine ⟨_, _, rfl, rfl, ?_⟩ | refine ⟨_, rfl, ?_⟩ | refine ⟨_, _, rfl, ?_, ?_⟩))⟩
 refine AC.exit (th_e (th_e (ib_y (th_n (AC.seq ?_)))));have hkk : k = u.es.length := by omega
 subst hkk;rw [List.take_length];refine AC.drawn' mixed_ok [[], [0], [], [2], [2,3], [0,1,2,3,4], [0,1,2,3,4,5], [0,1,2,3,4,5,6]] (by decide) ?_;refine zd 0 [] 8 (by exact g_fa_ptr rfl rfl rfl rfl rfl) ?_;refine zd 1 [0] 8 (by exact g_load_ptr rfl rfl rfl rfl rfl) ?_;refine zd 2 [] 8 (by exact g_load_refN rfl rfl rfl rfl) ?_;refine zh 3 [2] 8 (by exact h_pure en_l7OwnH rfl rfl (by repeat (first | exact rfl | exact DLead.same | refine ⟨_, _, rfl, ?_, ?_⟩ | refine ⟨_, rfl, ?_⟩)) (l7OwnH_spec _ (by assumption)) rfl) ?_;refine zh 4 [2,3] 8 (by exact h_litF rfl rfl rfl rfl rfl rfl rfl rfl) ?_;refine zh 5 [0,1,2,3,4] 8 (by exact h_appendE u.es [⟨(i : Int), hp⟩] (.own rfl rfl (evsL_len _).symm) (.view rfl) (by simp; omega) (by simp)) ?_;refine zd 6 [0,1,2,3,4,5] 8 (by exact g_fa_ptr rfl rfl rfl rfl rfl) ?_;refine zh 7 [0,1,2,3,4,5,6] 8 (by exact h_store rfl rfl rfl rfl rfl rfl) ?_;refine zj 8 ?_;refine th_n (AC.seq (AC.seq (AC.region ?_)));refine zf ?_;refine zr ?_;refine zf ?_;refine zr ?_;refine AL.p (by exact g_ia_view rfl rfl rfl rfl rfl (by rfl) (by assumption)) rfl ?_;refine zf ?_;refine zr ?_;refine kH ?_;refine zm ?_;refine AL.nil (th_n (AC.block ?_));refine AC.loop (ι := Nat) (fun k => ⟨63, 136, [(4, .d (.ref (unfD u))), (6, .ptr 103 0), (7, .ptr 100 0), (45, .d (vI N.ts[i].post)), (46, aI N.ts[i].post.length), (47, aI k)], [(100, some (.cells 29 [.own 101 (u.cs.length + k), .own 102 (u.es ++ [(⟨(i : Int), hp⟩ : Ev)]).length])), (101, some (.arr 143 2 (condsL (withC u (N.ts[i].post.take k))))), (102, some (.arr 59 2 (evsL (u.es ++ [(⟨(i : Int), hp⟩ : Ev)])))), (103, some (.cells 29 [.d (.val (.slice none 0 0)), .d (.val (.slice none 0 0))]))]⟩) (fun k => k ≤ N.ts[i].post.length) (fun k => N.ts[i].post.length - k) (0) ?_ (Nat.zero_le _) ?_
 ·exact Weak.ren _ [(100, _), (101, _), (102, _), (103, _)] hC rfl (by repeat (first | exact True.intro | refine And.intro ?_ ?_ | exact DLead.same | exact rfl | refine ⟨_, rfl, ?_⟩)) (by rw [show withC u (N.ts[i].post.take 0) = u.cs from List.append_nil _]; repeat (first | exact True.intro | refine And.intro ?_ ?_ | exact DLead.same | exact rfl | refine ⟨_, _, rfl, rfl, ?_⟩ | refine ⟨_, rfl, ?_⟩ | refine ⟨_, _, rfl, ?_, ?_⟩)) rfl rfl rfl
 intro k hk;refine AC.seq (AC.region ?_);refine zc ?_;refine AL.nil (th_n (AC.seq ?_));refine AC.condD rfl (fun h1 => ?_) (fun h1 => ?_)
 ·refine AC.skip (th_n (AC.seq (AC.block (AC.seq ?_))));have hk1 : k < N.ts[i].post.length := by omega
  have hget := ints_at hk1;have hwt := withC_take (u := u) hk1;have hwl : (withC u (N.ts[i].post.take k)).length = u.cs.length + k := by rw [withC_len, List.length_take]; omega
  refine AC.region ?_;refine AL.p (by exact g_ia_view rfl rfl rfl rfl rfl (by rfl) (by assumption)) rfl ?_;refine zr ?_;refine za ?_;refine AL.nil (th_n (AC.region ?_));refine zF ?_;refine zl ?_;refine zm ?_;refine zf ?_;refine zr ?_;refine kH ?_;refine AL.p (by exact g_build rfl rfl rfl) rfl ?_;refine AL.q (by exact h_litF rfl rfl rfl rfl rfl rfl rfl rfl) rfl ?_;refine AL.q (by exact h_appendC (withC u (N.ts[i].post.take k)) [⟨N.ts[i].post[k], (u.es.length : Int)⟩] (.own rfl rfl (by rw [condsL_len, hwl])) (.view rfl) (by rw [List.length_append, hwl]; show u.cs.length + k + 1 ≤ _; omega) (by simp)) rfl ?_;refine zF ?_;refine zs ?_;refine AL.nil (ib_n (th_n (AC.region ?_)));refine zA ?_;refine zm ?_;refine AL.nil (th_n ?_);have hl5 : (withC u (N.ts[i].post.take k) ++ [(⟨N.ts[i].post[k], (u.es.length : Int)⟩ : Cond)]).length = u.cs.length + (k + 1) := by rw [List.length_append, hwl]; rfl
  exact ⟨k + 1, by omega, by omega, zw [(100, _), (101, _), (102, _), (103, _)] hC (b := by rw [hwt, ← hl5]; repeat (first | exact True.intro | refine And.intro ?_ ?_ | exact DLead.same | exact rfl | refine ⟨_, _, rfl, rfl, ?_⟩ | refine ⟨_, rfl, ?_⟩ | refine ⟨_, _, rfl, ?_, ?_⟩))⟩
 refine AC.exit (th_e (th_e (ib_y (th_n (AC.seq ?_)))));have hkk : k = N.ts[i].post.length := by omega
 subst hkk;rw [List.take_length];have hwl : (withC u N.ts[i].post).length = u.cs.length + N.ts[i].post.length := withC_len _ _;refine AC.region ?_;refine AL.p (by exact g_load_ptrN rfl rfl rfl rfl rfl) rfl ?_;refine zs ?_;refine AL.nil (th_n (AC.ret (bq_r ?_)));exact retN [(0, 101), (1, 102)] rfl (by rw [hwl]; repeat (first | exact rfl | refine ⟨_, _, rfl, ?_, ?_⟩ | refine ⟨_, rfl, ?_⟩)) (by repeat (first | exact True.intro | refine And.intro ?_ ?_ | exact rfl | refine ⟨_, _, rfl, rfl, ?_⟩)) rfl rfl
end Go.Proofs.YtbiinjejokhfgaaGreat
