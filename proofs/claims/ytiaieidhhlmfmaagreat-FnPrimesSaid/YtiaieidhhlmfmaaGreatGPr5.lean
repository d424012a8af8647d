/- Contracts of the functions of the program and of the reference, each proved by a walk through its code. -/
import Derived.Test.YtiaieidhhlmfmaaGreatGPr4
set_option linter.all false
set_option maxRecDepth 20000
namespace Go.Proofs.YtiaieidhhlmfmaaGreat
open Go.RowKit
theorem bit_two {b : UInt8} (h : bit b = true) : b = 48 ∨ b = 49 := by
 unfold bit at h;rw [Bool.or_eq_true, decide_eq_true_eq, decide_eq_true_eq] at h;rcases h with h | h
 ·exact .inl (UInt8.toNat_inj.1 (show b.toNat = 48 by omega))
 exact .inr (UInt8.toNat_inj.1 (show b.toNat = 49 by omega))
theorem app_lt : ∀ {a b : Tx} (x y : Tx), a.length = b.length → a < b → a ++ x < b ++ y
 | [], [], _, _, _, h => absurd h (tx_irr _)
 | [], _ :: _, _, _, hl, _ => by cases hl
 | _ :: _, [], _, _, hl, _ => by cases hl
 | c :: a, d :: b, x, y, hl, h => by
  rw [List.cons_lt_cons_iff] at h;rw [List.cons_append, List.cons_append, List.cons_lt_cons_iff];rcases h with h | ⟨h1, h2⟩
  ·exact .inl h
  exact .inr ⟨h1, app_lt x y (by simpa using hl) h2⟩
theorem app_lt_same : ∀ (a : Tx) {x y : Tx}, x < y → a ++ x < a ++ y
 | [], _, _, h => h
 | c :: a, _, _, h => by rw [List.cons_append, List.cons_append, List.cons_lt_cons_iff]; exact .inr ⟨rfl, app_lt_same a h⟩
theorem cubesN_sorted : ∀ n, (cubesN n).Pairwise (fun a b => a < b)
 | 0 => List.pairwise_singleton _ _
 | n + 1 => by
  have ih := cubesN_sorted n;show ((cubesN n).flatMap fun c => [c ++ [45], c ++ [48], c ++ [49]]).Pairwise _;rw [List.pairwise_flatMap];refine ⟨fun c _ => ?_, ?_⟩
  ·have h1 : c ++ [45] < c ++ [48] := app_lt_same c (by decide);have h2 : c ++ [48] < c ++ [49] := app_lt_same c (by decide);refine List.Pairwise.cons (fun y hy => ?_) (List.Pairwise.cons (fun y hy => ?_) (List.pairwise_singleton _ _))
   ·have : y = c ++ [48] ∨ y = c ++ [49] := by simpa using hy
    rcases this with rfl | rfl
    ·exact h1
    exact tx_lt_trans h1 h2
   rw [List.mem_singleton.1 hy]; exact h2
  have hm := fun c h => ((cubesN_mem n c).1 h).1
  have hall : ∀ a, a ∈ cubesN n → ∀ b, b ∈ cubesN n → a < b → ∀ x, x ∈ ([a ++ [45], a ++ [48], a ++ [49]] : List Tx) → ∀ y, y ∈ ([b ++ [45], b ++ [48], b ++ [49]] : List Tx) → x < y := fun a ha b hb hab x hx y hy => by
   obtain ⟨u, rfl⟩ : ∃ u, x = a ++ u := by
    have : x = a ++ [45] ∨ x = a ++ [48] ∨ x = a ++ [49] := by simpa using hx
    rcases this with h | h | h <;> exact ⟨_, h⟩
   obtain ⟨v, rfl⟩ : ∃ v, y = b ++ v := by
    have : y = b ++ [45] ∨ y = b ++ [48] ∨ y = b ++ [49] := by simpa using hy
    rcases this with h | h | h <;> exact ⟨_, h⟩
   exact app_lt u v (by rw [hm a ha, hm b hb]) hab
  exact ih.imp_of_mem fun {a b} ha hb hab => hall a ha b hb hab
theorem primesL_sorted (n : Nat) (on off : List Tx) : (primesL n on off).Pairwise (fun a b => a < b) := (cubesN_sorted n).sublist List.filter_sublist
theorem primesL_mem {n : Nat} {on off : List Tx} {p : Tx} (h : p ∈ primesL n on off) : p.length = n ∧ anyH p off = false ∧ p.all lit3 = true := by
 obtain ⟨h1, h2⟩ := List.mem_filter.1 h;obtain ⟨h3, h4⟩ := (cubesN_mem n p).1 h1;unfold primP at h2;simp only [Bool.and_eq_true, Bool.not_eq_true'] at h2;exact ⟨h3, h2.1.2, List.all_eq_true.2 fun b hb => by rcases h4 b hb with e | e | e <;> rw [e] <;> decide⟩
theorem ess_succ {P on : List Tx} {k : Nat} (h : k < P.length) : essL P on (k + 1) = essL P on k ++ (if essB P on k P[k] = true then [P[k]] else []) := by
 have hz : k < P.zipIdx.length := by rw [List.length_zipIdx]; exact h
 have hg : P.zipIdx[k] = (P[k], k) := by rw [List.getElem_zipIdx]; simp
 unfold essL;rw [filt_sn _ hz, List.map_append, hg];congr 1;dsimp only
 split <;> rfl
theorem ess_sub (P on : List Tx) : (essL P on P.length).Sublist P := by
 unfold essL;rw [List.take_of_length_le (by rw [List.length_zipIdx]; exact Nat.le_refl _)];have h := (List.filter_sublist (p := fun x : Tx × Nat => essB P on x.2 x.1) (l := P.zipIdx)).map (·.1)
 rwa [show P.zipIdx.map (·.1) = P from List.zipIdx_map_fst 0 P] at h
theorem ess_mem {P on : List Tx} {x : Tx} : x ∈ essL P on P.length ↔ ∃ k, ∃ h : k < P.length, P[k] = x ∧ essB P on k P[k] = true := by
 unfold essL;rw [List.take_of_length_le (by rw [List.length_zipIdx]; exact Nat.le_refl _), List.mem_map];constructor
 ·rintro ⟨⟨p, k⟩, h1, rfl⟩;obtain ⟨h2, h3⟩ := List.mem_filter.1 h1;obtain ⟨hk, e⟩ := List.mem_zipIdx' h2;dsimp only at h3 e ⊢;exact ⟨k, hk, e.symm, by rw [← e]; exact h3⟩
 rintro ⟨k, hk, rfl, h⟩;exact ⟨(P[k], k), List.mem_filter.2 ⟨List.mk_mem_zipIdx_iff_getElem?.2 (List.getElem?_eq_getElem hk), h⟩, rfl⟩
def onePT (P : List Tx) (c : Tx) : List Tx := if (P.filter fun p => hasC p c).length = 1 then [(P.filter fun p => hasC p c).getD 0 []] else []
def eT (P on : List Tx) (j : Nat) : List Tx := (on.take j).flatMap (onePT P)
theorem eT_succ {P on : List Tx} {j : Nat} (h : j < on.length) : eT P on (j + 1) = eT P on j ++ onePT P on[j] := by
 unfold eT;rw [List.take_add_one, List.getElem?_eq_getElem h, List.flatMap_append]; simp
theorem onePT_len (P : List Tx) (c : Tx) : (onePT P c).length ≤ 1 := by unfold onePT; split <;> simp
theorem eT_len (P on : List Tx) : ∀ j, j ≤ on.length → (eT P on j).length ≤ j
 | 0, _ => Nat.le_refl _
 | j + 1, h => by
  rw [eT_succ (by omega), List.length_append];have := eT_len P on j (by omega);have := onePT_len P on[j];omega
theorem covB_f {l : List Tx} {c : Tx} : covB l c = false ↔ (l.filter fun p => hasC p c) = [] := by
 unfold covB;rw [List.any_eq_false, List.filter_eq_nil_iff]
theorem filt_at {P : List Tx} {k : Nat} (h : k < P.length) (f : Tx → Bool) : P.filter f = (P.take k).filter f ++ (if f P[k] = true then [P[k]] else []) ++ (P.drop (k + 1)).filter f := by
 have : P = P.take k ++ P[k] :: P.drop (k + 1) := by rw [List.getElem_cons_drop, List.take_append_drop]
 conv => lhs; rw [this]
 rw [List.filter_append, List.filter_cons]
 split <;> simp
theorem mid_nil {α : Type} {x : α} {A B : List α} (h : [x] = A ++ [x] ++ B) : A = [] ∧ B = [] := by
 have hl := congrArg List.length h;simp only [List.length_append, List.length_cons, List.length_nil] at hl;exact ⟨List.eq_nil_of_length_eq_zero (by omega), List.eq_nil_of_length_eq_zero (by omega)⟩
theorem one_mem {P : List Tx} {c x : Tx} : x ∈ onePT P c ↔ ∃ k, ∃ h : k < P.length, P[k] = x ∧ (hasC P[k] c && !covB (P.take k ++ P.drop (k + 1)) c) = true := by
 unfold onePT;constructor
 ·intro h
  split at h
  ·rename_i h1;obtain ⟨y, hy⟩ := List.length_eq_one_iff.1 h1;rw [hy] at h;obtain rfl : x = y := by simpa using h
   have hm : x ∈ P.filter fun p => hasC p c := by rw [hy]; simp
   obtain ⟨hm1, hm2⟩ := List.mem_filter.1 hm;obtain ⟨k, hk, rfl⟩ := List.getElem_of_mem hm1;have hf := filt_at hk fun p => hasC p c
   rw [hy, if_pos hm2] at hf;refine ⟨k, hk, rfl, ?_⟩;rw [hm2, Bool.true_and, Bool.not_eq_true', covB_f, List.filter_append, List.append_eq_nil_iff];exact mid_nil hf
  cases h
 rintro ⟨k, hk, rfl, h⟩;rw [Bool.and_eq_true, Bool.not_eq_true', covB_f, List.filter_append, List.append_eq_nil_iff] at h;have hf := filt_at hk fun p => hasC p c
 rw [h.2.1, h.2.2, if_pos h.1] at hf;rw [hf];simp
theorem ess_two {P on : List Tx} (hs : P.Pairwise (fun a b => a < b)) : ddT (sortT (eT P on on.length)) (eT P on on.length).length = essL P on P.length := by
 obtain ⟨h1, h2⟩ := dt_set (eT P on on.length);refine tx_ext h1 (hs.sublist (ess_sub P on)) fun x => ?_
 rw [h2, ess_mem];unfold eT;rw [List.take_length, List.mem_flatMap];constructor
 ·rintro ⟨c, hc, hx⟩;obtain ⟨k, hk, e, h⟩ := one_mem.1 hx;exact ⟨k, hk, e, by unfold essB; exact List.any_eq_true.2 ⟨c, hc, h⟩⟩
 rintro ⟨k, hk, e, h⟩;unfold essB at h;obtain ⟨c, hc, h⟩ := List.any_eq_true.1 h;exact ⟨c, hc, one_mem.2 ⟨k, hk, e, h⟩⟩
theorem hasC_iff {a b : Tx} : hasC a b = true ↔ ∀ i, i < a.length → at1 a i = 45 ∨ at1 a i = at1 b i := by
 unfold hasC allN okAt;rw [List.all_eq_true];simp only [List.mem_range, Bool.or_eq_true, decide_eq_true_eq]
theorem at1_set {c : Tx} {i j : Nat} (h : i < c.length) : at1 (c.set i 45) j = if i = j then 45 else at1 c j := by
 unfold at1;rw [List.getD_eq_getElem?_getD, List.getElem?_set]
 by_cases e : i = j
 ·subst e; rw [if_pos rfl, if_pos h, if_pos rfl]; rfl
 rw [if_neg e, if_neg e, List.getD_eq_getElem?_getD]
theorem has_set {c x : Tx} {i : Nat} (hi : i < c.length) (h : hasC c x = true) : hasC (c.set i 45) x = true := by
 rw [hasC_iff] at h ⊢;intro j hj;rw [List.length_set] at hj;rw [at1_set hi]
 split
 ·exact .inl rfl
 exact h j hj
theorem lit_set {c : Tx} {i : Nat} (hi : i < c.length) (h : ¬ at1 c i = 45) : litC (c.set i 45) < litC c := by
 have hc : c = c.take i ++ c[i] :: c.drop (i + 1) := by rw [List.getElem_cons_drop, List.take_append_drop]
 have e : at1 c i = (c[i].toNat : Int) := by unfold at1; rw [List.getD_eq_getElem?_getD, List.getElem?_eq_getElem hi]; rfl
 rw [e] at h;unfold litC;rw [List.set_eq_take_append_cons_drop, if_pos hi]
 conv => rhs; rw [hc]
 rw [List.filter_append, List.filter_append, List.filter_cons, List.filter_cons, if_neg (by decide), if_pos (by rw [decide_eq_false h]; rfl)];simp only [List.length_append, List.length_cons];omega
theorem prime_up {n : Nat} {on off : List Tx} {x : Tx} (hx : x ∈ on) : ∀ (k : Nat) (c : Tx), litC c ≤ k → c ∈ cubesN n → hasC c x = true → anyH c off = false → ∃ p, p ∈ primesL n on off ∧ hasC p x = true
 | k, c, hk, hc, hcx, hco => by
  cases hp : primeB c off with
  | true => exact ⟨c, List.mem_filter.2 ⟨hc, by unfold primP; rw [hp, hco, show anyH c on = true from List.any_eq_true.2 ⟨x, hx, hcx⟩]; rfl⟩, hcx⟩
  | false =>
   unfold primeB allN at hp;obtain ⟨i, hi, hf⟩ := List.all_eq_false.1 hp;have hi := List.mem_range.1 hi;unfold prmA at hf;simp only [Bool.or_eq_true, decide_eq_true_eq, not_or, Bool.not_eq_true] at hf;have hl := lit_set hi hf.1;have hm := (cubesN_mem n c).1 hc;cases k with
   | zero => omega
   | succ k =>
    exact prime_up hx k (c.set i 45) (by omega) ((cubesN_mem n _).2 ⟨by rw [List.length_set]; exact hm.1, fun b hb => by
     rcases List.mem_or_eq_of_mem_set hb with h | h
     ·exact hm.2 b h
     exact .inl h⟩) (has_set hi hcx) hf.2
theorem bits_cube {x : Tx} {n : Nat} (h : bitsB x n = true) : x ∈ cubesN n := by
 rw [cubesN_mem];have hl := bits_len' h;refine ⟨by omega, fun b hb => ?_⟩;unfold bitsB at h;rw [Bool.and_eq_true] at h;have := List.all_eq_true.1 h.1 b hb;rcases bit_two this with e | e
 ·exact .inr (.inl e)
 exact .inr (.inr e)
theorem has_same {x y : Tx} {n : Nat} (hx : bitsB x n = true) (hy : y.length = x.length) (h : hasC x y = true) : x = y := by
 refine ext_getD hy.symm fun j hj => ?_
 rw [hasC_iff] at h;rcases h j hj with e | e
 ·exfalso;unfold bitsB at hx;rw [Bool.and_eq_true] at hx;have := List.all_eq_true.1 hx.1 x[j] (List.getElem_mem hj);have e2 : at1 x j = (x[j].toNat : Int) := by unfold at1; rw [List.getD_eq_getElem?_getD, List.getElem?_eq_getElem hj]; rfl
  rcases bit_two this with q | q <;> rw [e2, q] at e <;> exact absurd e (by decide)
 unfold at1 at e;exact UInt8.toNat_inj.1 (by omega)
theorem primes_cover {n : Int} {on off : List Tx} (h : onoffB n on off = true) : covers (primesL n.toNat on off) on := by
 obtain ⟨m, rfl, h1, h2, _, _, h3, h4, h5⟩ := onoff_in h;intro x hx;obtain ⟨hl, hb⟩ := h3 x hx;refine prime_up hx (litC x) x (Nat.le_refl _) (bits_cube hb) (hasC_iff.2 fun i _ => .inr rfl) (List.any_eq_false.2 fun y hy hh => ?_);have := has_same hb (by rw [(h4 y hy).1, hl]) hh;exact h5 x hx (by rw [this]; exact hy)
def essR (n : Int) (on off : List Tx) : List Tx × Bool := if (prR n on off).2 = true then (essL (prR n on off).1 on (prR n on off).1.length, true) else ([], false)
theorem prR_in {n : Int} {on off : List Tx} (h : (prR n on off).2 = true) : onoffB n on off = true ∧ (prR n on off).1 = primesL n.toNat on off ∧ (primesL n.toNat on off).length ≤ 60 := by
 unfold prR at h ⊢
 split at h
 ·rename_i hc;rw [if_pos hc];exact ⟨hc.1, rfl, hc.2⟩
 cases h
theorem prR_len {n : Int} {on off : List Tx} : (prR n on off).1.length ≤ 60 := by
 unfold prR
 split
 ·rename_i hc; exact hc.2
 exact Nat.zero_le _
theorem iEssP1_spec (p c : Tx) (hp : p.length ≤ 2000000) (hc : c.length = p.length) : ASpec Tryz.prog 35 [aS (bstr p), .d (.ref [dS (bstr c)])] [] (Pure1 (aT (!hasC p c))) := by
 have hI := contains_spec p c hp hc;refine ASpec.of Tryz.func35 rfl rfl fun C hC => ?_
 refine AC.seq (AC.region ?_);refine za ?_;refine AL.nil (th_n (AC.seq (AC.region ?_)));refine zm ?_;refine zr ?_;refine kV en_contains hI ?_;refine kC ?_;refine za ?_;refine AL.nil (th_n (AC.ret (bq_r ?_)));exact ret1 rfl rfl
theorem en_iEssP1 : Enters Tryz.prog 35 := enters_of Tryz.func35 rfl rfl
structure PrOk (n : Int) (on off P : List Tx) : Prop where
 m : ∃ m : Nat, 1 ≤ m ∧ m ≤ 8 ∧ (∀ x, x ∈ on → x.length = m) ∧ ∀ p, p ∈ P → p.length = m
 onl : on.length ≤ 64
 pl : P.length ≤ 60
 srt : P.Pairwise (fun a b => a < b)
 cov : covers P on
theorem prR_ok {n : Int} {on off : List Tx} (h : (prR n on off).2 = true) : PrOk n on off (prR n on off).1 := by
 obtain ⟨h1, h2, h3⟩ := prR_in h;have hc := primes_cover h1;obtain ⟨m, rfl, g1, g2, g3, _, g4, _, _⟩ := onoff_in h1;rw [h2];exact ⟨⟨m, g1, g2, fun x hx => (g4 x hx).1, fun p hp => (primesL_mem hp).1⟩, g3, h3, primesL_sorted _ _ _, hc⟩
set_option maxHeartbeats 16000000 in
theorem iEssP_spec (n : Int) (on off : List Tx) (hl : on.length ≤ 1000000) (hl2 : off.length ≤ 1000000) (hb : ∀ c, c ∈ on → c.length ≤ 2000000) (hb2 : ∀ c, c ∈ off → c.length ≤ 2000000) : ASpec Tryz.prog 9 [aI n, .d (vSs on), .d (vSs off)] [] (Pure1 (.tup [.d (vSs (essR n on off).1), aT (essR n on off).2])) := by
 have hP := iPrimes_spec n on off hl hl2 hb hb2;have hO := @prR_ok n on off;have hR : essR n on off = if (prR n on off).2 = true then (essL (prR n on off).1 on (prR n on off).1.length, true) else ([], false) := rfl
 obtain ⟨A, hA⟩ := eqx (prR n on off);rw [← hA] at hP hO hR;obtain ⟨R, hRR⟩ := eqx (essR n on off);rw [← hRR] at hR ⊢;clear hA hRR;refine ASpec.of Tryz.func9 rfl rfl fun C hC => ?_
 refine AC.seq (AC.region ?_);refine za ?_;refine za ?_;refine AL.nil (th_n (AC.seq (AC.region ?_)));refine zm ?_;refine zm ?_;refine zm ?_;refine kV en_iPrimes hP ?_;refine AL.p (by exact mv5 rfl) rfl ?_;refine AL.p (by exact g_extract (r := .d _) rfl rfl) rfl ?_;refine AL.p (by exact g_extract (r := .d _) rfl rfl) rfl ?_;refine za ?_;refine za ?_;refine AL.nil (th_n (AC.seq (AC.seq (AC.region ?_))));refine zm ?_;refine kC ?_;refine AL.nil (th_n ?_);refine AC.condB rfl (fun h0 => ?_) (fun h0 => ?_)
 ·refine AC.seq (AC.region ?_);refine za ?_;refine za ?_;refine AL.nil (th_n (AC.ret (th_r (bq_r ?_))));have e : R = ([], false) := hR.trans (if_neg (by have q := ‹(!A.2) = true›; simpa using q));exact ret0 rfl (by rw [e]; show AV.leads _ (.tup [.d (vSs []), aT false]) _; repeat (first | exact DLead.same | exact DLead.nil | exact rfl | refine ⟨_, rfl, ?_⟩ | refine ⟨_, _, rfl, ?_, ?_⟩))
 refine AC.skip (th_n (AC.seq ?_));have hA1 : A.2 = true := by have q := ‹(!A.2) = false›; simpa using q
 rw [if_pos hA1] at hR;have hK := hO hA1;obtain ⟨m, hm1, hm8, hmo, hmp⟩ := hK.m;have hol := hK.onl;have hpl := hK.pl;have hE := ess_two (P := A.1) (on := on) hK.srt;have hTs := fun j (hj : j < on.length) => eT_succ (P := A.1) hj
 have hTl := fun j hj => eT_len A.1 on j hj
 have hT0 : eT A.1 on 0 = [] := rfl;have hone : ∀ c, onePT A.1 c = if (A.1.filter fun p => hasC p c).length = 1 then [(A.1.filter fun p => hasC p c).getD 0 []] else [] := fun _ => rfl
 have hSo := sortStr_spec (eT A.1 on on.length) (by have := hTl on.length (Nat.le_refl _); omega);have hsl := sortT_len (eT A.1 on on.length);have hCo := compactStr_spec (sortT (eT A.1 on on.length)) (by rw [hsl]; have := hTl on.length (Nat.le_refl _); omega);rw [hsl, hE] at hCo;obtain ⟨P, hPP⟩ := eqx A.1;rw [← hPP] at hR hK hmp hpl hTs hTl hT0 hone hSo hCo ⊢;obtain ⟨E, hEE⟩ := eqx (essL P on P.length);rw [← hEE] at hR hCo;obtain ⟨W, hW⟩ := eqx (sortT (eT P on on.length));rw [← hW] at hSo hCo;obtain ⟨T, hT⟩ := eqx (eT P on);rw [← hT] at hTs hTl hT0 hSo hCo;have hTs : ∀ j (hj : j < on.length), T (j + 1) = T j ++ onePT P on[j] := hTs;clear hE hsl hEE hW hT hPP hO hP;refine AC.region ?_;refine AL.q (by exact h_lit rfl rfl rfl rfl rfl rfl rfl rfl) rfl ?_;refine AL.p (by exact as2 rfl) rfl ?_;refine AL.nil (th_n (AC.seq (AC.seq (AC.region ?_))));refine zm ?_;refine kI on.length (strsL_len _) ?_;refine zm ?_;refine AL.nil (th_n (AC.block ?_));refine AC.loop (ι := Nat) (fun j => ⟨48, 300, [(8, .d (vSs P)), (10, .own 100 (T j).length), (24, .d (vSs on)), (25, aI on.length), (26, aI j)], [(100, some (.arr 9 1 (strsL (T j))))]⟩) (fun j => j ≤ on.length) (fun j => on.length - j) (0) ?_ (Nat.zero_le _) ?_
 ·exact zw [(100, _)] hC (by rw [hT0]; repeat (first | exact True.intro | refine And.intro ?_ ?_ | exact DLead.same | exact rfl | refine ⟨_, rfl, ?_⟩)) (by rw [hT0]; repeat (first | exact True.intro | refine And.intro ?_ ?_ | exact rfl | refine ⟨_, _, rfl, rfl, ?_⟩))
 intro j hj;refine AC.seq (AC.region ?_);refine zc ?_;refine AL.nil (th_n (AC.seq ?_));refine AC.condD rfl (fun h1 => ?_) (fun h1 => ?_)
 ·refine AC.skip (th_n (AC.seq (AC.block (AC.seq ?_))));have hj1 : j < on.length := by omega
  have hget := strs_at hj1;have hcm := hmo _ (List.getElem_mem hj1);have hTj := hTs j hj1;have hTlj := hTl j hj;obtain ⟨c, hc⟩ := eqx (on[j]);rw [← hc] at hget hcm hTj;rw [hone c] at hTj;have hCl := cloneStr_spec P (by omega);have hDl := delStr_spec P (by omega) 35 [.ref [dS (bstr c)]] en_iEssP1 (fun p => !hasC p c) (fun p hp => iEssP1_spec p c (by rw [hmp p hp]; omega) (by rw [hmp p hp, hcm]));simp only [Bool.not_not] at hDl;have hFl := List.length_filter_le (fun p => hasC p c) P;obtain ⟨X, hX⟩ := eqx (T j);rw [← hX] at hTj hTlj ⊢;obtain ⟨F, hF⟩ := eqx (P.filter fun p => hasC p c)
  rw [← hF] at hTj hDl hFl;clear hc hX hF;refine AC.region ?_;refine AL.p (by exact g_ia_view (i := j) rfl rfl rfl rfl rfl rfl hget) rfl ?_;refine zr ?_;refine kE ?_;refine zs ?_;refine AL.nil (th_n (AC.seq ?_));refine AC.weak (Weak.freezeRef (ds := [dS (bstr c)]) 12 rfl rfl) ?_;refine AC.weak (t := ⟨48, 400, [(8, .d (vSs P)), (10, .own 100 X.length), (12, .d (.ref [dS (bstr c)])), (24, .d (vSs on)), (25, aI on.length), (26, aI j)], [(100, some (.arr 9 1 (strsL X)))]⟩) (zw [(100, 100)] hC) ?_;refine AC.region ?_;refine zm ?_;refine kU [] en_cloneStr hCl ?_;refine AL.p (by exact g_fn rfl) rfl ?_;refine kU [400] en_delStr hDl ?_;refine AL.p (by exact as2 rfl) rfl ?_;refine AL.nil (th_n (AC.seq ?_));refine AC.weak (t := ⟨48, 500, [(8, .d (vSs P)), (10, .own 100 X.length), (13, .own 101 F.length), (24, .d (vSs on)), (25, aI on.length), (26, aI j)], [(100, some (.arr 9 1 (strsL X))), (101, some (.arr 9 1 (strsL F)))]⟩) (zw [(100, 100), (101, _)] hC) ?_;refine AC.region ?_;refine kB ?_;refine AL.p (by exact g_len_own (sz := 1) (els := []) (e' := 0) rfl rfl (by simp only [maxLen]; omega)) rfl ?_;refine zc ?_;refine AL.nil (th_n ?_);refine AC.condD rfl (fun h2 => ?_) (fun h2 => ?_)
  ·have hF1 : F.length = 1 := by omega
   rw [if_pos hF1] at hTj;have hg0 : (strsL F)[0]? = some [dS (bstr (F.getD 0 []))] := strs_get (by omega);obtain ⟨y, hy⟩ := eqx (F.getD 0 []);rw [← hy] at hg0 hTj;refine AC.region ?_;refine kB ?_;refine kB ?_;refine AL.p (by exact g_ia_own (i := 0) (l := F.length) rfl rfl rfl rfl rfl rfl (by omega) rfl) rfl ?_;refine AL.p (by exact g_load_arr1 rfl rfl rfl rfl (by rw [Nat.mul_one]; exact hg0)) rfl ?_;refine AL.q (by exact h_litF rfl rfl rfl rfl rfl rfl rfl rfl) rfl ?_;refine AL.q (by exact h_appendSt X [y] (.own rfl rfl (strsL_len _).symm) (.view rfl) (by rw [List.length_append]; simp only [List.length_cons, List.length_nil]; omega) (by simp)) rfl ?_;refine AL.p (by exact as2 rfl) rfl ?_;refine AL.nil (ib_n (th_n (AC.region ?_)));refine zA ?_;refine zm ?_;refine AL.nil (th_n ?_);exact ⟨j + 1, by omega, by omega, zw [(100, _)] hC (by rw [hTj, hy]; repeat (first | exact True.intro | refine And.intro ?_ ?_ | exact DLead.same | exact rfl | refine ⟨_, rfl, ?_⟩)) (by rw [hTj, hy]; repeat (first | exact True.intro | refine And.intro ?_ ?_ | exact rfl | refine ⟨_, _, rfl, rfl, ?_⟩))⟩
  refine AC.skip (ib_n (th_n (AC.region ?_)));refine zA ?_;refine zm ?_;refine AL.nil (th_n ?_)
  (rw [if_neg (by omega), List.append_nil] at hTj; exact ⟨j + 1, by omega, by omega, zw [(100, 100)] hC (by rw [hTj]; repeat (first | exact True.intro | refine And.intro ?_ ?_ | exact DLead.same | exact rfl | refine ⟨_, rfl, ?_⟩)) (by rw [hTj]; repeat (first | exact True.intro | refine And.intro ?_ ?_ | exact rfl | refine ⟨_, _, rfl, rfl, ?_⟩))⟩)
 refine AC.exit (th_e (th_e (ib_y (th_n (AC.seq ?_)))));have hjj : j = on.length := by omega
 rw [hjj];refine AC.region ?_;refine kB ?_;refine kU [100] en_sortStr hSo ?_;refine AL.nil (th_n (AC.seq (AC.region ?_)));refine kB ?_;refine kU [100] en_compactStr hCo ?_;refine AL.p (by exact as2 rfl) rfl ?_;refine za ?_;refine AL.nil (th_n ?_);refine AC.weak (Weak.freeze (i := 6) rfl rfl (Nat.le_of_eq (strsL_len _).symm) (List.take_of_length_le (Nat.le_of_eq (strsL_len _)))) ?_;refine AC.ret (bq_r ?_);exact ret0 rfl (by rw [hR]; show AV.leads _ (.tup [.d (vSs E), aT true]) _; repeat (first | exact DLead.same | exact rfl | refine ⟨_, rfl, ?_⟩ | refine ⟨_, _, rfl, ?_, ?_⟩))
theorem en_iEssP : Enters Tryz.prog 9 := enters_of Tryz.func9 rfl rfl
theorem essB_step {P on : List Tx} {k : Nat} {p c : Tx} (hc : c ∈ on) (h : hasC p c = true) (h2 : covB (P.take k ++ P.drop (k + 1)) c = false) : essB P on k p = true := by unfold essB; exact List.any_eq_true.2 ⟨c, hc, by rw [h, h2]; rfl⟩
theorem essB_none {P on : List Tx} {k : Nat} {p : Tx} (h : ∀ i (hi : i < on.length), (hasC p on[i] && !covB (P.take k ++ P.drop (k + 1)) on[i]) = false) : essB P on k p = false := by
 unfold essB;exact List.any_eq_false.2 fun x hx => by obtain ⟨i, hi, rfl⟩ := List.getElem_of_mem hx; rw [h i hi]; decide
theorem ess_len (P on : List Tx) : ∀ j, j ≤ P.length → (essL P on j).length ≤ j
 | 0, _ => Nat.le_refl _
 | j + 1, h => by
  rw [ess_succ (by omega), List.length_append];have := ess_len P on j (by omega)
  split
  ·simp only [List.length_cons, List.length_nil]; omega
  simp only [List.length_nil]; omega
set_option maxHeartbeats 16000000 in
theorem sEssP_spec (n : Int) (on off : List Tx) (hl : on.length ≤ 1000000) (hl2 : off.length ≤ 1000000) (hb : ∀ c, c ∈ on → c.length ≤ 2000000) (hb2 : ∀ c, c ∈ off → c.length ≤ 2000000) : ASpec Tryz.prog 10 [aI n, .d (vSs on), .d (vSs off)] [] (Pure1 (.tup [.d (vSs (essR n on off).1), aT (essR n on off).2])) := by
 have hP := sPrimes_spec n on off hl hl2 hb hb2;have hO := @prR_ok n on off;have hR : essR n on off = if (prR n on off).2 = true then (essL (prR n on off).1 on (prR n on off).1.length, true) else ([], false) := rfl
 obtain ⟨A, hA⟩ := eqx (prR n on off);rw [← hA] at hP hO hR;obtain ⟨R, hRR⟩ := eqx (essR n on off);rw [← hRR] at hR ⊢;clear hA hRR;refine ASpec.of Tryz.func10 rfl rfl fun C hC => ?_
 refine AC.seq (AC.region ?_);refine za ?_;refine za ?_;refine AL.nil (th_n (AC.seq (AC.region ?_)));refine zm ?_;refine zm ?_;refine zm ?_;refine kV en_sPrimes hP ?_;refine AL.p (by exact mv5 rfl) rfl ?_;refine AL.p (by exact g_extract (r := .d _) rfl rfl) rfl ?_;refine AL.p (by exact g_extract (r := .d _) rfl rfl) rfl ?_;refine za ?_;refine za ?_;refine AL.nil (th_n (AC.seq (AC.seq (AC.region ?_))));refine zm ?_;refine kC ?_;refine AL.nil (th_n ?_);refine AC.condB rfl (fun h0 => ?_) (fun h0 => ?_)
 ·refine AC.seq (AC.region ?_);refine za ?_;refine za ?_;refine AL.nil (th_n (AC.ret (th_r (bq_r ?_))));have e : R = ([], false) := hR.trans (if_neg (by have q := ‹(!A.2) = true›; simpa using q));exact ret0 rfl (by rw [e]; show AV.leads _ (.tup [.d (vSs []), aT false]) _; repeat (first | exact DLead.same | exact DLead.nil | exact rfl | refine ⟨_, rfl, ?_⟩ | refine ⟨_, _, rfl, ?_, ?_⟩))
 refine AC.skip (th_n (AC.seq ?_));have hA1 : A.2 = true := by have q := ‹(!A.2) = false›; simpa using q
 rw [if_pos hA1] at hR;have hK := hO hA1;obtain ⟨m, hm1, hm8, hmo, hmp⟩ := hK.m;have hol := hK.onl;have hpl := hK.pl;have hTs := fun k (hk : k < A.1.length) => ess_succ (P := A.1) (on := on) hk
 have hTl := fun k hk => ess_len A.1 on k hk
 have hT0 : essL A.1 on 0 = [] := rfl;obtain ⟨P, hPP⟩ := eqx A.1;rw [← hPP] at hR hmp hpl hTs hTl hT0 ⊢;obtain ⟨T, hT⟩ := eqx (essL P on);rw [← hT] at hTs hTl hT0 hR;have hTs : ∀ k (hk : k < P.length), T (k + 1) = T k ++ (if essB P on k P[k] = true then [P[k]] else []) := hTs;clear hT hPP hO hP hK;refine AC.region ?_;refine za ?_;refine AL.nil (th_n (AC.seq (AC.seq (AC.region ?_))));refine zm ?_;refine kI P.length (strsL_len _) ?_;refine zm ?_;refine AL.nil (th_n (AC.block ?_));refine AC.loop (ι := Nat) (fun k => ⟨63, 300, [(1, .d (vSs on)), (8, .d (vSs P)), (10, .own 100 (T k).length), (25, .d (vSs P)), (26, aI P.length), (27, aI k)], [(100, some (.arr 9 1 (strsL (T k))))]⟩) (fun k => k ≤ P.length) (fun k => P.length - k) (0) ?_ (Nat.zero_le _) ?_
 ·exact (Weak.nilOwn (i := 10) (e := 9) (sz := 1) rfl (by decide)).trans (zw [(100, _)] hC (by rw [hT0]; repeat (first | exact True.intro | refine And.intro ?_ ?_ | exact DLead.same | exact rfl | refine ⟨_, rfl, ?_⟩)) (by rw [hT0]; repeat (first | exact True.intro | refine And.intro ?_ ?_ | exact rfl | refine ⟨_, _, rfl, rfl, ?_⟩)))
 intro k hk;refine AC.seq (AC.region ?_);refine zc ?_;refine AL.nil (th_n (AC.seq ?_));refine AC.condD rfl (fun h1 => ?_) (fun h1 => ?_)
 ·refine AC.skip (th_n (AC.seq (AC.block (AC.seq ?_))));have hk1 : k < P.length := by omega
  have hget := strs_at hk1;have hpm := hmp _ (List.getElem_mem hk1);have hTk := hTs k hk1;have hTlk := hTl k hk;have hst := @essB_step P on k P[k];have hnone := @essB_none P on k P[k];have htl : (P.take k).length = k := by rw [List.length_take]; omega
  have hdl : (P.drop (k + 1)).length = P.length - (k + 1) := List.length_drop;have hom : ∀ x, x ∈ P.take k ++ P.drop (k + 1) → x.length = m := fun x hx => by rcases List.mem_append.1 hx with q | q; exact hmp x (List.mem_of_mem_take q); exact hmp x (List.mem_of_mem_drop q)
  have htk : strsL (P.take k) = (strsL P).take k := by unfold strsL; rw [List.map_take]
  have hdk : strsL (P.drop (k + 1)) = (strsL P).drop (k + 1) := by unfold strsL; rw [List.map_drop]
  obtain ⟨p, hp⟩ := eqx (P[k]);rw [← hp] at hget hpm hTk hst hnone;obtain ⟨X, hX⟩ := eqx (T k);rw [← hX] at hTk hTlk ⊢;clear hp hX;refine AC.region ?_;refine zm ?_;refine AL.p (by exact g_ia_view (i := k) rfl rfl rfl rfl rfl rfl hget) rfl ?_;refine zr ?_;refine za ?_;refine za ?_;refine AL.nil (th_n (AC.seq (AC.region ?_)));refine zm ?_;refine kI on.length (strsL_len _) ?_;refine zm ?_;refine AL.nil (th_n (AC.block ?_));refine AC.loop (ι := Nat) (fun i => ⟨63, 500, [(1, .d (vSs on)), (8, .d (vSs P)), (10, .own 100 X.length), (11, aI k), (12, aS (bstr p)), (25, .d (vSs P)), (26, aI P.length), (27, aI k), (32, .d (vSs on)), (33, aI on.length), (34, aI i)], [(100, some (.arr 9 1 (strsL X)))]⟩) (fun i => i ≤ on.length ∧ ∀ q (hq : q < on.length), q < i → (hasC p on[q] && !covB (P.take k ++ P.drop (k + 1)) on[q]) = false) (fun i => on.length - i) (0) ?_ (⟨Nat.zero_le _, fun q _ h => by omega⟩) ?_
  ·exact zw [(100, 100)] hC
  rintro i ⟨hi, hall⟩;refine AC.seq (AC.region ?_);refine zc ?_;refine AL.nil (th_n (AC.seq ?_));refine AC.condD rfl (fun h2 => ?_) (fun h2 => ?_)
  ·refine AC.skip (th_n (AC.seq (AC.block (AC.seq ?_))));have hi1 : i < on.length := by omega
   have hgi := strs_at hi1;have hcm := hmo _ (List.getElem_mem hi1);have hcin := List.getElem_mem hi1;have hH := l13Has_spec p on[i] (by omega) (by omega);obtain ⟨O, hOO⟩ := eqx (P.take k ++ P.drop (k + 1));have hOl : O.length ≤ 60 := by rw [hOO, List.length_append]; omega
   have hIn := l13In_spec O on[i] (by omega) (by omega) (fun x hx => by rw [hcm, hom x (by rw [← hOO]; exact hx)]);have hst1 := hst hcin;rw [← hOO] at hst1;have hbad : (hasC p on[i] && !covB O on[i]) = false → ∀ q (hq : q < on.length), q < i + 1 → (hasC p on[q] && !covB (P.take k ++ P.drop (k + 1)) on[q]) = false := fun h q hq hqi => by rcases Nat.lt_succ_iff_lt_or_eq.1 hqi with w | rfl; exact hall q hq w; (rw [← hOO]; exact h)
   obtain ⟨c, hc⟩ := eqx (on[i]);rw [← hc] at hgi hcm hH hIn hst1 hbad;obtain ⟨b1, e1⟩ := eqx (hasC p c);obtain ⟨b2, e2⟩ := eqx (covB O c);rw [← e1] at hH hst1 hbad;rw [← e2] at hIn hst1 hbad;have hOw := l1OwnS_spec (P.take k) (by omega);have hH1 := hH;have hIn1 := hIn;clear hc hH hIn hcin e1 e2;refine AC.region ?_;refine AL.p (by exact g_ia_view (i := i) rfl rfl rfl rfl rfl rfl hgi) rfl ?_;refine zr ?_;refine za ?_;refine AL.nil (th_n (AC.seq ?_));refine AC.drawn' mixed_ok [[], [], [0,1], [0,1,2], [], [], [5], [4,5,6], [0,1,2,3,4,5,6,7], [0,1,2,3,4,5,6,7,8]] (by decide) ?_;refine zd 0 [] 10 (by exact mv1 rfl) ?_;refine zd 1 [] 10 (by exact mv1 rfl) ?_;refine zd 2 [0,1] 10 (by exact g_slice_view (r := strsL (P.take k)) rfl rfl rfl rfl .none (.some rfl rfl) (Nat.zero_le _) (by rw [strsL_len]; exact hk) (by rw [List.drop_zero, htk])) ?_;refine zh 3 [0,1,2] 10 (by exact h_fun (cs := []) en_l1OwnS rfl rfl (by repeat (first | exact rfl | exact DLead.same | refine ⟨_, _, rfl, ?_, ?_⟩)) (by repeat (exact True.intro)) hOw rfl rfl rfl rfl) ?_;refine zd 4 [] 10 (by exact mv1 rfl) ?_;refine zd 5 [] 10 (by exact mv1 rfl) ?_;refine zd 6 [5] 10 (by exact g_arith rfl rfl rfl (by exact wrap_i64 (by omega))) ?_;refine zd 7 [4,5,6] 10 (by exact g_slice_view (l := k + 1) (r := strsL (P.drop (k + 1))) rfl rfl rfl rfl (.some rfl rfl) .none (by rw [strsL_len]; omega) (Nat.le_refl _) (by rw [List.take_length, hdk])) ?_;refine zh 8 [0,1,2,3,4,5,6,7] 10 (by exact h_appendSt (P.take k) (P.drop (k + 1)) (.own rfl rfl (strsL_len _).symm) (.view rfl) (by rw [List.length_append]; omega) (by simp)) ?_;refine zd 9 (List.range 9) 10 (by exact as2 rfl) ?_;refine zj 10 ?_;refine th_n (AC.seq ?_);refine AC.weak (Weak.freeze (i := 15) rfl rfl (Nat.le_of_eq (strsL_len _).symm) (List.take_of_length_le (Nat.le_of_eq (strsL_len _)))) ?_;refine AC.weak (t := ⟨63, 800, [(1, .d (vSs on)), (8, .d (vSs P)), (10, .own 100 X.length), (11, aI k), (12, aS (bstr p)), (14, aS (bstr c)), (15, .d (vSs O)), (25, .d (vSs P)), (26, aI P.length), (27, aI k), (32, .d (vSs on)), (33, aI on.length), (34, aI i)], [(100, some (.arr 9 1 (strsL X)))]⟩) (Weak.ren _ [(100, 100)] hC rfl (by rw [hOO]; repeat (first | exact True.intro | refine And.intro ?_ ?_ | exact DLead.same | exact rfl | refine ⟨_, rfl, ?_⟩)) (by repeat (first | exact True.intro | refine And.intro ?_ ?_ | exact rfl | refine ⟨_, _, rfl, rfl, ?_⟩)) rfl rfl rfl) ?_;refine AC.region ?_;refine zm ?_;refine zm ?_;refine kV en_l13Has hH1 ?_;refine zm ?_;refine AL.caseGB rfl rfl (fun h3 => ?_) (fun h3 => ?_)
   ·refine zy ?_;refine zm ?_;refine zy ?_;refine zm ?_;refine zy ?_;refine kV en_l13In hIn1 ?_;refine zy ?_;refine kC ?_;refine zQ ?_;refine AL.nil (th_n ?_);refine AC.condB rfl (fun h4 => ?_) (fun h4 => ?_)
    ·refine AC.seq (AC.region ?_);refine kB ?_;refine zm ?_;refine AL.q (by exact h_litF rfl rfl rfl rfl rfl rfl rfl rfl) rfl ?_;refine AL.q (by exact h_appendSt X [p] (.own rfl rfl (strsL_len _).symm) (.view rfl) (by rw [List.length_append]; simp only [List.length_cons, List.length_nil]; omega) (by simp)) rfl ?_;refine AL.p (by exact as2 rfl) rfl ?_;refine AL.nil (th_n (AC.exit ?_));refine ib_no rfl ?_;refine th_e (th_e (ib_y (ib_n (th_n (AC.region ?_)))));refine zA ?_;refine zm ?_;refine AL.nil (th_n ?_)
     (have q1 := ‹b1 = true›; have q2 := ‹(!b2) = true›; rw [if_pos (hst1 q1 (by simpa using q2))] at hTk; exact ⟨k + 1, by omega, by omega, zw [(100, _)] hC (by rw [hTk]; repeat (first | exact True.intro | refine And.intro ?_ ?_ | exact DLead.same | exact rfl | refine ⟨_, rfl, ?_⟩)) (by rw [hTk]; repeat (first | exact True.intro | refine And.intro ?_ ?_ | exact rfl | refine ⟨_, _, rfl, rfl, ?_⟩))⟩)
    refine AC.skip (ib_n (th_n (AC.region ?_)));refine zA ?_;refine zm ?_;refine AL.nil (th_n ?_);have hf : (b1 && !b2) = false := by rw [‹(!b2) = false›, Bool.and_false]
    exact ⟨i + 1, ⟨by omega, hbad hf⟩, by omega, zw [(100, 100)] hC⟩
   refine zn ?_;refine zn ?_;refine zn ?_;refine zn ?_;refine zP ?_;refine AL.nil (th_n ?_);refine AC.condF rfl ?_;refine AC.skip (ib_n (th_n (AC.region ?_)));refine zA ?_;refine zm ?_;refine AL.nil (th_n ?_);have hf : (b1 && !b2) = false := by rw [‹b1 = false›, Bool.false_and]
   exact ⟨i + 1, ⟨by omega, hbad hf⟩, by omega, zw [(100, 100)] hC⟩
  refine AC.exit (th_e (th_e (ib_y (ib_n (th_n (AC.region ?_))))));refine zA ?_;refine zm ?_;refine AL.nil (th_n ?_)
  (have hn := hnone fun q hq => hall q hq (by omega); rw [hn, if_neg (by decide), List.append_nil] at hTk; exact ⟨k + 1, by omega, by omega, zw [(100, 100)] hC (by rw [hTk]; repeat (first | exact True.intro | refine And.intro ?_ ?_ | exact DLead.same | exact rfl | refine ⟨_, rfl, ?_⟩)) (by rw [hTk]; repeat (first | exact True.intro | refine And.intro ?_ ?_ | exact rfl | refine ⟨_, _, rfl, rfl, ?_⟩))⟩)
 refine AC.exit (th_e (th_e (ib_y (th_n (AC.seq (AC.region ?_))))));refine kB ?_;refine AL.p (by exact as2 rfl) rfl ?_;refine za ?_;refine AL.nil (th_n ?_);have hkk : k = P.length := by omega
 rw [hkk] at *;refine AC.weak (Weak.freeze (i := 6) rfl rfl (Nat.le_of_eq (strsL_len _).symm) (List.take_of_length_le (Nat.le_of_eq (strsL_len _)))) ?_;refine AC.ret (bq_r ?_);exact ret0 rfl (by rw [hR]; show AV.leads _ (.tup [.d (vSs (T P.length)), aT true]) _; repeat (first | exact DLead.same | exact rfl | refine ⟨_, rfl, ?_⟩ | refine ⟨_, _, rfl, ?_, ?_⟩))
theorem en_sEssP : Enters Tryz.prog 10 := enters_of Tryz.func10 rfl rfl
mutual
def AV.under (k : Nat) : AV → Bool
 | .own id _ => Nat.blt id k
 | .ptr id _ => Nat.blt id k
 | .part id _ _ => Nat.blt id k
 | .mp id => Nat.blt id k
 | .agg cs => AV.underL k cs
 | .tup cs => AV.underL k cs
 | .clo _ cs => AV.underL k cs
 | _ => true
def AV.underL (k : Nat) : List AV → Bool
 | [] => true
 | c :: cs => c.under k && AV.underL k cs
end
theorem AV.underL_get {k : Nat} : ∀ {cs : List AV}, AV.underL k cs = true → ∀ (i : Nat) c, cs[i]? = some c → c.under k = true
 | [], _, i, c, h => by simp at h
 | c :: cs, hf, i, c', h => by
  simp only [AV.underL, Bool.and_eq_true] at hf;cases i with
  | zero => simp at h; subst h; exact hf.1
  | succ i => exact AV.underL_get hf.2 i c' (by simpa using h)
def Chunk.under (k : Nat) : Chunk → Bool
 | .cells _ cs => AV.underL k cs
 | .lock id _ => Nat.blt id k
 | _ => true
theorem blt_lt {a b : Nat} (h : Nat.blt a b = true) : a < b := by simpa using h
theorem ARep.under {k : Nat} {m m2 : Nat → Option (Option Nat × Nat)} {F F2 : Nat → Prop} {w : World} (hm : ∀ id p, id < k → m id = some p → m2 id = some p) (hF : ∀ b, F b → F2 b) {x : AV} {v : Value} (h : ARep m F w x v) : x.under k = true → ARep m2 F2 w x v := by
 induction h with
 | dead => exact fun _ => .dead
 | und => exact fun _ => .und
 | d h => exact fun _ => .d (h.mono hF)
 | own h h0 => exact fun hu => .own (hm _ _ (blt_lt hu) h) h0
 | ptr h => exact fun hu => .ptr (hm _ _ (blt_lt hu) h)
 | part h h1 => exact fun hu => .part (hm _ _ (blt_lt hu) h) h1
 | mp h => exact fun hu => .mp (hm _ _ (blt_lt hu) h)
 | tight h => exact fun _ => .tight (h.mono hF)
 | agg h1 _ h3 ih => exact fun hu => .agg h1 (fun i c hc => ih i c hc (AV.underL_get (by simpa [AV.under] using hu) i c hc)) h3
 | tup h1 _ ih => exact fun hu => .tup h1 (fun i c hc => ih i c hc (AV.underL_get (by simpa [AV.under] using hu) i c hc))
 | clo h1 _ ih => exact fun hu => .clo h1 (fun i c hc => ih i c hc (AV.underL_get (by simpa [AV.under] using hu) i c hc))
theorem CRep.under {k : Nat} {m m2 : Nat → Option (Option Nat × Nat)} {F F2 : Nat → Prop} {w : World} (hm : ∀ id p, id < k → m id = some p → m2 id = some p) (hF : ∀ b, F b → F2 b) {p : Option Nat × Nat} {c : Chunk} (h : CRep m F w p c) (hu : c.under k = true) : CRep m2 F2 w p c := by
 cases h with
 | cells h1 h2 h3 h4 => exact .cells h1 h2 (fun i c hc => (h3 i c hc).under hm hF (AV.underL_get hu i c hc)) h4
 | arr h1 h2 h3 h4 h5 h6 h7 h8 => exact .arr h1 h2 h3 h4 h5 h6 h7 (fun i cs j d hi hj => (h8 i cs j d hi hj).mono hF)
 | nil h => exact .nil h
 | iter h => exact .iter h
 | map h => exact .map h
 | obj h => exact .obj h
 | pred h1 h2 h3 => exact .pred h1 h2 h3
 | lock h => exact .lock (hm _ _ (blt_lt hu) h)
theorem getL_snoc {α : Type} {k id : Nat} {x c : α} : ∀ {l : List (Nat × α)}, getL k l = none → (getL id (l ++ [(k, x)]) = some c ↔ (getL id l = some c ∨ (id = k ∧ x = c)))
 | [], _ => by
  rw [List.nil_append, getL_cons]
  by_cases e : id = k
  ·rw [if_pos e]; simp [getL, e]
  rw [if_neg e]; simp [getL, e]
 | (j, y) :: l, h => by
  rw [getL_cons] at h
  split at h
  ·cases h
  rename_i hkj;rw [List.cons_append, getL_cons, getL_cons]
  by_cases e : id = j
  ·rw [if_pos e, if_pos e];constructor
   ·exact .inl
   rintro (q | ⟨q, _⟩)
   ·exact q
   exact absurd (q.symm.trans e) hkj
  rw [if_neg e, if_neg e];exact getL_snoc h
theorem ASpec.give {P : Program} {f : FuncId} {args : List AV} {chs : List (Nat × Chunk)} {R : AV → List (Nat × Chunk) → Prop} (h : ASpec P f args chs R) (i : Nat) {k e e2 sz : Nat} {els : List (List DV)} (hk : chs.length = k) (hi : args[i]? = some (.d (.view e sz els)))
  (hu : ∀ j x, j ≠ i → args[j]? = some x → x.under k = true) (hc : ∀ id c, getL id chs = some c → c.under k = true) (hg : getL k chs = none)
  (hR : ∀ r chs', R r chs' → r.under k = true ∧ ∀ id c, getL id chs' = some c → id < k ∧ c.under k = true) :
  ASpec P f (args.set i (.own k els.length)) (chs ++ [(k, .arr e2 sz els)]) R := by
 intro w m Fin vs hfin hn ha hch hinj hm
 have hlt : ∀ id c, getL id chs = some c → id < k := fun id c hc => by
  have := (hch id c ((getL_snoc hg).2 (.inl hc))).1;rw [List.length_append, hk] at this;simp only [List.length_cons, List.length_nil] at this;rcases Nat.lt_or_ge id k with q | q
  ·exact q
  have e : id = k := by omega
  rw [e] at hc;rw [hg] at hc; cases hc
 obtain ⟨-, p, hp, hrep⟩ := hch k (.arr e2 sz els) ((getL_snoc hg).2 (.inr ⟨rfl, rfl⟩));have hil : i < args.length := (List.getElem?_eq_some_iff.1 hi).1;have hoc : ∀ b, occ p (Chunk.arr e2 sz els) b → b < w.heap.size := fun b hb => hrep.lt hb
 let m2 : Nat → Option (Option Nat × Nat) := fun id => if id < k then m id else none
 let F2 : Nat → Prop := fun b => Fin b ∨ occ p (Chunk.arr e2 sz els) b
 have hm2 : ∀ id q, id < k → m id = some q → m2 id = some q := fun id q hid hq => by show (if id < k then m id else none) = _; rw [if_pos hid]; exact hq
 have hm3 : ∀ id q, m2 id = some q → id < k ∧ m id = some q := fun id q hq => by
  have hq : (if id < k then m id else none) = some q := hq
  split at hq
  ·rename_i hid; exact ⟨hid, hq⟩
  cases hq
 have hF2 : ∀ b, Fin b → F2 b := fun b hb => .inl hb
 have hdr : DRep F2 w (.view e sz els) (vs.getD i undef) := by
  have hai := ha i (.own k els.length) (by rw [List.getElem?_set_self hil]);generalize hv : vs.getD i undef = v at hai;cases hai with
  | own hq hq0 =>
   rename_i cap b;rw [hp] at hq;obtain rfl : p = (b, cap) := by simpa using hq
   cases b with
   | none =>
    have h0 := (hq0 rfl).1;have hc0 := (hq0 rfl).2;obtain rfl : els = [] := List.eq_nil_of_length_eq_zero h0;rw [hc0];exact .nil
   | some blk =>
    cases hrep with
    | arr hb hf hsz hl hmx h0 hrow hel =>
     exact .view (off := 0) (.inr (.inl rfl)) hb hl hmx (by rw [Nat.zero_add]; exact Nat.le_of_eq hsz.symm) hrow (fun a cs j d h1 h2 => by rw [Nat.zero_add]; exact (hel a cs j d h1 h2).mono hF2)
 refine (h w m2 F2 vs ?_ ?_ ?_ ?_ ?_ ?_).mono ?_
 ·rintro b (hb | hb)
  ·refine ⟨(hfin b hb).1, fun id c q hc hq ho => ?_⟩;exact (hfin b hb).2 id c q ((getL_snoc hg).2 (.inl hc)) (hm3 id q hq).2 ho
  refine ⟨hoc b hb, fun id c q hc hq ho => ?_⟩;have := hinj id k c (.arr e2 sz els) q p b ((getL_snoc hg).2 (.inl hc)) ((getL_snoc hg).2 (.inr ⟨rfl, rfl⟩)) (hm3 id q hq).2 hp ho hb;have := hlt id c hc;omega
 ·rw [hn, List.length_set]
 ·intro j x hx
  by_cases e : j = i
  ·subst e;rw [hi] at hx;obtain rfl : _ = x := Option.some.inj hx;exact .d hdr
  have := ha j x (by rw [List.getElem?_set_ne (Ne.symm e)]; exact hx);exact this.under hm2 hF2 (hu j x e hx)
 ·intro id c hcc;obtain ⟨-, q, hq, hr⟩ := hch id c ((getL_snoc hg).2 (.inl hcc));have hid := hlt id c hcc;exact ⟨by omega, q, hm2 id q hid hq, hr.under hm2 hF2 (hc id c hcc)⟩
 ·intro id id' c c' q q' b h1 h2 h3 h4;exact hinj id id' c c' q q' b ((getL_snoc hg).2 (.inl h1)) ((getL_snoc hg).2 (.inl h2)) (hm3 id q h3).2 (hm3 id' q' h4).2
 ·intro id hid;show (if id < k then m id else none) = none;rw [if_neg (by omega)]
 rintro e0 w' ⟨v, r, chs', m', F', he, hRr, g1, g2, g3, ⟨f1, f2, f3, f4, f5⟩, g4, g5, g6⟩;obtain ⟨hru, hcu⟩ := hR r chs' hRr
 let m4 : Nat → Option (Option Nat × Nat) := fun id => if id < k then m' id else if id = k then m k else none
 have h4 : ∀ id q, id < k → m' id = some q → m4 id = some q := fun id q hid hq => by show (if id < k then m' id else _) = _; rw [if_pos hid]; exact hq
 have h5 : ∀ id q, id < k → m4 id = some q → m' id = some q := fun id q hid hq => by
  have hq : (if id < k then m' id else if id = k then m k else none) = some q := hq
  rwa [if_pos hid] at hq
 refine ⟨v, r, chs', m4, F', he, hRr, ?_, ?_, ?_, ⟨f1, f2, f3, f4, ?_⟩, g4.under h4 (fun _ hb => hb) hru, ?_, ?_⟩
 ·intro id q hid hq;rw [List.length_append, hk] at hid;simp only [List.length_cons, List.length_nil] at hid;rcases Nat.lt_or_ge id k with h | h
  ·exact h4 id q h (g1 id q (by omega) (hm2 id q h hq))
  have e : id = k := by omega
  show (if id < k then m' id else if id = k then m k else none) = _;rw [if_neg (by omega), if_pos e, ← e]; exact hq
 ·intro id hid;rw [List.length_append, hk] at hid;simp only [List.length_cons, List.length_nil] at hid;show (if id < k then m' id else if id = k then m k else none) = none;rw [if_neg (by omega), if_neg (by omega)]
 ·intro b;rw [g3 b];constructor
  ·rintro ⟨h1, h2, h3⟩;refine ⟨?_, h2, fun id c q hc hq => h3 id c q hc (h5 id q (hcu id c hc).1 hq)⟩;rcases h1 with (h1 | h1) | ⟨id, c, q, h1, h6, h7⟩ | h1
   ·exact .inl h1
   ·exact .inr (.inl ⟨k, _, p, (getL_snoc hg).2 (.inr ⟨rfl, rfl⟩), hp, h1⟩)
   ·exact .inr (.inl ⟨id, c, q, (getL_snoc hg).2 (.inl h1), (hm3 id q h6).2, h7⟩)
   exact .inr (.inr h1)
  rintro ⟨h1, h2, h3⟩;refine ⟨?_, h2, fun id c q hc hq => h3 id c q hc (h4 id q (hcu id c hc).1 hq)⟩;rcases h1 with h1 | ⟨id, c, q, h1, h6, h7⟩ | h1
  ·exact .inl (.inl h1)
  ·rcases (getL_snoc hg).1 h1 with h8 | ⟨rfl, rfl⟩
   ·exact .inr (.inl ⟨id, c, q, h8, hm2 id q (hlt id c h8) h6, h7⟩)
   rw [hp] at h6;obtain rfl : p = q := Option.some.inj h6;exact .inl (.inr h7)
  exact .inr (.inr h1)
 ·intro b hb hno;exact f5 b hb fun id c q hc hq ho => hno id c q ((getL_snoc hg).2 (.inl hc)) (hm3 id q hq).2 ho
 ·intro id c hcc;obtain ⟨q, h1, h2, h3⟩ := g5 id c hcc;obtain ⟨hid, hcu1⟩ := hcu id c hcc;refine ⟨q, h4 id q hid h1, h2.under h4 (fun _ hb => hb) hcu1, fun b hb => ?_⟩;rcases h3 b hb with h | ⟨id0, c0, p0, h6, h7, h8⟩
  ·exact .inl h
  exact .inr ⟨id0, c0, p0, (getL_snoc hg).2 (.inl h6), (hm3 id0 p0 h7).2, h8⟩
 intro id id' c c' q q' b h1 h2 h3 h6;exact g6 id id' c c' q q' b h1 h2 (h5 id q (hcu id c h1).1 h3) (h5 id' q' (hcu id' c' h2).1 h6)
section
variable {P : Program} [PT P] {s : ASt} {dst : Option Nat} {ty : Nat} {pos : String} {af : Array Edge} {gd : Option (Nat × Bool)} {x y : Operand} {xt yt : Nat}
theorem g_sgt {a b : Tx} {r : Bool} (hx : s.ev x = aS (bstr a)) (hy : s.ev y = aS (bstr b)) (hr : decide (b < a) = r) :
  GOp P [] s ⟨dst, .binOp .gtr xt x y yt, ty, pos, af, gd⟩ (aT r) := by
 subst hr;refine g_vals2 x y (by simp [Op.operands]) (by simp [Op.operands]) hx hy fun A w e1 e2 _ _ => ⟨?_, trivial⟩
 have hk : (!(Op.bytesLess (bstr a).toList (bstr b).toList || (bstr a).toList == (bstr b).toList)) = decide (b < a) := by
  rw [bless, ByteArray.toList_eq, ByteArray.toList_eq, bstr_data, bstr_data, Bool.eq_iff_iff];simp only [Bool.not_eq_true', Bool.or_eq_false_iff, decide_eq_false_iff_not, beq_eq_false_iff_ne, ne_eq, decide_eq_true_eq];constructor
  ·rintro ⟨h1, h2⟩; exact tx_lt_of (tx_not_lt.1 h1) (Ne.symm h2)
  intro h; exact ⟨fun q => tx_irr _ (tx_lt_trans h q), fun e => tx_irr _ (e ▸ h)⟩
 have hrun : (binOp .gtr xt (.string (bstr a)) (.string (bstr b))).run P w = .ok (.bool (decide (b < a))) w := by
  rw [← hk]; simp [binOp, Op.stringOp]
 simp [execOp, e1, e2, eqGuard, hrun]
end
def cmpS (a b : Tx) : Int := if a < b then -1 else if b < a then 1 else 0
theorem isNaNS_spec (a : Tx) : ASpec Tryz.prog 115 [aS (bstr a)] [] (Pure1 (aT false)) := by
 refine ASpec.of Tryz.func115 rfl rfl fun C hC => ?_
 refine AC.seq (AC.region ?_);refine za ?_;refine AL.nil (th_n (AC.seq (AC.region ?_)));refine zm ?_;refine zm ?_;refine AL.p (by exact g_scmp rfl rfl rfl) rfl ?_;refine za ?_;refine AL.nil (th_n (AC.ret (bq_r ?_)));exact ret1 rfl (by simp)
theorem en_isNaNS : Enters Tryz.prog 115 := enters_of Tryz.func115 rfl rfl
theorem cmpCompareS_spec (a b : Tx) : ASpec Tryz.prog 120 [aS (bstr a), aS (bstr b)] [] (Pure1 (aI (cmpS a b))) := by
 have h1 := isNaNS_spec a;have h2 := isNaNS_spec b;have hl := bless a b;have hR : cmpS a b = if a < b then -1 else if b < a then 1 else 0 := rfl
 refine ASpec.of Tryz.func120 rfl rfl fun C hC => ?_
 refine AC.seq (AC.region ?_);refine za ?_;refine AL.nil (th_n (AC.seq (AC.region ?_)));refine zm ?_;refine kV en_isNaNS h1 ?_;refine za ?_;refine AL.nil (th_n (AC.seq (AC.region ?_)));refine zm ?_;refine kV en_isNaNS h2 ?_;refine za ?_;refine AL.nil (th_n (AC.seq (AC.seq (AC.region ?_))));refine zm ?_;refine AL.nil (th_n ?_);refine AC.condF rfl ?_;refine AC.skip (th_n (AC.seq (AC.seq (AC.region ?_))));refine zm ?_;refine AL.nil (th_n ?_);refine AC.condF rfl ?_;refine AC.skip (th_n (AC.seq (AC.seq (AC.region ?_))));refine zm ?_;refine zm ?_;refine AL.p (by exact g_scmp (r := decide (a < b)) rfl rfl (congrArg some hl)) rfl ?_;refine AL.nil (th_n ?_);refine AC.condD rfl (fun h0 => ?_) (fun h0 => ?_)
 ·refine AC.seq (AC.region ?_);refine za ?_;refine AL.nil (th_n (AC.ret (th_r (bq_r ?_))));exact ret1 rfl (by rw [hR, if_pos (by assumption)])
 refine AC.skip (th_n (AC.seq (AC.seq (AC.region ?_))));refine zm ?_;refine zm ?_;refine AL.p (by exact g_sgt (a := a) (b := b) rfl rfl rfl) rfl ?_;refine AL.nil (th_n ?_);refine AC.condD rfl (fun h1 => ?_) (fun h1 => ?_)
 ·refine AC.seq (AC.region ?_);refine za ?_;refine AL.nil (th_n (AC.ret (th_r (bq_r ?_))));exact ret1 rfl (by rw [hR, if_neg (by assumption), if_pos (by assumption)])
 refine AC.skip (th_n (AC.seq (AC.region ?_)));refine za ?_;refine AL.nil (th_n (AC.ret (bq_r ?_)));exact ret1 rfl (by rw [hR, if_neg (by assumption), if_neg (by assumption)])
theorem en_cmpCompareS : Enters Tryz.prog 120 := enters_of Tryz.func120 rfl rfl
def cmpT : List Tx → List Tx → Int
 | x :: xs, y :: ys => if x = y then cmpT xs ys else cmpS x y
 | _, _ => 0
theorem cmpT_ltL : ∀ {a b : List Tx}, a.length = b.length → decide (cmpT a b < 0) = ltL a b
 | [], [], _ => by simp [cmpT, ltL]
 | [], _ :: _, h => by cases h
 | _ :: _, [], h => by cases h
 | x :: xs, y :: ys, h => by
  rw [cmpT, ltL]
  by_cases e : x = y
  ·rw [if_pos e, if_pos e]; exact cmpT_ltL (by simpa using h)
  rw [if_neg e, if_neg e];refine decide_eq_decide.2 ?_;unfold cmpS;constructor
  ·intro hc
   split at hc
   ·assumption
   split at hc
   ·exact absurd hc (by decide)
   exact absurd hc (by decide)
  intro hl; rw [if_pos hl]; decide
theorem cmpT_drop {a b : List Tx} {i : Nat} (ha : i < a.length) (hb : i < b.length) : cmpT (a.drop i) (b.drop i) = if a.getD i [] = b.getD i [] then cmpT (a.drop (i + 1)) (b.drop (i + 1)) else cmpS (a.getD i []) (b.getD i []) := by
 rw [← List.getElem_cons_drop ha, ← List.getElem_cons_drop hb, cmpT, tx_at ha, tx_at hb]
theorem cmpS_zero {a b : Tx} : cmpS a b = 0 ↔ a = b := by
 unfold cmpS;constructor
 ·intro h
  split at h
  ·exact absurd h (by decide)
  rename_i h1
  split at h
  ·exact absurd h (by decide)
  rename_i h2; exact tx_le_anti (tx_not_lt.1 h2) (tx_not_lt.1 h1)
 rintro rfl; rw [if_neg (tx_irr _), if_neg (tx_irr _)]
set_option maxHeartbeats 4000000 in
theorem compareStr_spec (a b : List Tx) (ha : a.length ≤ 1000000) (hab : a.length = b.length) : ASpec Tryz.prog 117 [.d (vSs a), .d (vSs b)] [] (Pure1 (aI (cmpT a b))) := by
 have hD := fun i h1 h2 => cmpT_drop (a := a) (b := b) (i := i) h1 h2
 refine ASpec.of Tryz.func117 rfl rfl fun C hC => ?_
 refine AC.seq (AC.region ?_);refine za ?_;refine AL.nil (th_n (AC.seq (AC.seq (AC.region ?_))));refine zm ?_;refine kI a.length (strsL_len _) ?_;refine zm ?_;refine AL.nil (th_n (AC.block ?_));refine AC.loop (ι := Nat) (fun i => ⟨36, 100, [(0, .d (vSs a)), (1, .d (vSs b)), (9, .d (vSs a)), (10, aI a.length), (11, aI i)], []⟩) (fun i => i ≤ a.length ∧ cmpT a b = cmpT (a.drop i) (b.drop i)) (fun i => a.length - i) (0) ?_ (⟨Nat.zero_le _, rfl⟩) ?_
 ·exact Weak.ren _ [] hC rfl (by repeat (first | exact True.intro | refine And.intro ?_ ?_ | exact DLead.same)) (by repeat (exact True.intro)) rfl rfl rfl
 rintro i ⟨hi, hc⟩;refine AC.seq (AC.region ?_);refine zc ?_;refine AL.nil (th_n (AC.seq ?_));refine AC.condD rfl (fun h0 => ?_) (fun h0 => ?_)
 ·refine AC.skip (th_n (AC.seq (AC.block (AC.seq ?_))));have hi1 : i < a.length := by omega
  have hg1 := strs_get hi1;have hg2 := strs_get (l := b) (k := i) (by omega);have hDi := hD i hi1 (by omega);have hz := @cmpS_zero (a.getD i []) (b.getD i []);obtain ⟨u, hu⟩ := eqx (a.getD i []);obtain ⟨v, hv⟩ := eqx (b.getD i []);rw [← hu] at hg1 hDi hz;rw [← hv] at hg2 hDi hz;have hCs := cmpCompareS_spec u v;obtain ⟨q, hq⟩ := eqx (cmpS u v);rw [← hq] at hCs hDi hz;clear hu hv hq;refine AC.region ?_;refine zm ?_;refine AL.p (by exact g_ia_view (i := i) rfl rfl rfl rfl rfl rfl hg1) rfl ?_;refine zr ?_;refine za ?_;refine za ?_;refine AL.nil (th_n (AC.seq (AC.seq (AC.region ?_))));refine zm ?_;refine zm ?_;refine kI b.length (strsL_len _) ?_;refine zc ?_;refine AL.nil (th_n ?_);refine AC.condD rfl (fun h1 => ?_) (fun h1 => ?_)
  ·refine AC.seq (AC.region ?_);refine za ?_;refine AL.nil (th_n (AC.ret (th_r (ib_r (th_r (th_r (ib_r (th_r (bq_r ?_)))))))));exfalso;omega
  refine AC.skip (th_n (AC.seq (AC.region ?_)));refine zm ?_;refine zm ?_;refine AL.p (by exact g_ia_view (i := i) rfl rfl rfl rfl rfl rfl hg2) rfl ?_;refine zr ?_;refine za ?_;refine AL.nil (th_n (AC.seq (AC.region ?_)));refine zm ?_;refine zm ?_;refine kV en_cmpCompareS hCs ?_;refine za ?_;refine AL.nil (th_n (AC.seq (AC.region ?_)));refine zm ?_;refine zc ?_;refine AL.nil (th_n ?_);refine AC.condND rfl (fun h2 => ?_) (fun h2 => ?_)
  ·refine AC.seq (AC.region ?_);refine zm ?_;refine za ?_;refine AL.nil (th_n (AC.ret (ib_r (th_r (th_r (ib_r (th_r (bq_r ?_))))))));have hne : ¬ u = v := fun e => absurd (hz.2 e) (by assumption)
   exact ret1 rfl (by rw [hc, hDi, if_neg hne])
  refine AC.skip (ib_n (th_n (AC.region ?_)));refine zA ?_;refine zm ?_;refine AL.nil (th_n ?_);have he : u = v := hz.1 (by assumption);exact ⟨i + 1, ⟨by omega, by rw [hc, hDi, if_pos he]⟩, by omega, Weak.ren _ [] hC rfl (by repeat (first | exact True.intro | refine And.intro ?_ ?_ | exact DLead.same)) (by repeat (exact True.intro)) rfl rfl rfl⟩
 refine AC.exit (th_e (th_e (ib_y (th_n (AC.seq (AC.seq (AC.region ?_)))))));refine zm ?_;refine kI a.length (strsL_len _) ?_;refine zm ?_;refine kI b.length (strsL_len _) ?_;refine zc ?_;refine AL.nil (th_n ?_);refine AC.condD rfl (fun h1 => ?_) (fun h1 => ?_)
 ·refine AC.seq (AC.region ?_);refine za ?_;refine AL.nil (th_n (AC.ret (th_r (bq_r ?_))));exfalso;omega
 refine AC.skip (th_n (AC.seq (AC.region ?_)));refine za ?_;refine AL.nil (th_n (AC.ret (bq_r ?_)));have hii : i = a.length := by omega
 exact ret1 rfl (by rw [hc, hii, List.drop_length, hab, List.drop_length]; rfl)
theorem en_compareStr : Enters Tryz.prog 117 := enters_of Tryz.func117 rfl rfl
def chooC (P : List Tx) (B : Option (List Tx)) : Chunk := .cells 71 [.d (vSs P), .d (vSs (B.getD [])), aT B.isSome]
set_option maxHeartbeats 4000000 in
theorem isBetterI_spec (P l : List Tx) (B : Option (List Tx)) (hl : l.length ≤ 1000000) (hb : ∀ c, c ∈ l → c.length ≤ 1000) (hB : ∀ b, B = some b → b.length = l.length ∧ ∀ c, c ∈ b → c.length ≤ 1000) : ASpec Tryz.prog 106 [.ptr 0 0, .d (vSs l)] [(0, chooC P B)] (Fun1 (aT (betT l B)) [(0, chooC P B)]) := by
 have h1 := literalsI_spec l hl hb
 have hBl : (B.getD []).length ≤ 1000000 ∧ ∀ c, c ∈ B.getD [] → c.length ≤ 1000 := by
  cases B with
  | none => exact ⟨Nat.zero_le _, fun c hc => by cases hc⟩
  | some b => exact ⟨by have := (hB b rfl).1; show b.length ≤ _; omega, (hB b rfl).2⟩
 have h2 := literalsI_spec (B.getD []) hBl.1 hBl.2
 have h3 : B.isSome = true → ASpec Tryz.prog 117 [.d (vSs l), .d (vSs (B.getD []))] [] (Pure1 (aI (cmpT l (B.getD [])))) := fun h => by
  cases B with
  | none => cases h
  | some b => exact compareStr_spec l b hl (hB b rfl).1.symm
 have h4 : B.isSome = true → betT l B = (decide (litS l < litS (B.getD [])) || (decide (litS l = litS (B.getD [])) && decide (cmpT l (B.getD []) < 0))) := fun h => by
  cases B with
  | none => cases h
  | some b => show _ = (_ || (_ && decide (cmpT l b < 0))); rw [cmpT_ltL (hB b rfl).1.symm]; rfl
 have h5 : B.isSome = false → betT l B = true := fun h => by
  cases B with
  | none => rfl
  | some b => cases h
 unfold chooC;obtain ⟨W, hW⟩ := eqx (B.getD []);rw [← hW] at h2 h3 h4 ⊢;obtain ⟨f, hf⟩ := eqx B.isSome;rw [← hf] at h3 h4 h5 ⊢;obtain ⟨R, hR⟩ := eqx (betT l B);rw [← hR] at h4 h5 ⊢;obtain ⟨N, hN⟩ := eqx (litS l);obtain ⟨M, hM⟩ := eqx (litS W);obtain ⟨v, hv⟩ := eqx (cmpT l W);rw [← hN] at h1 h4;rw [← hM] at h2 h4;rw [← hv] at h3 h4;clear hf hR hN hM hv hW hB hBl;refine ASpec.of Tryz.func106 rfl rfl fun C hC => ?_
 refine AC.seq (AC.region ?_);refine za ?_;refine AL.nil (th_n (AC.seq ?_));refine AC.drawn' mixed_ok [[], [0], [], [2], [2,3], [2,3,4], [0,1,2,3,4,5], [0,1,2,3,4,5,6], [0,1,2,3,4,5,6,7]] (by decide) ?_;refine zd 0 [] 9 (by exact mv1 rfl) ?_;refine zh 1 [0] 9 (by exact h_pure en_literalsI rfl rfl (by repeat (first | exact rfl | exact DLead.same | refine ⟨_, _, rfl, ?_, ?_⟩)) h1 rfl) ?_;refine zd 2 [] 9 (by exact mv3 rfl) ?_;refine zd 3 [2] 9 (by exact g_nilP rfl) ?_;refine zd 4 [2,3] 9 (by exact g_fa_ptr rfl rfl rfl rfl rfl) ?_;refine zd 5 [2,3,4] 9 (by exact g_load_ptr rfl rfl rfl rfl rfl) ?_;refine zh 6 [0,1,2,3,4,5] 9 (by exact h_pure en_literalsI rfl rfl (by repeat (first | exact rfl | exact DLead.same | refine ⟨_, _, rfl, ?_, ?_⟩)) h2 rfl) ?_;refine zd 7 [0,1,2,3,4,5,6] 9 (by exact as1 rfl) ?_;refine zd 8 [0,1,2,3,4,5,6,7] 9 (by exact as1 rfl) ?_;refine zj 9 ?_;refine th_n (AC.seq (AC.region ?_));refine AL.p (by exact mv3 rfl) rfl ?_;refine AL.p (by exact g_nilP rfl) rfl ?_;refine zF ?_;refine zl ?_;refine kC ?_;refine zm ?_;refine AL.caseGB rfl rfl (fun h0 => ?_) (fun h0 => ?_)
 ·refine zn ?_;refine zn ?_;refine zn ?_;refine zQ ?_;refine zm ?_;refine zn ?_;refine zn ?_;refine zn ?_;refine zn ?_;refine AL.notU rfl rfl rfl ?_;refine AL.notU rfl rfl rfl ?_;refine AL.notU rfl rfl rfl ?_;refine AL.notU rfl rfl rfl ?_;refine AL.notU rfl rfl rfl ?_;refine AL.notU rfl rfl rfl ?_;refine AL.notU rfl rfl rfl ?_;refine zn ?_;refine zQ ?_;refine za ?_;refine AL.nil (th_n (AC.ret (bq_r ?_)))
  (have q := ‹(!f) = true›; exact retF rfl (by rw [h5 (by simpa using q)]; repeat (exact DLead.same)) (by repeat (first | exact True.intro | refine And.intro ?_ ?_ | exact DLead.same | exact rfl | refine ⟨_, _, rfl, rfl, ?_⟩ | refine ⟨_, rfl, ?_⟩ | refine ⟨_, _, rfl, ?_, ?_⟩)) rfl)
 refine zy ?_;refine zm ?_;refine zy ?_;refine zm ?_;refine zy ?_;refine zc ?_;refine zP ?_;refine zm ?_;refine AL.caseG rfl rfl (fun h1 => ?_) (fun h1 => ?_)
 ·refine zn ?_;refine zn ?_;refine zn ?_;refine zn ?_;refine AL.notU rfl rfl rfl ?_;refine AL.notU rfl rfl rfl ?_;refine AL.notU rfl rfl rfl ?_;refine AL.notU rfl rfl rfl ?_;refine AL.notU rfl rfl rfl ?_;refine AL.notU rfl rfl rfl ?_;refine AL.notU rfl rfl rfl ?_;refine zn ?_;refine zQ ?_;refine za ?_;refine AL.nil (th_n (AC.ret (bq_r ?_)))
  (have q := ‹(!f) = false›; have h6 := h4 (by simpa using q); exact retF rfl (by rw [h6]; (rw [decide_eq_true (show N < M by omega), Bool.true_or]; repeat (exact DLead.same))) (by repeat (first | exact True.intro | refine And.intro ?_ ?_ | exact DLead.same | exact rfl | refine ⟨_, _, rfl, rfl, ?_⟩ | refine ⟨_, rfl, ?_⟩ | refine ⟨_, _, rfl, ?_, ?_⟩)) rfl)
 refine zy ?_;refine zm ?_;refine zy ?_;refine zm ?_;refine zy ?_;refine zc ?_;refine zy ?_;refine zm ?_;refine AL.caseG rfl rfl (fun h2 => ?_) (fun h2 => ?_)
 ·refine zy ?_;refine zm ?_;refine zy ?_;refine AL.p (by exact mv3 rfl) rfl ?_;refine zy ?_;refine AL.p (by exact g_nilP rfl) rfl ?_;refine zy ?_;refine zF ?_;refine zy ?_;refine zl ?_;refine zy ?_;refine AL.q (by exact h_pure en_compareStr rfl rfl (by repeat (first | exact rfl | exact DLead.same | refine ⟨_, _, rfl, ?_, ?_⟩)) (h3 (by have q := ‹(!f) = false›; simpa using q)) rfl) rfl ?_;refine zy ?_;refine zc ?_;refine zy ?_;refine zQ ?_;refine zP ?_;refine za ?_;refine AL.nil (th_n (AC.ret (bq_r ?_)))
  (have q := ‹(!f) = false›; have h6 := h4 (by simpa using q); exact retF rfl (by rw [h6]; (rw [decide_eq_false (show ¬ N < M by omega), Bool.false_or]; (rw [decide_eq_true (show N = M by omega), Bool.true_and]; repeat (exact DLead.same)))) (by repeat (first | exact True.intro | refine And.intro ?_ ?_ | exact DLead.same | exact rfl | refine ⟨_, _, rfl, rfl, ?_⟩ | refine ⟨_, rfl, ?_⟩ | refine ⟨_, _, rfl, ?_, ?_⟩)) rfl)
 refine zn ?_;refine zn ?_;refine zn ?_;refine zn ?_;refine zn ?_;refine zn ?_;refine zn ?_;refine zy ?_;refine zP ?_;refine zP ?_;refine za ?_;refine AL.nil (th_n (AC.ret (bq_r ?_)))
 (have q := ‹(!f) = false›; have h6 := h4 (by simpa using q); exact retF rfl (by rw [h6]; (rw [decide_eq_false (show ¬ N < M by omega), Bool.false_or]; (rw [decide_eq_false (show ¬ N = M by omega), Bool.false_and]; repeat (exact DLead.same)))) (by repeat (first | exact True.intro | refine And.intro ?_ ?_ | exact DLead.same | exact rfl | refine ⟨_, _, rfl, rfl, ?_⟩ | refine ⟨_, rfl, ?_⟩ | refine ⟨_, _, rfl, ?_, ?_⟩)) rfl)
theorem en_isBetterI : Enters Tryz.prog 106 := enters_of Tryz.func106 rfl rfl
theorem choose1_spec (p x : Tx) (hp : p.length ≤ 2000000) (hx : x.length = p.length) : ASpec Tryz.prog 107 [aS (bstr x), .d (.ref [dS (bstr p)])] [] (Pure1 (aT (hasC p x))) := by
 have hI := contains_spec p x hp hx;refine ASpec.of Tryz.func107 rfl rfl fun C hC => ?_
 refine AC.seq (AC.region ?_);refine za ?_;refine AL.nil (th_n (AC.seq (AC.region ?_)));refine zr ?_;refine zm ?_;refine kV en_contains hI ?_;refine za ?_;refine AL.nil (th_n (AC.ret (bq_r ?_)));exact ret1 rfl rfl
theorem en_choose1 : Enters Tryz.prog 107 := enters_of Tryz.func107 rfl rfl
def BOk (M w : Nat) (B : Option (List Tx)) : Prop := ∀ b, B = some b → b.length = M ∧ ∀ x, x ∈ b → x.length = w
structure ChOk (P on l : List Tx) (m M w : Nat) : Prop where
 w8 : w ≤ 8
 m6 : M ≤ 6
 sum : l.length + m = M
 pl : P.length ≤ 60
 ol : on.length ≤ 64
 pw : ∀ p, p ∈ P → p.length = w
 ow : ∀ c, c ∈ on → c.length = w
 lw : ∀ p, p ∈ l → p.length = w
 nd : l.Nodup
 no : ∀ p, p ∈ l → ∀ c, c ∈ on → hasC p c = false
theorem choose_ok {P on l : List Tx} {m M w : Nat} {B : Option (List Tx)} (hs : l.length + m = M) (hp : ∀ p, p ∈ P → p.length = w) (hl : ∀ p, p ∈ l → p.length = w) (hB : BOk M w B) : BOk M w (chooseN P m on l B) := by
 rcases choose_or P m on l B with e | ⟨b, e, ⟨q, h1, h2, h3, _⟩⟩
 ·rw [e]; exact hB
 rw [e];intro b' hb';obtain rfl : b = b' := Option.some.inj hb';have hperm := sortT_perm (l ++ q);rw [← h1] at hperm;refine ⟨by rw [hperm.length_eq, List.length_append, h2, hs], fun x hx => ?_⟩;rcases List.mem_append.1 (hperm.mem_iff.1 hx) with h | h
 ·exact hl x h
 exact hp x (h3 x h)
def chF (P : List Tx) (k : Nat) (on l : List Tx) (c0 : Tx) (B : Option (List Tx)) (p : Tx) : Option (List Tx) := if hasC p c0 = true then chooseN P k (on.filter fun x => !hasC p x) (l ++ [p]) B else B
theorem choose_succ (P : List Tx) (k : Nat) (on l : List Tx) (B : Option (List Tx)) (h : 0 < on.length) : chooseN P (k + 1) on l B = P.foldl (chF P k on l (on.getD 0 [])) B := by
 cases on with
 | nil => cases h
 | cons c t => rw [chooseN]; rfl
theorem fold_snoc {α β : Type} (f : β → α → β) (b : β) {l : List α} {j : Nat} (h : j < l.length) : (l.take (j + 1)).foldl f b = f ((l.take j).foldl f b) l[j] := by
 rw [List.take_add_one, List.getElem?_eq_getElem h, List.foldl_append]; rfl
theorem ch_next {P on l : List Tx} {k M w : Nat} {p : Tx} (h : ChOk P on l (k + 1) M w) (hp : p ∈ P) (h0 : 0 < on.length) (hc : hasC p (on.getD 0 []) = true) : ChOk P (on.filter fun x => !hasC p x) (l ++ [p]) k M w := by
 have hn : ¬ p ∈ l := fun hm => by
  have := h.no p hm (on.getD 0 []) (by rw [tx_at h0]; exact List.getElem_mem h0);rw [hc] at this; cases this
 refine ⟨h.w8, h.m6, by rw [List.length_append]; have := h.sum; simp only [List.length_cons, List.length_nil]; omega, h.pl, Nat.le_trans (List.length_filter_le _ _) h.ol, h.pw, fun c hc => h.ow c (List.mem_filter.1 hc).1, fun q hq => ?_, ?_, fun q hq c hc => ?_⟩
 ·rcases List.mem_append.1 hq with e | e
  ·exact h.lw q e
  rw [List.mem_singleton.1 e]; exact h.pw p hp
 ·rw [List.nodup_append];refine ⟨h.nd, List.pairwise_singleton _ _, fun a ha b hb e => ?_⟩;rw [List.mem_singleton.1 hb] at e;exact hn (e ▸ ha)
 obtain ⟨h1, h2⟩ := List.mem_filter.1 hc;rcases List.mem_append.1 hq with e | e
 ·exact h.no q e c h1
 rw [List.mem_singleton.1 e]; simpa using h2
theorem en_chooseI : Enters Tryz.prog 85 := enters_of Tryz.func85 rfl rfl
def ChSpec (P on l : List Tx) (m : Nat) (B : Option (List Tx)) : Prop := ASpec Tryz.prog 85 [.ptr 0 0, .d (vSs on), .d (vSs l), aI m] [(0, chooC P B)] (Fun1 (.tup []) [(0, chooC P (chooseN P m on l B))])
theorem choose_own {P on l : List Tx} {m : Nat} {B : Option (List Tx)} (h : ChSpec P on l m B) : ASpec Tryz.prog 85 [.ptr 0 0, .d (vSs on), .own 1 l.length, aI m] [(0, chooC P B), (1, .arr 9 1 (strsL l))] (Fun1 (.tup []) [(0, chooC P (chooseN P m on l B))]) := by
 have h2 := ASpec.give (e2 := 9) h 2 rfl rfl (fun j x hj hx => by
  match j with
  | 0 => cases hx; rfl
  | 1 => cases hx; rfl
  | 2 => exact absurd rfl hj
  | 3 => cases hx; rfl
  | j + 4 => simp at hx) (fun id c hc => by
  rw [getL_cons] at hc
  split at hc
  ·cases hc; rfl
  ·simp [getL] at hc) rfl (fun r chs' hr => by
  obtain ⟨rfl, rfl⟩ := hr;refine ⟨rfl, fun id c hc => ?_⟩;rw [getL_cons] at hc
  split at hc
  ·rename_i e; cases hc; subst e; exact ⟨Nat.zero_lt_one, rfl⟩
  simp [getL] at hc)
 rw [strsL_len] at h2;exact h2
set_option maxHeartbeats 16000000 in
theorem choose_step (P : List Tx) (M w m : Nat) (ih : ∀ k, k < m → ∀ on l B, ChOk P on l k M w → BOk M w B → ChSpec P on l k B) (on l : List Tx) (B : Option (List Tx)) (hK : ChOk P on l m M w) (hB : BOk M w B) : ChSpec P on l m B := by
 have hw8 := hK.w8;have hm6 := hK.m6;have hsum := hK.sum;have hpl := hK.pl;have hol := hK.ol;have hC1 := cloneStr_spec l (by omega);have hS1 := sortStr_spec l (by omega);have hsl := sortT_len l;have hC2 := cloneStr_spec (sortT l) (by omega);have hD2 := compactStr_spec (sortT l) (by omega);have hdd := dt_nodup hK.nd;rw [hsl] at hD2;have hSm : ∀ c, c ∈ sortT l → c.length = w := fun c hc => hK.lw c ((sortT_perm l).mem_iff.1 hc)
 have hIs : m = 0 → ASpec Tryz.prog 106 [.ptr 0 0, .d (vSs (sortT l))] [(0, chooC P B)] (Fun1 (aT (betT (sortT l) B)) [(0, chooC P B)]) := fun h0 => isBetterI_spec P (sortT l) B (by omega) (fun c hc => by rw [hSm c hc]; omega) (fun b hb => by obtain ⟨h1, h2⟩ := hB b hb; exact ⟨by omega, fun c hc => by rw [h2 c hc]; omega⟩)
 have hN1 : on = [] → m = 0 → chooseN P m on l B = conT (sortT l) B := fun h1 h2 => by rw [h1, h2, chooseN, if_pos rfl]
 have hN2 : on = [] → ¬ m = 0 → chooseN P m on l B = B := fun h1 h2 => by
  obtain ⟨k, rfl⟩ : ∃ k, m = k + 1 := ⟨m - 1, by omega⟩;rw [h1, chooseN]
 have hN3 : ¬ on = [] → m = 0 → chooseN P m on l B = B := fun h1 h2 => by rw [h2, chooseN, if_neg h1]
 have hCon : conT (sortT l) B = if betT (sortT l) B = true then some (sortT l) else B := rfl
 unfold ChSpec;obtain ⟨S, hS⟩ := eqx (sortT l);rw [← hS] at hS1 hsl hC2 hD2 hIs hN1 hCon hdd;obtain ⟨D, hDD⟩ := eqx (ddT S l.length);rw [← hDD] at hD2 hdd;have hN4 : ¬ on = [] → ∀ k, m = k + 1 → chooseN P m on l B = P.foldl (chF P k on l (on.getD 0 [])) B := fun h1 k h2 => by rw [h2]; exact choose_succ P k on l B (List.length_pos_iff.2 h1)
 obtain ⟨R, hR⟩ := eqx (chooseN P m on l B);rw [← hR] at hN1 hN2 hN3 hN4 ⊢;clear hR hS hDD hSm;refine ASpec.of Tryz.func85 rfl rfl fun C hC => ?_
 refine AC.seq (AC.seq (AC.region ?_));refine zm ?_;refine kI on.length (strsL_len _) ?_;refine zc ?_;refine AL.nil (th_n ?_);refine AC.condD rfl (fun h0 => ?_) (fun h0 => ?_)
 ·refine AC.seq ?_;have hon : on = [] := List.eq_nil_of_length_eq_zero (by omega);refine AC.region ?_;refine zm ?_;refine kU [] en_cloneStr hC1 ?_;refine AL.p (by exact as2 rfl) rfl ?_;refine AL.nil (th_n (AC.seq ?_));refine AC.weak (t := ⟨77, 200, [(0, .ptr 0 0), (2, .d (vSs l)), (3, aI m), (8, .own 100 l.length)], [(0, some (chooC P B)), (100, some (.arr 9 1 (strsL l)))]⟩) (zw [(100, _)] hC) ?_;refine AC.region ?_;refine kB ?_;refine kU [100] en_sortStr hS1 ?_;refine AL.nil (th_n (AC.seq (AC.seq ?_)));refine AC.weak (Weak.freeze (i := 8) rfl rfl (by rw [strsL_len, hsl]; exact Nat.le_refl _) (List.take_of_length_le (by rw [strsL_len, hsl]; exact Nat.le_refl _))) ?_;refine AC.weak (t := ⟨77, 300, [(0, .ptr 0 0), (2, .d (vSs l)), (3, aI m), (8, .d (vSs S))], [(0, some (chooC P B))]⟩) (zw [] hC) ?_;refine AC.region ?_;refine zm ?_;refine kU [] en_cloneStr hC2 ?_;refine AL.q (by exact h_fun (cs := [300]) en_compactStr rfl rfl (by rw [hsl]; repeat (first | exact rfl | refine ⟨_, _, rfl, ?_, ?_⟩ | refine ⟨_, rfl, ?_⟩)) (by repeat (first | exact True.intro | refine And.intro ?_ ?_ | exact rfl | refine ⟨_, _, rfl, rfl, ?_⟩)) hD2 rfl rfl rfl rfl) rfl ?_;refine AL.p (by exact g_len_own (sz := 1) (els := []) (e' := 0) rfl rfl (by simp only [maxLen]; omega)) rfl ?_;refine zm ?_;refine kI l.length (strsL_len _) ?_;refine AL.p (by exact g_cmp (r := true) rfl rfl (by show some (decide _) = some true; rw [decide_eq_true (by omega)])) rfl ?_;refine zm ?_;refine zy ?_;refine zm ?_;refine zy ?_;refine zc ?_;refine zQ ?_;refine zm ?_;refine AL.caseG rfl rfl (fun h1 => ?_) (fun h1 => ?_)
  ·refine zy ?_;refine AL.p (by exact mv3 rfl) rfl ?_;refine zy ?_;refine zm ?_;refine zy ?_;refine AL.q (by exact h_fun (cs := [0]) en_isBetterI rfl rfl (by repeat (first | exact rfl | exact DLead.same | refine ⟨_, _, rfl, ?_, ?_⟩ | refine ⟨_, rfl, ?_⟩)) (by repeat (first | exact True.intro | refine And.intro ?_ ?_ | exact DLead.same | exact rfl | refine ⟨_, _, rfl, rfl, ?_⟩ | refine ⟨_, rfl, ?_⟩ | refine ⟨_, _, rfl, ?_, ?_⟩)) (hIs (by omega)) rfl rfl rfl rfl) rfl ?_;refine zQ ?_;refine AL.nil (th_n ?_);refine AC.condB rfl (fun h2 => ?_) (fun h2 => ?_)
   ·refine AC.region ?_;refine AL.p (by exact mv3 rfl) rfl ?_;refine AL.p (by exact mv3 rfl) rfl ?_;refine zm ?_;refine AL.p (by exact g_nilP rfl) rfl ?_;refine zF ?_;refine zs ?_;refine AL.p (by exact g_nilP rfl) rfl ?_;refine zF ?_;refine zs ?_;refine AL.nil (th_n (AC.ret (th_r (bq_r ?_))))
    (have e : R = some S := (hN1 hon (by omega)).trans (hCon.trans (if_pos ‹betT S B = true›)); exact retF rfl (by repeat (first | exact rfl | refine ⟨_, rfl, ?_⟩)) (by rw [e]; repeat (first | exact True.intro | refine And.intro ?_ ?_ | exact DLead.same | exact rfl | refine ⟨_, _, rfl, rfl, ?_⟩ | refine ⟨_, rfl, ?_⟩ | refine ⟨_, _, rfl, ?_, ?_⟩)) rfl)
   refine AC.skip (th_n (AC.ret (th_r (bq_r ?_))))
   (have e : R = B := (hN1 hon (by omega)).trans (hCon.trans (if_neg (by rw [‹betT S B = false›]; decide))); exact retF rfl (by repeat (first | exact rfl | refine ⟨_, rfl, ?_⟩)) (by rw [e]; repeat (first | exact True.intro | refine And.intro ?_ ?_ | exact DLead.same | exact rfl | refine ⟨_, _, rfl, rfl, ?_⟩ | refine ⟨_, rfl, ?_⟩ | refine ⟨_, _, rfl, ?_, ?_⟩)) rfl)
  refine zn ?_;refine zn ?_;refine zn ?_;refine zP ?_;refine AL.nil (th_n ?_);refine AC.condF rfl ?_;refine AC.skip (th_n (AC.ret (th_r (bq_r ?_))));exact retF rfl (by repeat (first | exact rfl | refine ⟨_, rfl, ?_⟩)) (by rw [hN2 hon (by omega)]; repeat (first | exact True.intro | refine And.intro ?_ ?_ | exact DLead.same | exact rfl | refine ⟨_, _, rfl, rfl, ?_⟩ | refine ⟨_, rfl, ?_⟩ | refine ⟨_, _, rfl, ?_, ?_⟩)) rfl
 refine AC.skip (th_n (AC.seq (AC.seq ?_)));have hon : ¬ on = [] := fun e => absurd (show (on.length : Int) = 0 by rw [e]; rfl) (by assumption)
 refine AC.region ?_;refine zm ?_;refine zc ?_;refine AL.nil (th_n ?_);refine AC.condD rfl (fun h1 => ?_) (fun h1 => ?_)
 ·refine AC.ret (th_r (bq_r ?_));exact retF rfl (by repeat (first | exact rfl | refine ⟨_, rfl, ?_⟩)) (by rw [hN3 hon (by omega)]; repeat (first | exact True.intro | refine And.intro ?_ ?_ | exact DLead.same | exact rfl | refine ⟨_, _, rfl, rfl, ?_⟩ | refine ⟨_, rfl, ?_⟩ | refine ⟨_, _, rfl, ?_, ?_⟩)) rfl
 refine AC.skip (th_n (AC.seq ?_));obtain ⟨k, hk⟩ : ∃ k, m = k + 1 := ⟨m - 1, by omega⟩;subst hk;have hNk := hN4 hon k rfl;have hol0 : 0 < on.length := List.length_pos_iff.2 hon;have hg0 := strs_get hol0;have hIh := ih k (Nat.lt_succ_self k);have hNx := fun (p : Tx) (hp : p ∈ P) (h : hasC p (on.getD 0 []) = true) => ch_next hK hp hol0 h
 have hcw : (on.getD 0 []).length = w := hK.ow _ (by rw [tx_at hol0]; exact List.getElem_mem hol0);have hCo := cloneStr_spec on (by omega);have hFd : ∀ (B' : Option (List Tx)) (p : Tx), chF P k on l (on.getD 0 []) B' p = if hasC p (on.getD 0 []) = true then chooseN P k (on.filter fun x => !hasC p x) (l ++ [p]) B' else B' := fun _ _ => rfl
 obtain ⟨c0, hc0⟩ := eqx (on.getD 0 []);rw [← hc0] at hNk hg0 hNx hcw hFd;obtain ⟨f, hf⟩ := eqx (chF P k on l c0);rw [← hf] at hNk hFd;clear hf hc0 hN1 hN2 hN3 hN4 hC1 hS1 hC2 hD2 hIs hCon;have hpw := hK.pw;have how := hK.ow;have hlw := hK.lw;refine AC.region ?_;refine AL.p (by exact mv3 rfl) rfl ?_;refine AL.p (by exact g_nilP rfl) rfl ?_;refine zF ?_;refine zl ?_;refine kI P.length (strsL_len _) ?_;refine zm ?_;refine AL.nil (th_n (AC.block ?_));refine AC.loop (ι := Nat × Option (List Tx)) (fun y => ⟨77, 500, [(0, .ptr 0 0), (1, .d (vSs on)), (2, .d (vSs l)), (3, aI ((k + 1 : Nat) : Int)), (47, .d (vSs P)), (48, aI P.length), (49, aI y.1)], [(0, some (chooC P y.2))]⟩) (fun y => y.1 ≤ P.length ∧ y.2 = (P.take y.1).foldl f B ∧ BOk M w y.2) (fun y => P.length - y.1) ((0, B)) ?_ (⟨Nat.zero_le _, rfl, hB⟩) ?_
 ·exact zw [] hC
 rintro ⟨j, D1⟩ ⟨hj, hD1, hBj⟩;dsimp only at hj hD1 hBj ⊢;refine AC.seq (AC.region ?_);refine zc ?_;refine AL.nil (th_n (AC.seq ?_));refine AC.condD rfl (fun h2 => ?_) (fun h2 => ?_)
 ·refine AC.skip (th_n (AC.seq (AC.block (AC.seq ?_))));have hj1 : j < P.length := by omega
  have hget := strs_at hj1;have hpm := List.getElem_mem hj1;have hsn := fold_snoc f B hj1;rw [← hD1, hFd] at hsn;obtain ⟨p, hp⟩ := eqx (P[j]);rw [← hp] at hget hpm hsn;have hpw1 := hpw p hpm;have hH := contains_spec p c0 (by omega) (by omega);have hNxp := hNx p hpm;obtain ⟨b, hb⟩ := eqx (hasC p c0);rw [← hb] at hH hNxp hsn;have hDl := delStr_spec on (by omega) 107 [.ref [dS (bstr p)]] en_choose1 (fun x => hasC p x) (fun x hx => choose1_spec p x (by omega) (by rw [how x hx, hpw1]));have hCall : b = true → ASpec Tryz.prog 85 [.ptr 0 0, .d (vSs (on.filter fun x => !hasC p x)), .own 1 (l ++ [p]).length, aI k] [(0, chooC P D1), (1, .arr 9 1 (strsL (l ++ [p])))] (Fun1 (.tup []) [(0, chooC P (chooseN P k (on.filter fun x => !hasC p x) (l ++ [p]) D1))]) := fun h => choose_own (hIh _ _ _ (hNxp h) hBj)
  have hOk : b = true → BOk M w (chooseN P k (on.filter fun x => !hasC p x) (l ++ [p]) D1) := fun h => by have q := hNxp h; exact choose_ok q.sum hpw q.lw hBj
  have hlp : (l ++ [p]).length = l.length + 1 := by simp
  obtain ⟨F, hF⟩ := eqx (on.filter fun x => !hasC p x)
  rw [← hF] at hDl hCall hOk hsn;obtain ⟨E, hE⟩ := eqx (chooseN P k F (l ++ [p]) D1);rw [← hE] at hCall hOk hsn;clear hp hF hE hNxp;refine AC.region ?_;refine AL.p (by exact g_ia_view (i := j) rfl rfl rfl rfl rfl rfl hget) rfl ?_;refine zr ?_;refine kE ?_;refine zs ?_;refine AL.nil (th_n (AC.seq ?_));refine AC.weak (Weak.freezeRef (ds := [dS (bstr p)]) 10 rfl rfl) ?_;refine AC.weak (t := ⟨77, 700, [(0, .ptr 0 0), (1, .d (vSs on)), (2, .d (vSs l)), (3, aI ((k + 1 : Nat) : Int)), (10, .d (.ref [dS (bstr p)])), (47, .d (vSs P)), (48, aI P.length), (49, aI j)], [(0, some (chooC P D1))]⟩) (zw [] hC) ?_;refine AC.drawn' mixed_ok [[], [], [1], [1,2], [0,1,2,3]] (by decide) ?_;refine zd 0 [] 5 (by exact g_load_ref rfl rfl rfl) ?_;refine zd 1 [] 5 (by exact mv1 rfl) ?_;refine zd 2 [1] 5 (by exact g_ia_view (i := 0) rfl rfl rfl rfl rfl rfl hg0) ?_;refine zd 3 [1,2] 5 (by exact g_load_ref rfl rfl rfl) ?_;refine zh 4 [0,1,2,3] 5 (by exact h_pure en_contains rfl rfl (by repeat (first | exact rfl | exact DLead.same | refine ⟨_, _, rfl, ?_, ?_⟩)) hH rfl) ?_;refine zj 5 ?_;refine th_n ?_;refine AC.condB rfl (fun h3 => ?_) (fun h3 => ?_)
  ·refine AC.seq (AC.region ?_);refine zm ?_;refine kU [] en_cloneStr hCo ?_;refine AL.weak (t := ⟨77, 900, [(0, .ptr 0 0), (2, .d (vSs l)), (3, aI ((k + 1 : Nat) : Int)), (10, .d (.ref [dS (bstr p)])), (47, .d (vSs P)), (48, aI P.length), (49, aI j), (1, .d (vSs on)), (59, .own 101 on.length)], [(0, some (chooC P D1)), (101, some (.arr 9 1 (strsL on)))]⟩) (zw [(101, _)] hC) ?_;refine AL.p (by exact g_fn rfl) rfl ?_;refine kU [101] en_delStr hDl ?_;refine AL.p (by exact as2 rfl) rfl ?_;refine AL.nil (th_n ?_);refine AC.weak (Weak.freeze (i := 11) rfl rfl (Nat.le_of_eq (strsL_len _).symm) (List.take_of_length_le (Nat.le_of_eq (strsL_len _)))) ?_;refine AC.weak (t := ⟨77, 1100, [(0, .ptr 0 0), (1, .d (vSs on)), (2, .d (vSs l)), (3, aI ((k + 1 : Nat) : Int)), (10, .d (.ref [dS (bstr p)])), (11, .d (vSs F)), (47, .d (vSs P)), (48, aI P.length), (49, aI j)], [(0, some (chooC P D1))]⟩) (zw [] hC) ?_;have hbt : b = true := by assumption
   have hCl := hCall hbt;have hOk1 := hOk hbt;rw [if_pos hbt] at hsn;refine AC.drawn' mixed_ok [[], [], [], [], [3], [], [5], [2,3,4,5,6], [], [8], [2,3,4,5,6,7,8,9], [], [11], [0,1,2,3,4,5,6,7,8,9,10,11,12]] (by decide) ?_;refine zd 0 [] 14 (by exact mv3 rfl) ?_;refine zd 1 [] 14 (by exact mv1 rfl) ?_;refine zd 2 [] 14 (by exact mv1 rfl) ?_;refine zd 3 [] 14 (by exact mv1 rfl) ?_;refine zd 4 [3] 14 (by exact g_len_view (k := l.length) rfl rfl (strsL_len _)) ?_;refine zd 5 [] 14 (by exact mv1 rfl) ?_;refine zd 6 [5] 14 (by exact g_len_view (k := l.length) rfl rfl (strsL_len _)) ?_;refine zd 7 [2,3,4,5,6] 14 (by exact g_slice_tight (h := l.length) (r := strsL l) rfl rfl rfl rfl .none (.some rfl rfl) (.some rfl rfl) (Nat.zero_le _) (by rw [strsL_len]; exact Nat.le_refl _) (by rw [List.drop_zero]; exact List.take_of_length_le (Nat.le_of_eq (strsL_len _)))) ?_;refine zd 8 [] 14 (by exact g_load_ref rfl rfl rfl) ?_;refine zh 9 [8] 14 (by exact h_litF rfl rfl rfl rfl rfl rfl rfl rfl) ?_;refine zh 10 [2,3,4,5,6,7,8,9] 14 (by exact h_appendSt l [p] (.tight rfl) (.view rfl) (by rw [hlp]; omega) (by simp)) ?_;refine zd 11 [] 14 (by exact mv1 rfl) ?_;refine zd 12 [11] 14 (by exact g_arith (e := (k : Int)) rfl rfl rfl (by rw [show ((k + 1 : Nat) : Int) - 1 = (k : Int) by omega]; exact wrap_i64 (by omega))) ?_;refine zh 13 (List.range 13) 14 (by exact h_fun (cs := [0, 1180]) en_chooseI rfl rfl (by repeat (first | exact rfl | exact DLead.same | refine ⟨_, _, rfl, ?_, ?_⟩ | refine ⟨_, rfl, ?_⟩)) (by repeat (first | exact True.intro | refine And.intro ?_ ?_ | exact DLead.same | exact rfl | refine ⟨_, _, rfl, rfl, ?_⟩ | refine ⟨_, rfl, ?_⟩ | refine ⟨_, _, rfl, ?_, ?_⟩)) hCl rfl rfl rfl rfl) ?_;refine zj 14 ?_;refine ib_n (th_n (AC.region ?_));refine zA ?_;refine zm ?_;refine AL.nil (th_n ?_);exact ⟨(j + 1, E), ⟨by dsimp only; omega, hsn.symm, hOk1⟩, by dsimp only; omega, zw [] hC⟩
  refine AC.skip (ib_n (th_n (AC.region ?_)));refine zA ?_;refine zm ?_;refine AL.nil (th_n ?_)
  (have w1 := ‹b = false›; rw [if_neg (by rw [w1]; decide)] at hsn; exact ⟨(j + 1, D1), ⟨by dsimp only; omega, hsn.symm, hBj⟩, by dsimp only; omega, zw [] hC⟩)
 refine AC.exit (th_e (th_e (ib_y (bq_n ?_))));have hjj : j = P.length := by omega
 have e : R = D1 := by rw [hNk, hD1, hjj, List.take_length]
 exact retF rfl (by repeat (first | exact rfl | refine ⟨_, rfl, ?_⟩)) (by rw [e]; repeat (first | exact True.intro | refine And.intro ?_ ?_ | exact DLead.same | exact rfl | refine ⟨_, _, rfl, rfl, ?_⟩ | refine ⟨_, rfl, ?_⟩ | refine ⟨_, _, rfl, ?_, ?_⟩)) rfl
theorem choose_spec (P : List Tx) (M w m : Nat) : ∀ on l B, ChOk P on l m M w → BOk M w B → ChSpec P on l m B := by
 induction m using Nat.strongRecOn with
 | _ m ih => exact choose_step P M w m ih
def minO (B : Option (List Tx)) : List Tx × Bool := (B.getD [], B.isSome)
def minR (n : Int) (on off : List Tx) : List Tx × Bool := if (prR n on off).2 = true then minO (minT (prR n on off).1 on) else ([], false)
theorem minAt_yes {P on : List Tx} {f m : Nat} {b : List Tx} (h : chooseN P m on [] none = some b) : minAt P on (f + 1) m = some b := by rw [minAt, h]
theorem minAt_no {P on : List Tx} {f m : Nat} (h : chooseN P m on [] none = none) : minAt P on (f + 1) m = minAt P on f (m + 1) := by rw [minAt, h]
set_option maxHeartbeats 8000000 in
theorem minimumI_spec (n : Int) (on off : List Tx) (h : onoffB n on off = true) : ASpec Tryz.prog 51 [aI n, .d (vSs on), .d (vSs off)] [] (Pure1 (.tup [.d (vSs (minR n on off).1), aT (minR n on off).2])) := by
 have hcov := primes_cover h
 have hR : minR n on off = if (primesL n.toNat on off).length ≤ 60 then minO (minT (primesL n.toNat on off) on) else ([], false) := by
  unfold minR
  by_cases hc : (primesL n.toNat on off).length ≤ 60
  ·have e : prR n on off = (primesL n.toNat on off, true) := if_pos ⟨h, hc⟩;rw [e, if_pos rfl, if_pos hc]
  have e : prR n on off = ([], false) := if_neg fun q => hc q.2
  rw [e, if_neg (by decide), if_neg hc]
 obtain ⟨w, rfl, h1, h8, hol, hfl, hon, hof, _⟩ := onoff_in h;rw [Int.toNat_natCast] at hR hcov;have hP := primesI_spec w on off h8 (by omega) (by omega) (fun x hx => (hon x hx).1) (fun x hx => (hof x hx).1);have hpw : ∀ p, p ∈ primesL w on off → p.length = w := fun p hp => (primesL_mem hp).1
 have hpl := primesL_len w on off h8;obtain ⟨R, hRR⟩ := eqx (minR w on off);rw [← hRR] at hR ⊢;obtain ⟨P, hPP⟩ := eqx (primesL w on off);rw [← hPP] at hR hP hpw hcov hpl;obtain ⟨d, hd⟩ := eqx (decide ((P.length : Int) ≤ 60));rw [← hd] at hP;have hCh : P.length ≤ 60 → ∀ m, m ≤ 6 → ChSpec P on [] m none := fun hp m hm => choose_spec P m w m on [] none ⟨h8, hm, by simp, hp, hol, hpw, fun c hc => (hon c hc).1, fun p hp => absurd hp List.not_mem_nil, List.nodup_nil, fun p hp => absurd hp List.not_mem_nil⟩ (fun b hb => by cases hb)
 clear hRR hPP;refine ASpec.of Tryz.func51 rfl rfl fun C hC => ?_
 refine AC.seq (AC.region ?_);refine za ?_;refine za ?_;refine AL.nil (th_n (AC.seq (AC.region ?_)));refine zm ?_;refine zm ?_;refine zm ?_;refine kV en_primesI hP ?_;refine AL.p (by exact mv5 rfl) rfl ?_;refine AL.p (by exact g_extract (r := .d _) rfl rfl) rfl ?_;refine AL.p (by exact g_extract (r := .d _) rfl rfl) rfl ?_;refine za ?_;refine za ?_;refine AL.nil (th_n (AC.seq (AC.seq (AC.region ?_))));refine zm ?_;refine kC ?_;refine AL.nil (th_n ?_);refine AC.condB rfl (fun h0 => ?_) (fun h0 => ?_)
 ·refine AC.seq (AC.region ?_);refine za ?_;refine za ?_;refine AL.nil (th_n (AC.ret (th_r (bq_r ?_))));have e : R = ([], false) := hR.trans (if_neg (fun q => by have w := ‹(!d) = true›; rw [hd, decide_eq_true (by omega)] at w; cases w));exact ret0 rfl (by rw [e]; show AV.leads _ (.tup [.d (vSs []), aT false]) _; repeat (first | exact DLead.same | exact DLead.nil | exact rfl | refine ⟨_, rfl, ?_⟩ | refine ⟨_, _, rfl, ?_, ?_⟩))
 refine AC.skip (th_n (AC.seq (AC.seq ?_)));have hp60 : P.length ≤ 60 := by have q := ‹(!d) = false›; have q2 : d = true := (by simpa using q); have := of_decide_eq_true (hd.symm.trans q2); omega
 rw [if_pos hp60] at hR;have hChh := hCh hp60;clear hCh hP;refine AC.region ?_;refine zm ?_;refine AL.nil (th_n (AC.block ?_));refine AC.loop (ι := Nat) (fun m => ⟨40, 300, [(1, .d (vSs on)), (8, .d (vSs P)), (21, aI m)], []⟩) (fun m => m ≤ 7 ∧ minT P on = minAt P on (7 - m) m) (fun m => 7 - m) (0) ?_ (⟨Nat.zero_le _, rfl⟩) ?_
 ·exact Weak.ren _ [] hC rfl (by repeat (first | exact True.intro | refine And.intro ?_ ?_ | exact DLead.same)) (by repeat (exact True.intro)) rfl rfl rfl
 rintro m ⟨hm, hmi⟩;refine AC.seq (AC.region ?_);refine zc ?_;refine AL.nil (th_n (AC.seq ?_));refine AC.condD rfl (fun h1 => ?_) (fun h1 => ?_)
 ·refine AC.skip (th_n (AC.seq (AC.block (AC.seq ?_))));have hm6 : m ≤ 6 := by omega
  have hCm := hChh m hm6;have hyes := @minAt_yes P on (6 - m) m;have hno := @minAt_no P on (6 - m) m;rw [show 6 - m + 1 = 7 - m by omega] at hyes hno;unfold ChSpec at hCm;obtain ⟨B, hB⟩ := eqx (chooseN P m on [] none);rw [← hB] at hCm hyes hno;have hsB : B.isSome = true → minT P on = B := fun h => by obtain ⟨b, hb⟩ := Option.isSome_iff_exists.1 h; rw [hmi, hyes hb, hb]
  have hnB : B.isSome = false → minT P on = minAt P on (7 - (m + 1)) (m + 1) := fun h => by rw [hmi, hno (by cases B with | none => rfl | some b => cases h), show 6 - m = 7 - (m + 1) by omega]
  have hmo : minO B = (B.getD [], B.isSome) := rfl;refine AC.region ?_;refine zm ?_;refine za ?_;refine AL.nil (th_n (AC.seq (AC.region ?_)));refine zm ?_;refine AL.p (by exact g_build rfl rfl rfl) rfl ?_;refine AL.q (by exact h_box rfl) rfl ?_;refine AL.p (by exact as3 rfl) rfl ?_;refine AL.nil (th_n (AC.seq ?_));refine AC.weak (t := ⟨40, 400, [(1, .d (vSs on)), (8, .d (vSs P)), (10, aI m), (11, .ptr 200 0), (21, aI m)], [(200, some (chooC P none))]⟩) (Weak.ren _ [(200, _)] hC rfl (by repeat (first | exact True.intro | refine And.intro ?_ ?_ | exact DLead.same | exact rfl | refine ⟨_, rfl, ?_⟩)) (by unfold chooC; repeat (first | exact True.intro | refine And.intro ?_ ?_ | exact DLead.same | exact DLead.nil | exact rfl | refine ⟨_, _, rfl, rfl, ?_⟩ | refine ⟨_, rfl, ?_⟩ | refine ⟨_, _, rfl, ?_, ?_⟩)) rfl rfl rfl) ?_;refine AC.region ?_;refine AL.p (by exact mv3 rfl) rfl ?_;refine zm ?_;refine zm ?_;refine kU [200] en_chooseI hCm ?_;refine AL.nil (th_n (AC.seq ?_));unfold chooC;refine AC.region ?_;refine AL.p (by exact mv3 rfl) rfl ?_;refine AL.p (by exact g_nilP rfl) rfl ?_;refine zF ?_;refine zl ?_;refine AL.nil (th_n ?_);refine AC.condB rfl (fun h2 => ?_) (fun h2 => ?_)
  ·refine AC.seq (AC.region ?_);refine AL.p (by exact mv3 rfl) rfl ?_;refine AL.p (by exact g_nilP rfl) rfl ?_;refine zF ?_;refine zl ?_;refine za ?_;refine za ?_;refine AL.nil (th_n (AC.ret (ib_r (th_r (th_r (ib_r (th_r (bq_r ?_))))))));have hs : B.isSome = true := by assumption
   have e : R = minO B := by rw [hR, hsB hs]
   exact ret0 rfl (by rw [e, hmo, hs]; repeat (first | exact DLead.same | exact rfl | refine ⟨_, rfl, ?_⟩ | refine ⟨_, _, rfl, ?_, ?_⟩))
  refine AC.skip (ib_n (th_n (AC.region ?_)));refine zA ?_;refine zm ?_;refine AL.nil (th_n ?_);exact ⟨m + 1, ⟨by omega, hnB (by assumption)⟩, by omega, Weak.ren _ [] hC rfl (by repeat (first | exact True.intro | refine And.intro ?_ ?_ | exact DLead.same)) (by repeat (exact True.intro)) rfl rfl rfl⟩
 refine AC.exit (th_e (th_e (ib_y (th_n (AC.seq (AC.region ?_))))));refine za ?_;refine za ?_;refine AL.nil (th_n (AC.ret (bq_r ?_)));have hm7 : m = 7 := by omega
 have e : R = ([], false) := by rw [hR, hmi, hm7]; rfl
 exact ret0 rfl (by rw [e]; show AV.leads _ (.tup [.d (vSs []), aT false]) _; repeat (first | exact DLead.same | exact DLead.nil | exact rfl | refine ⟨_, rfl, ?_⟩ | refine ⟨_, _, rfl, ?_, ?_⟩))
theorem en_minimumI : Enters Tryz.prog 51 := enters_of Tryz.func51 rfl rfl
theorem minR_no {n : Int} {on off : List Tx} (h : onoffB n on off = false) : minR n on off = ([], false) := by
 unfold minR;refine if_neg fun q => ?_
 have := (prR_in q).1;rw [h] at this; cases this
theorem iMinC_spec (n : Int) (on off : List Tx) (hl : on.length ≤ 1000000) (hl2 : off.length ≤ 1000000) (hb : ∀ c, c ∈ on → c.length ≤ 2000000) (hb2 : ∀ c, c ∈ off → c.length ≤ 2000000) : ASpec Tryz.prog 15 [aI n, .d (vSs on), .d (vSs off)] [] (Pure1 (.tup [.d (vSs (minR n on off).1), aT (minR n on off).2])) := by
 have hO := iOnOff_spec n on off hl hl2 hb hb2;have hM := minimumI_spec n on off;have hN := @minR_no n on off;obtain ⟨b, e⟩ := eqx (onoffB n on off);rw [← e] at hO hM hN;obtain ⟨R, hRR⟩ := eqx (minR n on off);rw [← hRR] at hM hN ⊢;clear e hRR;refine ASpec.of Tryz.func15 rfl rfl fun C hC => ?_
 refine AC.seq (AC.region ?_);refine za ?_;refine za ?_;refine AL.nil (th_n (AC.seq (AC.seq (AC.region ?_))));refine zm ?_;refine zm ?_;refine zm ?_;refine kV en_iOnOff hO ?_;refine kC ?_;refine AL.nil (th_n ?_);refine AC.condB rfl (fun h0 => ?_) (fun h0 => ?_)
 ·refine AC.seq (AC.region ?_);refine za ?_;refine za ?_;refine AL.nil (th_n (AC.ret (th_r (bq_r ?_))));have e : R = ([], false) := hN (by have q := ‹(!b) = true›; simpa using q);exact ret0 rfl (by rw [e]; show AV.leads _ (.tup [.d (vSs []), aT false]) _; repeat (first | exact DLead.same | exact DLead.nil | exact rfl | refine ⟨_, rfl, ?_⟩ | refine ⟨_, _, rfl, ?_, ?_⟩))
 refine AC.skip (th_n (AC.seq ?_));have hM1 := hM (by have q := ‹(!b) = false›; simpa using q);refine AC.region ?_;refine zm ?_;refine zm ?_;refine zm ?_;refine kV en_minimumI hM1 ?_;refine AL.p (by exact g_extract (r := .d _) rfl rfl) rfl ?_;refine AL.p (by exact g_extract (r := .d _) rfl rfl) rfl ?_;refine za ?_;refine za ?_;refine AL.nil (th_n (AC.ret (bq_r ?_)));exact ret0 rfl (by repeat (first | exact DLead.same | exact rfl | refine ⟨_, rfl, ?_⟩ | refine ⟨_, _, rfl, ?_, ?_⟩))
theorem en_iMinC : Enters Tryz.prog 15 := enters_of Tryz.func15 rfl rfl
theorem coversAll1_spec (l : List Tx) (x : Tx) (hl : l.length ≤ 1000000) (hx : x.length ≤ 2000000) (hb : ∀ c, c ∈ l → x.length = c.length) : ASpec Tryz.prog 83 [aS (bstr x), .d (.ref [vSs l])] [] (Pure1 (aT (!covB l x))) := by
 have hI := coversI_spec l x hl hx hb;refine ASpec.of Tryz.func83 rfl rfl fun C hC => ?_
 refine AC.seq (AC.region ?_);refine za ?_;refine AL.nil (th_n (AC.seq (AC.region ?_)));refine zr ?_;refine zm ?_;refine kV en_coversI hI ?_;refine kC ?_;refine za ?_;refine AL.nil (th_n (AC.ret (bq_r ?_)));exact ret1 rfl rfl
theorem en_coversAll1 : Enters Tryz.prog 83 := enters_of Tryz.func83 rfl rfl
theorem covAll_any (l on : List Tx) : (!on.any fun x => !covB l x) = covAll l on := by unfold covAll; rw [List.all_eq_not_any_not]
theorem coversAll_spec (l on : List Tx) (hl : l.length ≤ 1000000) (hl2 : on.length ≤ 1000000) (hx : ∀ x, x ∈ on → x.length ≤ 2000000) (hb : ∀ x, x ∈ on → ∀ c, c ∈ l → x.length = c.length) : ASpec Tryz.prog 48 [.d (vSs l), .d (vSs on)] [] (Pure1 (aT (covAll l on))) := by
 have hM := cfStr_spec on hl2 83 [.ref [vSs l]] en_coversAll1 (fun x => !covB l x) (fun x h => coversAll1_spec l x hl (hx x h) (hb x h));rw [← covAll_any];refine ASpec.of Tryz.func48 rfl rfl fun C hC => ?_
 refine AC.seq (AC.region ?_);refine kD ?_;refine za ?_;refine AL.nil (th_n (AC.seq (AC.region ?_)));refine zm ?_;refine AL.p (by exact g_fn rfl) rfl ?_;refine kV en_cfStr hM ?_;refine kC ?_;refine za ?_;refine AL.nil (th_n (AC.ret (bq_r ?_)));exact ret1 rfl rfl
theorem en_coversAll : Enters Tryz.prog 48 := enters_of Tryz.func48 rfl rfl
theorem iIsCov1_spec (l : List Tx) (x : Tx) (hl : l.length ≤ 1000000) (hx : x.length ≤ 2000000) (hb : ∀ c, c ∈ l → x.length = c.length) : ASpec Tryz.prog 49 [aS (bstr x), .d (.ref [vSs l])] [] (Pure1 (aT (covB l x))) := by
 have hI := coversI_spec l x hl hx hb;refine ASpec.of Tryz.func49 rfl rfl fun C hC => ?_
 refine AC.seq (AC.region ?_);refine za ?_;refine AL.nil (th_n (AC.seq (AC.region ?_)));refine zr ?_;refine zm ?_;refine kV en_coversI hI ?_;refine za ?_;refine AL.nil (th_n (AC.ret (bq_r ?_)));exact ret1 rfl rfl
theorem en_iIsCov1 : Enters Tryz.prog 49 := enters_of Tryz.func49 rfl rfl
def chkB (l on off : List Tx) : Bool := covAll l on && !off.any fun x => covB l x
def icvR (n : Int) (on off l : List Tx) : Bool × Bool := if (onoffB n on off && cvB n l) = true then (chkB l on off, true) else (false, false)
theorem icv_in {n : Int} {on off l : List Tx} (h : onoffB n on off = true) (h2 : cvB n l = true) : on.length ≤ 64 ∧ off.length ≤ 256 ∧ l.length ≤ 60 ∧ (∀ x, x ∈ on → x.length ≤ 8) ∧ (∀ x, x ∈ off → x.length ≤ 8) ∧ (∀ x, x ∈ on → ∀ c, c ∈ l → x.length = c.length) ∧ ∀ x, x ∈ off → ∀ c, c ∈ l → x.length = c.length := by
 obtain ⟨m, rfl, h1, h8, ho, hf, h3, h4, _⟩ := onoff_in h;obtain ⟨_, hll, _⟩ := cvB_in h2;obtain ⟨k, e, _, _, h5⟩ := cvB_n h2;have e2 : m = k := Int.ofNat.inj e;subst e2;exact ⟨ho, hf, hll, fun x hx => by rw [(h3 x hx).1]; exact h8, fun x hx => by rw [(h4 x hx).1]; exact h8, fun x hx c hc => by rw [(h3 x hx).1, h5 c hc], fun x hx c hc => by rw [(h4 x hx).1, h5 c hc]⟩
set_option maxHeartbeats 8000000 in
theorem iIsCov_spec (n : Int) (on off l : List Tx) (hl : on.length ≤ 1000000) (hl2 : off.length ≤ 1000000) (hl3 : l.length ≤ 1000000) (hb : ∀ c, c ∈ on → c.length ≤ 2000000) (hb2 : ∀ c, c ∈ off → c.length ≤ 2000000) (hb3 : ∀ c, c ∈ l → c.length ≤ 2000000) : ASpec Tryz.prog 14 [aI n, .d (vSs on), .d (vSs off), .d (vSs l)] [] (Pure1 (.tup [aT (icvR n on off l).1, aT (icvR n on off l).2])) := by
 have hO := iOnOff_spec n on off hl hl2 hb hb2;have hV := iCov_spec n l hl3 hb3;have hin := @icv_in n on off l
 have hA : onoffB n on off = true → cvB n l = true → ASpec Tryz.prog 48 [.d (vSs l), .d (vSs on)] [] (Pure1 (aT (covAll l on))) := fun h1 h2 => by
  obtain ⟨g1, g2, g3, g4, g5, g6, g7⟩ := icv_in h1 h2;exact coversAll_spec l on hl3 hl hb g6
 have hM : onoffB n on off = true → cvB n l = true → ASpec Tryz.prog 44 [.d (vSs off), .clo 49 [.d (.ref [vSs l])]] [] (Pure1 (aT (off.any fun x => covB l x))) := fun h1 h2 => by
  obtain ⟨g1, g2, g3, g4, g5, g6, g7⟩ := icv_in h1 h2;exact cfStr_spec off hl2 49 [.ref [vSs l]] en_iIsCov1 (fun x => covB l x) (fun x h => iIsCov1_spec l x hl3 (hb2 x h) (g7 x h))
 have hR : icvR n on off l = if (onoffB n on off && cvB n l) = true then (covAll l on && !off.any fun x => covB l x, true) else (false, false) := rfl
 obtain ⟨b1, e1⟩ := eqx (onoffB n on off);obtain ⟨b2, e2⟩ := eqx (cvB n l);obtain ⟨b3, e3⟩ := eqx (covAll l on);obtain ⟨b4, e4⟩ := eqx (off.any fun x => covB l x)
 rw [← e1, ← e2, ← e3, ← e4] at hR;rw [← e1] at hO;rw [← e2] at hV;rw [← e1, ← e2, ← e3] at hA;rw [← e1, ← e2, ← e4] at hM;obtain ⟨R, hRR⟩ := eqx (icvR n on off l);rw [← hRR] at hR ⊢;have hno1 : b1 = false → R = (false, false) := fun q => hR.trans (if_neg (by rw [q, Bool.false_and]; decide))
 have hno2 : b2 = false → R = (false, false) := fun q => hR.trans (if_neg (by rw [q, Bool.and_false]; decide))
 clear e1 e2 e3 e4 hRR hin;refine ASpec.of Tryz.func14 rfl rfl fun C hC => ?_
 refine AC.seq (AC.region ?_);refine kD ?_;refine za ?_;refine za ?_;refine AL.nil (th_n (AC.seq (AC.seq (AC.region ?_))));refine zm ?_;refine zm ?_;refine zm ?_;refine kV en_iOnOff hO ?_;refine kC ?_;refine zm ?_;refine AL.caseGB rfl rfl (fun h0 => ?_) (fun h0 => ?_)
 ·refine zn ?_;refine zn ?_;refine zn ?_;refine zn ?_;refine zQ ?_;refine AL.nil (th_n ?_);refine AC.condT rfl ?_;refine AC.seq (AC.region ?_);refine za ?_;refine za ?_;refine AL.nil (th_n (AC.ret (th_r (bq_r ?_))));have e : R = (false, false) := by exact hno1 (by have q := ‹(!b1) = true›; simpa using q)
  exact ret0 rfl (by rw [e]; show AV.leads _ (.tup [aT false, aT false]) _; repeat (first | exact DLead.same | exact rfl | refine ⟨_, rfl, ?_⟩ | refine ⟨_, _, rfl, ?_, ?_⟩))
 refine zy ?_;refine zm ?_;refine zy ?_;refine zr ?_;refine zy ?_;refine kV en_iCov hV ?_;refine zy ?_;refine kC ?_;refine zP ?_;refine AL.nil (th_n ?_);refine AC.condB rfl (fun h1 => ?_) (fun h1 => ?_)
 ·refine AC.seq (AC.region ?_);refine za ?_;refine za ?_;refine AL.nil (th_n (AC.ret (th_r (bq_r ?_))));have e : R = (false, false) := by exact hno2 (by have q := ‹(!b2) = true›; simpa using q)
  exact ret0 rfl (by rw [e]; show AV.leads _ (.tup [aT false, aT false]) _; repeat (first | exact DLead.same | exact rfl | refine ⟨_, rfl, ?_⟩ | refine ⟨_, _, rfl, ?_, ?_⟩))
 refine AC.skip (th_n (AC.seq ?_));have q1 : b1 = true := by have q := ‹(!b1) = false›; simpa using q
 have q2 : b2 = true := by have q := ‹(!b2) = false›; simpa using q
 have hA := hA q1 q2;have hM := hM q1 q2;rw [if_pos (by rw [q1, q2]; rfl)] at hR;refine AC.region ?_;refine zr ?_;refine zm ?_;refine kV en_coversAll hA ?_;refine zm ?_;refine AL.caseGB rfl rfl (fun h2 => ?_) (fun h2 => ?_)
 ·refine zy ?_;refine zm ?_;refine zy ?_;refine AL.p (by exact g_fn rfl) rfl ?_;refine zy ?_;refine kV en_cfStr hM ?_;refine zy ?_;refine kC ?_;refine zQ ?_;refine za ?_;refine za ?_;refine AL.nil (th_n (AC.ret (bq_r ?_)));exact ret0 rfl (by rw [hR]; (have q := ‹b3 = true›; rw [q]; repeat (first | exact DLead.same | exact rfl | refine ⟨_, rfl, ?_⟩ | refine ⟨_, _, rfl, ?_, ?_⟩)))
 refine zn ?_;refine zn ?_;refine zn ?_;refine zn ?_;refine zP ?_;refine za ?_;refine za ?_;refine AL.nil (th_n (AC.ret (bq_r ?_)));exact ret0 rfl (by rw [hR]; (have q := ‹b3 = false›; rw [q]; repeat (first | exact DLead.same | exact rfl | refine ⟨_, rfl, ?_⟩ | refine ⟨_, _, rfl, ?_, ?_⟩)))
theorem en_iIsCov : Enters Tryz.prog 14 := enters_of Tryz.func14 rfl rfl
def litN (al : List UInt8) : Nat → Cur → List UInt8 → List UInt8 × Cur
 | 0, c, s => (s, c)
 | j + 1, c, s => litN al j (c.pick al.length).2 (s ++ [al.getD (c.pick al.length).1.toNat 0])
theorem litN_len (al : List UInt8) : ∀ (j : Nat) (c : Cur) (s : List UInt8), (litN al j c s).1.length = s.length + j ∧ (litN al j c s).2.pos ≤ c.pos + 2 * j
 | 0, c, s => ⟨rfl, Nat.le_refl _⟩
 | j + 1, c, s => by
  have h := litN_len al j (c.pick al.length).2 (s ++ [al.getD (c.pick al.length).1.toNat 0]);have h2 := c.pick_pos al.length;simp only [List.length_append, List.length_cons, List.length_nil] at h;simp only [litN];exact ⟨by omega, by omega⟩
def Cur.lits (c : Cur) (al : List UInt8) (n : Int) : List UInt8 × Cur := litN al n.toNat c []
theorem Cur.lits_in (c : Cur) (al : List UInt8) (n : Int) : (c.lits al n).1.length = n.toNat ∧ (c.lits al n).2.pos ≤ c.pos + 2 * n.toNat := by
 have h := litN_len al n.toNat c [];simp only [List.length_nil] at h;exact ⟨by show (litN _ _ _ _).1.length = _; omega, h.2⟩
theorem lit3_get {k : Nat} (h : k < 3) : ([[dS ⟨#[48]⟩], [dS ⟨#[49]⟩], [dS ⟨#[45]⟩]] : List (List DV))[k]? = some [dS (bstr [([48, 49, 45] : List UInt8).getD k 0])] := by
 match k, h with
 | 0, _ => rfl
 | 1, _ => rfl
 | 2, _ => rfl
set_option maxHeartbeats 2000000 in
theorem cube_spec (c : Cur) (n : Int) (hn : n ≤ 1000) (hp : c.pos ≤ 10000000000000) : ASpec Tryz.prog 63 [.ptr 0 0, aI n] [(0, curC c)] (Fun1 (aS (bstr (c.lits [48, 49, 45] n).1)) [(0, curC (c.lits [48, 49, 45] n).2)]) := by
 have hs1 : ∀ x : UInt8, (bstr [x]).size = 1 := fun x => bstr_size _
 obtain ⟨R, hR⟩ := eqx (c.lits [48, 49, 45] n);refine ASpec.of Tryz.func63 rfl rfl fun C hC => ?_
 refine AC.seq (AC.region ?_);refine za ?_;refine AL.nil (th_n (AC.seq (AC.region ?_)));refine za ?_;refine AL.nil (th_n (AC.seq (AC.seq (AC.region ?_))));refine za ?_;refine AL.nil (th_n (AC.block ?_));refine AC.loop (ι := Nat × Cur × List UInt8) (fun x => ⟨18, 108, [(0, .ptr 0 0), (1, aI n), (5, aS (bstr x.2.2)), (6, aI x.1)], [(0, some (curC x.2.1))]⟩) (fun x => x.1 ≤ n.toNat ∧ x.2.2.length = x.1 ∧ litN [48, 49, 45] (n.toNat - x.1) x.2.1 x.2.2 = R ∧ x.2.1.pos ≤ c.pos + 2 * x.1) (fun x => n.toNat - x.1) ((0, c, [])) ?_ (⟨Nat.zero_le _, rfl, hR.symm, Nat.le_refl _⟩) ?_
 ·exact zw [] hC
 rintro ⟨i, cc, s⟩ ⟨hi, hsl, hsub, hpos⟩;dsimp only at hi hsl hsub hpos ⊢;refine AC.seq (AC.seq (AC.region ?_));refine zm ?_;refine zm ?_;refine zc ?_;refine AL.nil (th_n ?_);refine AC.condD rfl (fun h0 => ?_) (fun h0 => ?_)
 ·refine AC.skip (th_n (AC.seq (AC.block ?_)));have hi1 : i < n.toNat := by omega
  have hpk := cc.pick_in 3 (by decide);have hpp := cc.pick_pos 3;have hget := lit3_get (k := (cc.pick 3).1.toNat) (by omega);have hsz : (bstr s).size = i := by rw [bstr_size, hsl]
  obtain ⟨x, hx⟩ := eqx (([48, 49, 45] : List UInt8).getD (cc.pick 3).1.toNat 0);have hsub2 : litN [48, 49, 45] (n.toNat - (i + 1)) (cc.pick 3).2 (s ++ [x]) = R := by rw [← hsub, show n.toNat - i = (n.toNat - (i + 1)) + 1 from by omega, hx]; rfl
  rw [← hx] at hget;refine AC.region ?_;refine zm ?_;refine AL.p (by exact mv3 rfl) rfl ?_;refine AL.q (by exact h_litF rfl rfl rfl rfl rfl rfl rfl rfl) rfl ?_;refine AL.q (by exact h_fun (cs := [0]) en_of rfl rfl (by repeat (first | exact rfl | exact DLead.same | refine ⟨_, _, rfl, ?_, ?_⟩ | refine ⟨_, rfl, ?_⟩)) (by repeat (first | exact True.intro | refine And.intro ?_ ?_ | exact DLead.same | exact rfl | refine ⟨_, _, rfl, rfl, ?_⟩ | refine ⟨_, rfl, ?_⟩ | refine ⟨_, _, rfl, ?_, ?_⟩)) (of_spec cc [[dS ⟨#[48]⟩], [dS ⟨#[49]⟩], [dS ⟨#[45]⟩]] (bstr [x]) (by decide) (by decide) (by omega) hget) rfl rfl rfl rfl) rfl ?_;refine AL.p (by exact g_sadd rfl rfl (by rw [hsz, hs1]; omega)) rfl ?_;refine za ?_;refine AL.nil (ib_n (th_n (AC.region ?_)));refine zm ?_;refine zA ?_;refine za ?_;refine AL.nil (th_n ?_);exact ⟨(i + 1, (cc.pick 3).2, s ++ [x]), ⟨by show i + 1 ≤ _; omega, by show (s ++ [x]).length = i + 1; rw [List.length_append, hsl]; rfl, hsub2, by show (cc.pick 3).2.pos ≤ c.pos + 2 * (i + 1); omega⟩, by show n.toNat - (i + 1) < n.toNat - i; omega, Weak.ren _ [] hC rfl (by rw [← bstr_append]; repeat (first | exact True.intro | refine And.intro ?_ ?_ | exact DLead.same | exact rfl | refine ⟨_, rfl, ?_⟩)) (by repeat (first | exact True.intro | refine And.intro ?_ ?_ | exact DLead.same | exact rfl | refine ⟨_, _, rfl, rfl, ?_⟩ | refine ⟨_, rfl, ?_⟩ | refine ⟨_, _, rfl, ?_, ?_⟩)) rfl rfl rfl⟩
 refine AC.exit (th_e (th_e (ib_y (th_n (AC.seq (AC.region ?_))))));refine zm ?_;refine za ?_;refine AL.nil (th_n (AC.ret (bq_r ?_)));have hii : n.toNat - i = 0 := by omega
 rw [hii] at hsub;have e : c.lits [48, 49, 45] n = (s, cc) := by rw [← hR, ← hsub]; rfl
 exact retF rfl (by rw [e]; repeat (exact DLead.same)) (by rw [e]; repeat (first | exact True.intro | refine And.intro ?_ ?_ | exact DLead.same | exact rfl | refine ⟨_, _, rfl, rfl, ?_⟩ | refine ⟨_, rfl, ?_⟩ | refine ⟨_, _, rfl, ?_, ?_⟩)) rfl
theorem en_cube : Enters Tryz.prog 63 := enters_of Tryz.func63 rfl rfl
end Go.Proofs.YtiaieidhhlmfmaaGreat
