/- Plain laws on cubes: what two cubes share lies in both; the smallest cube holds all its codes, and no literal can be added. -/
import Derived.Test.YtochebmkfdfbhaaW36
set_option linter.all false
namespace Go.Proofs.Ytochebmkfdfbhaa
open Go.RowKit

theorem lit3_of {s : List UInt8} {i : Nat} (h : s.all lit3 = true) (hi : i < s.length) : lit3 (s.getD i 0) = true := by
  rw [List.getD_eq_getElem?_getD, List.getElem?_eq_getElem hi]
  exact List.all_eq_true.1 h _ (List.getElem_mem hi)
theorem all_lit3 {s : List UInt8} (h : ∀ i, i < s.length → lit3 (s.getD i 0) = true) : s.all lit3 = true := all_of fun j hj => by
  have := h j hj
  rwa [List.getD_eq_getElem?_getD, List.getElem?_eq_getElem hj] at this
theorem mt_sym (a b : List UInt8) (i : Nat) : mtAt b a i = mtAt a b i := by
  rw [mtAt_alt a b]
  unfold mtAt
  by_cases h1 : at1 b i = 45 ∨ at1 b i = at1 a i
  · rw [if_pos h1, if_pos (show at1 a i = at1 b i ∨ at1 b i = 45 by rcases h1 with h | h; exact .inr h; exact .inl h.symm)]
  · rw [if_neg h1, if_neg (show ¬ (at1 a i = at1 b i ∨ at1 b i = 45) from fun h => h1 (by rcases h with h | h; exact .inr h.symm; exact .inl h))]
theorem meetV_at {a b : List UInt8} {k i : Nat} {x : UInt8} (hi : i < k) (h : mtAt a b i = some x) : (meetV a b k).getD i 0 = x := by
  unfold meetV
  rw [List.getD_eq_getElem?_getD, List.getElem?_map, List.getElem?_range hi]
  show (mtAt a b i).getD 0 = x
  rw [h]; rfl
theorem inter_ok {a b : List UInt8} (h : (interI a b).2 = true) : twoB a b = true ∧ (∀ j, j < a.length → (mtAt a b j).isSome = true) ∧ (interI a b).1 = meetV a b a.length := by
  unfold interI at h ⊢
  by_cases g : twoB a b = true
  · rw [if_pos g] at h ⊢
    refine ⟨g, ?_⟩
    unfold meetI at h ⊢
    by_cases g2 : allN a.length (fun i => (mtAt a b i).isSome) = true
    · rw [if_pos g2]
      exact ⟨fun j hj => List.all_eq_true.1 g2 j (List.mem_range.2 hj), rfl⟩
    · rw [if_neg g2] at h; cases h
  · rw [if_neg g] at h; cases h
theorem twoB_sym {a b : List UInt8} (h : twoB a b = true) : twoB b a = true := by
  have hl := twoB_len h
  unfold twoB at h ⊢
  rw [hl, Bool.and_comm]; exact h
theorem inter_sym {a b : List UInt8} (h : (interI a b).2 = true) : interI b a = ((interI a b).1, true) := by
  obtain ⟨h1, h2, h3⟩ := inter_ok h
  have hl := twoB_len h1
  rw [interI_yes (twoB_sym h1), meetI_yes (fun j hj => by rw [mt_sym]; exact h2 j (by omega)), h3]
  refine Prod.ext (ext_getD (by rw [meetV_len, meetV_len]; exact hl) fun j hj => ?_) rfl
  have hj' : j < b.length := by rw [meetV_len] at hj; exact hj
  obtain ⟨x, hx⟩ := Option.isSome_iff_exists.1 (h2 j (by omega))
  show (meetV b a b.length).getD j 0 = _
  rw [meetV_at hj' ((mt_sym a b j).trans hx), meetV_at (by omega) hx]
theorem cubeB_of {s : List UInt8} {n : Int} (h : cubeB s n = true) : s.all lit3 = true ∧ (s.length : Int) = n ∧ 1 ≤ n ∧ n ≤ 8 := by
  simp only [cubeB, Bool.and_eq_true, decide_eq_true_eq] at h
  exact ⟨h.1, h.2.1, h.2.2.1, h.2.2.2⟩
theorem cubeB_mk {s : List UInt8} {n : Int} (h1 : s.all lit3 = true) (h2 : (s.length : Int) = n) (h3 : 1 ≤ n) (h4 : n ≤ 8) : cubeB s n = true := by
  unfold cubeB
  rw [h1, decide_eq_true h2, decide_eq_true h3, decide_eq_true h4]; rfl
theorem inter_sub {a b : List UInt8} (h : (interI a b).2 = true) : subI (interI a b).1 a = (true, true) := by
  obtain ⟨h1, h2, h3⟩ := inter_ok h
  have hl := twoB_len h1
  rw [h3]
  have hml := meetV_len a b a.length
  have hab := h1
  unfold twoB at hab
  rw [Bool.and_eq_true] at hab
  have ca := cubeB_of hab.1
  have cb := cubeB_of hab.2
  have hval : ∀ i, i < a.length → (meetV a b a.length).getD i 0 = a.getD i 0 ∨ (meetV a b a.length).getD i 0 = b.getD i 0 := by
    intro i hi
    obtain ⟨x, hx⟩ := Option.isSome_iff_exists.1 (h2 i hi)
    rw [meetV_at hi hx]
    unfold mtAt at hx
    split at hx
    · right; exact (Option.some.inj hx).symm
    · split at hx
      · left; exact (Option.some.inj hx).symm
      · cases hx
  have hm : (meetV a b a.length).all lit3 = true := all_lit3 fun i hi => by
    rw [hml] at hi
    rcases hval i hi with e | e
    · rw [e]; exact lit3_of ca.1 hi
    · rw [e]; exact lit3_of cb.1 (by omega)
  have htwo : twoB (meetV a b a.length) a = true := by
    unfold twoB
    rw [hml, cubeB_mk hm (by rw [hml]) ca.2.2.1 ca.2.2.2, hab.1]; rfl
  rw [subI_yes htwo]
  refine Prod.ext ?_ rfl
  show isIn _ _ = true
  unfold isIn
  refine allN_true fun i hi => ?_
  rw [hml] at hi
  obtain ⟨x, hx⟩ := Option.isSome_iff_exists.1 (h2 i hi)
  have hmi := meetV_at hi hx
  unfold okAt
  rw [Bool.or_eq_true, decide_eq_true_eq, decide_eq_true_eq]
  unfold mtAt at hx
  by_cases g1 : at1 a i = 45
  · exact .inl g1
  · right
    by_cases g2 : at1 a i = at1 b i
    · rw [if_pos (.inr g2)] at hx
      rw [g2]
      unfold at1
      rw [hmi, Option.some.inj hx]
    · rw [if_neg (by omega)] at hx
      split at hx
      · unfold at1
        rw [hmi, Option.some.inj hx]
      · cases hx
theorem inter_sub2 {a b : List UInt8} (h : (interI a b).2 = true) : subI (interI a b).1 b = (true, true) := by
  have hs := inter_sym h
  have h2 : (interI b a).2 = true := by rw [hs]
  have := inter_sub h2
  rwa [hs] at this
theorem sup_lit {l : List (List UInt8)} {n : Int} (hb : bitsB (fst0 l) n = true) (k i : Nat) (hi : i < (fst0 l).length) : lit3 (supAt l k i) = true := by
  unfold supAt
  split
  · have h1 : (fst0 l).all bit = true := by simp only [bitsB, Bool.and_eq_true] at hb; exact hb.1
    have h2 := bits_lits (fst0 l)
    rw [h1] at h2
    have h3 := (Bool.and_eq_true_iff.1 h2.symm).1
    exact lit3_of h3 hi
  · decide
theorem okS_of {l : List (List UInt8)} (h : okS l = true) : 0 < l.length ∧ 1 ≤ (fst0 l).length ∧ (fst0 l).length ≤ 8 ∧ ∀ c, c ∈ l → bitsB c (fst0 l).length = true := by
  simp only [okS, Bool.and_eq_true, decide_eq_true_eq, List.all_eq_true] at h
  exact ⟨by omega, by omega, by omega, h.2⟩
theorem sup_cube {l : List (List UInt8)} (h : okS l = true) : cubeB (superV l) (fst0 l).length = true := by
  obtain ⟨h0, h1, h8, hb⟩ := okS_of h
  refine cubeB_mk (all_lit3 fun i hi => ?_) (by rw [superV_len]) (by omega) (by omega)
  rw [superV_len] at hi
  rw [superV_at hi]
  exact sup_lit (hb _ (fst0_mem h0)) _ _ hi
theorem sup_has {l : List (List UInt8)} (h : okS l = true) {x : List UInt8} (hx : x ∈ l) : hasI2 (superV l) x = (true, true) := by
  obtain ⟨h0, h1, h8, hb⟩ := okS_of h
  have hxl := bits_len' (hb x hx)
  have hP : hasP (superV l) x = true := by
    unfold hasP
    rw [hxl, sup_cube h, codeB_eq, hb x hx, decide_eq_true (by omega : (1 : Int) ≤ (fst0 l).length), decide_eq_true (by omega : ((fst0 l).length : Int) ≤ 8)]; rfl
  rw [hasI2_yes hP]
  refine Prod.ext ?_ rfl
  show hasC _ _ = true
  unfold hasC
  refine allN_true fun i hi => ?_
  rw [superV_len] at hi
  unfold okAt
  rw [Bool.or_eq_true, decide_eq_true_eq, decide_eq_true_eq]
  have hs := superV_at hi
  unfold supAt at hs
  by_cases g : (l.take l.length).all (fun c => decide (at1 c i = at1 (fst0 l) i)) = true
  · rw [if_pos g] at hs
    right
    rw [List.take_length, List.all_eq_true] at g
    have := g x hx
    rw [decide_eq_true_eq] at this
    rw [this]
    unfold at1
    rw [hs]
  · rw [if_neg g] at hs
    left
    unfold at1
    rw [hs]; rfl
def smallC (l : List (List UInt8)) (i : Nat) : List UInt8 := (superV l).take i ++ [(fst0 l).getD i 0] ++ (superV l).drop (i + 1)
theorem small_at {l : List (List UInt8)} {i : Nat} (hi : i < (superV l).length) : (smallC l i).getD i 0 = (fst0 l).getD i 0 := by
  unfold smallC
  rw [List.getD_eq_getElem?_getD, List.append_assoc, List.getElem?_append_right (by rw [List.length_take]; omega), List.length_take]
  have : i - min i (superV l).length = 0 := by omega
  rw [this]; rfl
theorem small_len {l : List (List UInt8)} {i : Nat} (hi : i < (superV l).length) : (smallC l i).length = (superV l).length := by
  unfold smallC
  simp only [List.length_append, List.length_take, List.length_drop, List.length_cons, List.length_nil]; omega
theorem small_no {l : List (List UInt8)} (h : okS l = true) {i : Nat} (hi : i < (superV l).length) (hd : (((superV l).getD i 0).toNat : Int) = 45) : ∃ x, x ∈ l ∧ (hasI2 (smallC l i) x).1 = false := by
  obtain ⟨h0, h1, h8, hb⟩ := okS_of h
  have hi' : i < (fst0 l).length := by rw [superV_len] at hi; exact hi
  have hs := superV_at hi'
  have hbit := hb _ (fst0_mem h0)
  have hb1 : at1 (fst0 l) i = 48 ∨ at1 (fst0 l) i = 49 := by
    have ha : (fst0 l).all bit = true := by simp only [bitsB, Bool.and_eq_true] at hbit; exact hbit.1
    have := List.all_eq_true.1 ha _ (List.getElem_mem hi')
    simp only [bit, Bool.or_eq_true, decide_eq_true_eq] at this
    unfold at1
    rw [List.getD_eq_getElem?_getD, List.getElem?_eq_getElem hi']
    exact this
  by_cases g : (l.take l.length).all (fun c => decide (at1 c i = at1 (fst0 l) i)) = true
  · exfalso
    unfold supAt at hs
    rw [if_pos g] at hs
    rw [hs] at hd
    unfold at1 at hb1
    omega
  · rw [Bool.not_eq_true, List.take_length, List.all_eq_false] at g
    obtain ⟨x, hx, hne⟩ := g
    rw [decide_eq_true_eq] at hne
    refine ⟨x, hx, ?_⟩
    have hC : hasC (smallC l i) x = false := by
      unfold hasC
      refine allN_false (k := i) (by rw [small_len hi]; exact hi) ?_
      unfold okAt
      have e : at1 (smallC l i) i = at1 (fst0 l) i := by unfold at1; rw [small_at hi]
      rw [e, decide_eq_false (by omega), decide_eq_false (fun e2 => hne e2.symm)]; rfl
    unfold hasI2
    split
    · exact hC
    · rfl
end Go.Proofs.Ytochebmkfdfbhaa
