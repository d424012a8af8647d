/- Plain law: a firing without loops is undone in the reversed net. -/
import Derived.Test.YthhfhpeeinohiaaW26
set_option linter.all false
namespace Go.Proofs.Ythhfhpeeinohiaa
open Go.RowKit

theorem putAll_free : ∀ (l : List Int) (m m' : List UInt8), InM l m → putAll l m = some m' → ∀ p, p ∈ l → at0 m p ≠ 49
  | [], m, m', _, _, p, hp => by simp at hp
  | q :: qs, m, m', h, hs, p, hp => by
    have hq := h q (List.mem_cons_self ..)
    rw [putAll] at hs
    split at hs
    · cases hs
    · rename_i h49
      rcases List.mem_cons.1 hp with rfl | hp'
      · simpa using h49
      · have := putAll_free qs (m.set q.toNat 49) m' (fun x hx => by rw [List.length_set]; exact h x (List.mem_cons_of_mem _ hx)) hs p hp'
        unfold at0 at this ⊢
        rw [getD_set _ _ _ _ (by omega)] at this
        by_cases e : q.toNat = p.toNat
        · rw [if_pos e] at this; exact absurd rfl this
        · rwa [if_neg e] at this
theorem putAll_ok : ∀ (l : List Int) (m : List UInt8), InM l m → l.Nodup → (∀ p, p ∈ l → at0 m p ≠ 49) → (putAll l m).isSome = true
  | [], m, _, _, _ => rfl
  | q :: qs, m, h, hn, hf => by
    have hq := h q (List.mem_cons_self ..)
    have hq49 := hf q (List.mem_cons_self ..)
    rw [putAll, if_neg (by simpa using hq49)]
    have hn2 := List.nodup_cons.1 hn
    refine putAll_ok qs _ (fun x hx => by rw [List.length_set]; exact h x (List.mem_cons_of_mem _ hx)) hn2.2 (fun p hp => ?_)
    have hp0 := (h p (List.mem_cons_of_mem _ hp)).1
    have hne : ¬ q.toNat = p.toNat := fun e => hn2.1 (by have : q = p := by omega
                                                         rw [this]; exact hp)
    have := hf p (List.mem_cons_of_mem _ hp)
    unfold at0 at this ⊢
    rw [getD_set _ _ _ _ (by omega), if_neg hne]
    exact this
theorem rising_lt {l : List Int} {lo hi : Int} (h : rising l lo hi = true) : ∀ (j i : Nat) (hj : j < l.length) (hi : i < j), l[i] < l[j]
  | 0, i, hj, hij => by omega
  | j + 1, i, hj, hij => by
    have h2 : l[j] < l[j + 1] := by
      unfold rising allN at h
      have := List.all_eq_true.1 h (j + 1) (List.mem_range.2 hj)
      simp only [riseAt, Bool.and_eq_true, Bool.not_eq_true', Bool.and_eq_false_iff, decide_eq_true_eq, decide_eq_false_iff_not] at this
      have h3 := this.2
      rw [getD_at hj, show j + 1 - 1 = j from rfl, getD_at (by omega)] at h3
      omega
    by_cases e : i = j
    · subst e; exact h2
    · exact Int.lt_trans (rising_lt h j i (by omega) (by omega)) h2
theorem rising_nodup {l : List Int} {lo hi : Int} (h : rising l lo hi = true) : l.Nodup := by
  rw [List.Nodup, List.pairwise_iff_getElem]
  intro i j hi hj hij
  have := rising_lt h j i hj hij
  omega
theorem good_nodup {N : Net} (hg : goodN N = true) : ∀ t, t ∈ N.ts → t.pre.Nodup ∧ t.post.Nodup := by
  intro x hx
  simp only [goodN, Bool.and_eq_true, Bool.not_eq_true', List.any_eq_false, decide_eq_true_eq] at hg
  have h1 := hg.2 x hx
  simp only [badT, Bool.or_eq_true, decide_eq_true_eq, not_or, Bool.not_eq_true', Bool.not_eq_false] at h1
  exact ⟨rising_nodup h1.1.2, rising_nodup h1.2⟩
theorem bits_byte {m : List UInt8} {n : Int} {k : Nat} (hb : bitsB m n = true) (hk : k < m.length) : m.getD k 0 = 48 ∨ m.getD k 0 = 49 := by
  have := bits_at hb (p := (k : Int)) ⟨by omega, by omega⟩
  unfold at0 at this
  rw [Int.toNat_natCast] at this
  rcases this with h | h
  · left; exact UInt8.toNat_inj.1 (by show (m.getD k 0).toNat = 48; omega)
  · right; exact UInt8.toNat_inj.1 (by show (m.getD k 0).toNat = 49; omega)
theorem undone {N : Net} {m : List UInt8} {i : Nat} (hi : i < N.ts.length) (h : (FireI N m (i : Int)).2 = true) (hr : goodN (revN N) = true) (hl : ∀ p, p ∈ N.ts[i].pre → hasI N.ts[i].post p = false) :
    FireI (revN N) (FireI N m (i : Int)).1 (i : Int) = (m, true) := by
  obtain ⟨hg, hb, j, hj, hij, he, hf, e⟩ := FireI_ok h
  obtain rfl : i = j := by omega
  have hM := good_netM hg hb _ (List.getElem_mem hi)
  have hnd := good_nodup hg _ (List.getElem_mem hi)
  have hbF := FireI_bits h
  have hlF := FireI_len h
  rw [e] at hbF hlF ⊢
  have hri : i < (revN N).ts.length := by show i < (N.ts.map revT).length; rw [List.length_map]; exact hi
  have hrt : (revN N).ts[i] = revT N.ts[i] := List.getElem_map ..
  have hpre' : InM N.ts[i].pre (fireT N.ts[i] m).1 := fun p hp => by rw [hlF]; exact hM.1 p hp
  have hpost' : InM N.ts[i].post (fireT N.ts[i] m).1 := fun p hp => by rw [hlF]; exact hM.2 p hp
  have hval : ∀ k : Nat, (fireT N.ts[i] m).1.getD k 0 = if hasI N.ts[i].post (k : Int) = true then 49 else if hasI N.ts[i].pre (k : Int) = true then 48 else m.getD k 0 := fun k => fireT_at k hM.1 hM.2 hf
  have hen : enabledI (revT N.ts[i]) (fireT N.ts[i] m).1 = true := by
    unfold enabledI
    rw [Bool.not_eq_true', List.any_eq_false]
    intro p hp
    have h0 := (hM.2 p hp).1
    have : (p.toNat : Int) = p := by omega
    unfold at0
    rw [hval, this, if_pos (show hasI N.ts[i].post p = true from hasI_mem.2 hp)]
    decide
  have hsome : (putAll N.ts[i].pre (clearAll N.ts[i].post (fireT N.ts[i] m).1)).isSome = true := by
    refine putAll_ok _ _ (inM_clear hpre') hnd.1 (fun p hp => ?_)
    have h0 := (hM.1 p hp).1
    have h2 : (p.toNat : Int) = p := by omega
    rw [at0_clear hpost' p h0, hl p hp, if_neg Bool.false_ne_true]
    unfold at0
    rw [hval, h2, hl p hp, if_neg Bool.false_ne_true, if_pos (hasI_mem.2 hp)]
    decide
  have hf2 : (fireT (revT N.ts[i]) (fireT N.ts[i] m).1).2 = true := fireT_of hsome
  have hR : FireI (revN N) (fireT N.ts[i] m).1 (i : Int) = fireT (revT N.ts[i]) (fireT N.ts[i] m).1 := by
    rw [FireI_mk hr hbF hri (by rw [hrt]; exact hen), hrt]
  rw [hR]
  have hback : (fireT (revT N.ts[i]) (fireT N.ts[i] m).1).1 = m := by
    have hl3 := fireT_len hf2
    refine List.ext_getElem (hl3.trans hlF) fun k ha hk => ?_
    have h2 := fireT_at (t := revT N.ts[i]) k hpost' hpre' hf2
    rw [hval] at h2
    rw [List.getD_eq_getElem?_getD, List.getElem?_eq_getElem ha, Option.getD_some] at h2
    rw [h2]
    have hmk : m.getD k 0 = m[k] := by rw [List.getD_eq_getElem?_getD, List.getElem?_eq_getElem hk]; rfl
    rw [← hmk]
    show (if hasI N.ts[i].pre (k : Int) = true then 49 else if hasI N.ts[i].post (k : Int) = true then 48 else _) = _
    by_cases a : hasI N.ts[i].pre (k : Int) = true
    · rw [if_pos a]
      unfold enabledI at he
      rw [Bool.not_eq_true', List.any_eq_false] at he
      have h3 := he k (hasI_mem.1 a)
      rcases bits_byte hb hk with h4 | h4
      · exfalso; apply h3; unfold at0; rw [Int.toNat_natCast, h4]; decide
      · exact h4.symm
    · rw [if_neg a]
      by_cases b : hasI N.ts[i].post (k : Int) = true
      · rw [if_pos b]
        have h3 := putAll_free _ _ _ (inM_clear hM.2) (fireT_some hf) (k : Int) (hasI_mem.1 b)
        rw [at0_clear hM.1 _ (by omega), if_neg a] at h3
        rcases bits_byte hb hk with h4 | h4
        · exact h4.symm
        · exfalso; apply h3; unfold at0; rw [Int.toNat_natCast, h4]; decide
      · rw [if_neg b, if_neg b, if_neg a]
  exact Prod.ext hback hf2
theorem revR_yes {N : Net} (h : (revR N).2 = true) : goodN N = true ∧ goodN (revN N) = true ∧ (revR N).1 = revN N := by
  unfold revR at h ⊢
  by_cases g : goodN N = true
  · rw [if_pos g] at h ⊢
    have h' : goodN (revN N) = true := h
    refine ⟨g, h', ?_⟩
    show netOf (revN N) = _
    unfold netOf
    rw [if_pos h']
  · rw [if_neg g] at h; cases h
theorem unionR_B {a b : Net} (ha : NetB a) (hb : NetB b) : NetB (unionR a b).1 := by
  have h0 : NetB noNet := ⟨by decide, by decide, fun t ht => by cases ht⟩
  unfold unionR
  split
  · rename_i g
    rw [Bool.and_eq_true] at g
    show NetB (netOf _)
    unfold netOf
    split
    · exact unionN_B ha hb g.1 g.2
    · exact h0
  · exact h0
theorem enR_len (N : Net) (m : List UInt8) : (enR N m).1.length ≤ N.ts.length := by
  unfold enR
  split
  · exact readyL_len _ _ _
  · exact Nat.zero_le _
end Go.Proofs.Ythhfhpeeinohiaa
