/- Plain law: what firing does to a marking, and two independent firings in either order. -/
import Derived.Test.YthhfhpeeinohiaaW19
set_option linter.all false
namespace Go.Proofs.Ythhfhpeeinohiaa
open Go.RowKit

theorem getD_set (m : List UInt8) (i k : Nat) (b : UInt8) (h : i < m.length) : (m.set i b).getD k 0 = if i = k then b else m.getD k 0 := by
  simp only [List.getD_eq_getElem?_getD, List.getElem?_set]
  by_cases e : i = k
  · subst e; simp [h]
  · simp [e]
theorem has_cons (x : Int) (l : List Int) (n : Int) : hasI (x :: l) n = (decide (x = n) || hasI l n) := rfl
theorem clearAll_at : ∀ (l : List Int) (m : List UInt8) (k : Nat), InM l m → (clearAll l m).getD k 0 = if hasI l (k : Int) = true then 48 else m.getD k 0
  | [], m, k, h => rfl
  | p :: ps, m, k, h => by
    have hp := h p (List.mem_cons_self ..)
    have := clearAll_at ps (m.set p.toNat 48) k (fun q hq => by rw [List.length_set]; exact h q (List.mem_cons_of_mem _ hq))
    show (clearAll ps (m.set p.toNat 48)).getD k 0 = _
    rw [this, getD_set _ _ _ _ (by omega), has_cons]
    by_cases e : p.toNat = k
    · have e2 : p = (k : Int) := by omega
      simp [e, e2]
    · have e2 : ¬ p = (k : Int) := by omega
      simp [e, e2]
theorem putAll_at : ∀ (l : List Int) (m m' : List UInt8) (k : Nat), InM l m → putAll l m = some m' → m'.getD k 0 = if hasI l (k : Int) = true then 49 else m.getD k 0
  | [], m, m', k, h, hs => by rw [putAll] at hs; cases hs; rfl
  | p :: ps, m, m', k, h, hs => by
    have hp := h p (List.mem_cons_self ..)
    rw [putAll] at hs
    split at hs
    · cases hs
    · have := putAll_at ps (m.set p.toNat 49) m' k (fun q hq => by rw [List.length_set]; exact h q (List.mem_cons_of_mem _ hq)) hs
      rw [this, getD_set _ _ _ _ (by omega), has_cons]
      by_cases e : p.toNat = k
      · have e2 : p = (k : Int) := by omega
        simp [e, e2]
      · have e2 : ¬ p = (k : Int) := by omega
        simp [e, e2]
theorem putAll_some : ∀ (l : List Int) (m n : List UInt8), InM l m → InM l n → (∀ p, p ∈ l → at0 m p = at0 n p) → (putAll l m).isSome = (putAll l n).isSome
  | [], m, n, _, _, _ => rfl
  | p :: ps, m, n, hm, hn, h => by
    have hp := hm p (List.mem_cons_self ..)
    have hq := hn p (List.mem_cons_self ..)
    rw [putAll, putAll, h p (List.mem_cons_self ..)]
    split
    · rfl
    · refine putAll_some ps _ _ (fun q hq => by rw [List.length_set]; exact hm q (List.mem_cons_of_mem _ hq)) (fun q hq => by rw [List.length_set]; exact hn q (List.mem_cons_of_mem _ hq)) (fun q hq' => ?_)
      have e := h q (List.mem_cons_of_mem _ hq')
      unfold at0 at e ⊢
      rw [getD_set _ _ _ _ (by omega), getD_set _ _ _ _ (by omega)]
      by_cases e2 : p.toNat = q.toNat
      · rw [if_pos e2, if_pos e2]
      · rw [if_neg e2, if_neg e2]; exact e
theorem fireT_some {t : Tn} {m : List UInt8} (h : (fireT t m).2 = true) : putAll t.post (clearAll t.pre m) = some (fireT t m).1 := by
  unfold fireT at h ⊢
  cases hp : putAll t.post (clearAll t.pre m) with
  | none => rw [hp] at h; cases h
  | some m' => rfl
theorem fireT_of {t : Tn} {m : List UInt8} (h : (putAll t.post (clearAll t.pre m)).isSome = true) : (fireT t m).2 = true := by
  unfold fireT
  cases hp : putAll t.post (clearAll t.pre m) with
  | none => rw [hp] at h; cases h
  | some m' => rfl
theorem inM_clear {l p : List Int} {m : List UInt8} (h : InM l m) : InM l (clearAll p m) := fun q hq => by rw [clearAll_len]; exact h q hq
theorem fireT_at {t : Tn} {m : List UInt8} (k : Nat) (hp : InM t.pre m) (hq : InM t.post m) (h : (fireT t m).2 = true) : (fireT t m).1.getD k 0 = if hasI t.post (k : Int) = true then 49 else if hasI t.pre (k : Int) = true then 48 else m.getD k 0 := by
  rw [putAll_at _ _ _ k (inM_clear hq) (fireT_some h), clearAll_at _ _ k hp]
theorem hasI_mem {l : List Int} {n : Int} : hasI l n = true ↔ n ∈ l := by
  unfold hasI
  rw [List.any_eq_true]
  constructor
  · rintro ⟨x, hx, e⟩
    rw [decide_eq_true_eq] at e
    exact e ▸ hx
  · intro h; exact ⟨n, h, by simp⟩
theorem share_no {a b : List Int} (h : shareI a b = false) {n : Int} (ha : n ∈ a) (hb : n ∈ b) : False := by
  unfold shareI at h
  rw [List.any_eq_false] at h
  exact h n ha (List.any_eq_true.2 ⟨n, hb, by simp⟩)

/-- What a firing that succeeds says. -/
theorem FireI_ok {N : Net} {m : List UInt8} {t : Int} (h : (FireI N m t).2 = true) : goodN N = true ∧ bitsB m N.places = true ∧ ∃ i : Nat, ∃ hi : i < N.ts.length, t = i ∧ enabledI N.ts[i] m = true ∧ (fireT N.ts[i] m).2 = true ∧ FireI N m t = fireT N.ts[i] m := by
  by_cases hg : (goodN N && bitsB m N.places) = true
  · rw [FireI_yes hg] at h ⊢
    have hg2 := Bool.and_eq_true_iff.1 hg
    refine ⟨hg2.1, hg2.2, ?_⟩
    by_cases hr : (decide (0 ≤ t) && decide (t ≤ (N.ts.length : Int) - 1)) = true
    · obtain ⟨i, rfl⟩ : ∃ i : Nat, t = i := ⟨t.toNat, by simp at hr; omega⟩
      have hi : i < N.ts.length := by simp at hr; omega
      rw [fireI_at hi] at h ⊢
      by_cases he : enabledI N.ts[i] m = true
      · rw [if_pos he] at h ⊢; exact ⟨i, hi, rfl, he, h, rfl⟩
      · rw [if_neg he] at h; cases h
    · rw [fireI_out (Bool.eq_false_iff.2 hr)] at h; cases h
  · rw [FireI_no (Bool.eq_false_iff.2 hg)] at h; cases h
theorem FireI_mk {N : Net} {m : List UInt8} {i : Nat} (hg : goodN N = true) (hb : bitsB m N.places = true) (hi : i < N.ts.length) (he : enabledI N.ts[i] m = true) : FireI N m (i : Int) = fireT N.ts[i] m := by
  rw [FireI_yes (by rw [hg, hb]; rfl), fireI_at hi, if_pos he]
theorem FireI_bits {N : Net} {m : List UInt8} {t : Int} (h : (FireI N m t).2 = true) : bitsB (FireI N m t).1 N.places = true := by
  obtain ⟨_, hb, i, hi, _, _, h2, e⟩ := FireI_ok h
  rw [e]; exact fireT_bits hb h2
theorem FireI_len {N : Net} {m : List UInt8} {t : Int} (h : (FireI N m t).2 = true) : (FireI N m t).1.length = m.length := by
  obtain ⟨_, hb, i, hi, _, _, h2, e⟩ := FireI_ok h
  rw [e]; exact fireT_len h2

/-- The places a firing leaves alone. -/
theorem fireT_out {t : Tn} {m : List UInt8} {p : Int} (hp : InM t.pre m) (hq : InM t.post m) (h : (fireT t m).2 = true) (h0 : 0 ≤ p) (hn : ¬ p ∈ t.pre ++ t.post) : at0 (fireT t m).1 p = at0 m p := by
  unfold at0
  have e : (p.toNat : Int) = p := by omega
  rw [List.mem_append, not_or] at hn
  rw [fireT_at p.toNat hp hq h, e, if_neg (fun hh => hn.2 (hasI_mem.1 hh)), if_neg (fun hh => hn.1 (hasI_mem.1 hh))]
theorem enabled_congr {t : Tn} {m n : List UInt8} (h : ∀ p, p ∈ t.pre → at0 m p = at0 n p) (he : enabledI t m = true) : enabledI t n = true := by
  unfold enabledI at he ⊢
  rw [Bool.not_eq_true'] at he ⊢
  rw [List.any_eq_false] at he ⊢
  exact fun p hp => by rw [← h p hp]; exact he p hp
theorem at0_clear {l : List Int} {m : List UInt8} (h : InM l m) (p : Int) (h0 : 0 ≤ p) : at0 (clearAll l m) p = if hasI l p = true then 48 else at0 m p := by
  unfold at0
  have e : (p.toNat : Int) = p := by omega
  rw [clearAll_at _ _ _ h, e]
  split <;> rfl
theorem fire_after {t u : Tn} {m : List UInt8} (htp : InM t.pre m) (htq : InM t.post m) (hup : InM u.pre m) (huq : InM u.post m) (ht : (fireT t m).2 = true) (hu : (fireT u m).2 = true) (hue : enabledI u m = true)
    (hd : shareI (t.pre ++ t.post) (u.pre ++ u.post) = false) : enabledI u (fireT t m).1 = true ∧ (fireT u (fireT t m).1).2 = true := by
  have hl := fireT_len ht
  have hup' : InM u.pre (fireT t m).1 := fun p hp => by rw [hl]; exact hup p hp
  have huq' : InM u.post (fireT t m).1 := fun p hp => by rw [hl]; exact huq p hp
  have hag : ∀ p, p ∈ u.pre ++ u.post → at0 m p = at0 (fireT t m).1 p := by
    intro p hp
    have h0 : 0 ≤ p := by
      rcases List.mem_append.1 hp with h | h
      · exact (hup p h).1
      · exact (huq p h).1
    exact (fireT_out htp htq ht h0 (fun hh => share_no hd hh hp)).symm
  refine ⟨enabled_congr (fun p hp => hag p (List.mem_append.2 (.inl hp))) hue, fireT_of ?_⟩
  rw [← putAll_some u.post (clearAll u.pre m) (clearAll u.pre (fireT t m).1) (inM_clear huq) (inM_clear huq') (fun p hp => ?_), fireT_some hu]
  · rfl
  · rw [at0_clear hup p (huq p hp).1, at0_clear hup' p (huq p hp).1, hag p (List.mem_append.2 (.inr hp))]
theorem diamond {t u : Tn} {m : List UInt8} (htp : InM t.pre m) (htq : InM t.post m) (hup : InM u.pre m) (huq : InM u.post m) (ht : (fireT t m).2 = true) (hu : (fireT u m).2 = true) (hte : enabledI t m = true) (hue : enabledI u m = true)
    (hd : shareI (t.pre ++ t.post) (u.pre ++ u.post) = false) (hd2 : shareI (u.pre ++ u.post) (t.pre ++ t.post) = false) : (fireT u (fireT t m).1).1 = (fireT t (fireT u m).1).1 := by
  have hl := fireT_len ht
  have hl2 := fireT_len hu
  have hup' : InM u.pre (fireT t m).1 := fun p hp => by rw [hl]; exact hup p hp
  have huq' : InM u.post (fireT t m).1 := fun p hp => by rw [hl]; exact huq p hp
  have htp' : InM t.pre (fireT u m).1 := fun p hp => by rw [hl2]; exact htp p hp
  have htq' : InM t.post (fireT u m).1 := fun p hp => by rw [hl2]; exact htq p hp
  have h1 := (fire_after htp htq hup huq ht hu hue hd).2
  have h2 := (fire_after hup huq htp htq hu ht hte hd2).2
  have hz : ∀ k : Nat, (fireT u (fireT t m).1).1.getD k 0 = (fireT t (fireT u m).1).1.getD k 0 := by
    intro k
    rw [fireT_at k hup' huq' h1, fireT_at k htp htq ht, fireT_at k htp' htq' h2, fireT_at k hup huq hu]
    have hx : ¬ ((k : Int) ∈ t.pre ++ t.post ∧ (k : Int) ∈ u.pre ++ u.post) := fun ⟨a, b⟩ => share_no hd a b
    simp only [List.mem_append, ← hasI_mem] at hx
    by_cases a : hasI t.pre (k : Int) = true <;> by_cases b : hasI t.post (k : Int) = true <;> by_cases c : hasI u.pre (k : Int) = true <;> by_cases d : hasI u.post (k : Int) = true <;> simp [a, b, c, d] at hx ⊢
  refine List.ext_getElem ((fireT_len h1).trans (hl.trans (hl2.symm.trans (fireT_len h2).symm))) fun k ha hb => ?_
  have := hz k
  rw [List.getD_eq_getElem?_getD, List.getD_eq_getElem?_getD, List.getElem?_eq_getElem ha, List.getElem?_eq_getElem hb] at this
  exact this
theorem share_comm {a b : List Int} (h : shareI a b = false) : shareI b a = false := by
  by_cases e : shareI b a = true
  · exfalso
    unfold shareI at e
    rw [List.any_eq_true] at e
    obtain ⟨x, hx, hy⟩ := e
    rw [List.any_eq_true] at hy
    obtain ⟨y, hy, hxy⟩ := hy
    rw [decide_eq_true_eq] at hxy
    subst hxy
    exact share_no h hy hx
  · exact Bool.eq_false_iff.2 e

/-- The law on places. -/
theorem fired_at {N : Net} {m : List UInt8} {i : Nat} (hi : i < N.ts.length) (h : (FireI N m (i : Int)).2 = true) {k : Nat} (hk : (k : Int) < N.places) :
    decide ((((FireI N m (i : Int)).1.getD k 0).toNat : Int) = 49) = (decide (((m.getD k 0).toNat : Int) = 49) && !hasI N.ts[i].pre k || hasI N.ts[i].post k) := by
  obtain ⟨hg, hb, j, hj, hij, he, h2, e⟩ := FireI_ok h
  obtain rfl : i = j := by omega
  have hM := good_netM hg hb _ (List.getElem_mem hi)
  rw [e, fireT_at k hM.1 hM.2 h2]
  by_cases a : hasI N.ts[i].post (k : Int) = true <;> by_cases b : hasI N.ts[i].pre (k : Int) = true <;> simp [a, b]
/-- The law on two firings. -/
theorem fired_two {N : Net} {m : List UInt8} {i j : Nat} (hi : i < N.ts.length) (hj : j < N.ts.length) (h : (FireI N m (i : Int)).2 = true) (h2 : (FireI N m (j : Int)).2 = true) (hin : (indI N (i : Int) (j : Int)).1 = true) :
    (FireI N (FireI N m (i : Int)).1 (j : Int)).2 = true ∧ (FireI N (FireI N m (j : Int)).1 (i : Int)).2 = true ∧ (FireI N (FireI N m (i : Int)).1 (j : Int)).1 = (FireI N (FireI N m (j : Int)).1 (i : Int)).1 := by
  obtain ⟨hg, hb, i', hi', hii, he, hf, e⟩ := FireI_ok h
  obtain rfl : i = i' := by omega
  obtain ⟨_, _, j', hj', hjj, he2, hf2, e2⟩ := FireI_ok h2
  obtain rfl : j = j' := by omega
  have hM := good_netM hg hb _ (List.getElem_mem hi)
  have hM2 := good_netM hg hb _ (List.getElem_mem hj)
  have hb1 := FireI_bits h
  have hb2 := FireI_bits h2
  have hs : shareI (N.ts[i].pre ++ N.ts[i].post) (N.ts[j].pre ++ N.ts[j].post) = false := by
    unfold indI at hin
    split at hin
    · simpa [List.getD_eq_getElem?_getD, List.getElem?_eq_getElem hi, List.getElem?_eq_getElem hj] using hin
    · cases hin
  have ha := fire_after hM.1 hM.2 hM2.1 hM2.2 hf hf2 he2 hs
  have hc := fire_after hM2.1 hM2.2 hM.1 hM.2 hf2 hf he (share_comm hs)
  rw [e] at hb1 ⊢
  rw [e2] at hb2 ⊢
  rw [FireI_mk hg hb1 hj ha.1, FireI_mk hg hb2 hi hc.1]
  exact ⟨ha.2, hc.2, diamond hM.1 hM.2 hM2.1 hM2.2 hf hf2 he he2 hs (share_comm hs)⟩
theorem indI_ok {N : Net} {i j : Nat} (hg : goodN N = true) (hi : i < N.ts.length) (hj : j < N.ts.length) : (indI N (i : Int) (j : Int)).2 = true := by
  have a : inR N (i : Int) = true := by simp [inR]; omega
  have b : inR N (j : Int) = true := by simp [inR]; omega
  rw [indI, hg, a, b]; rfl
end Go.Proofs.Ythhfhpeeinohiaa
