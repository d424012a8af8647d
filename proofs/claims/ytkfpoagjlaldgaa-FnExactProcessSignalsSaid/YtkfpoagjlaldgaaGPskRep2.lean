/- Contracts of the functions of the program and of the reference, each proved by a walk through its code. -/
import Derived.Test.YtkfpoagjlaldgaaGPskRep
set_option linter.all false
set_option maxRecDepth 20000
namespace Go.Proofs.Ytkfpoagjlaldgaa
open Go.RowKit
section
variable {α : Type}

/-- The cells of a slice's elements, one behind the other. -/
theorem SL.news {K : Nat → Prop} {e : TypeId} {t : Ty α} {w : World} {p : Addr} {n cap : Nat} {l : List α} (h : SL K e t w (.slice (some p) n cap) l) :
    ∃ news : List Value, n = l.length ∧ news.length = l.length * t.size ∧ (∀ j u, news[j]? = some u → w.cell? (p.add j) = some u) ∧ ∀ i x, l[i]? = some x → t.rep K w ((news.drop (i * t.size)).take t.size) x := by
  obtain ⟨a', cap', hv, h1, h2, h3, h4⟩ := h
  simp only [Value.slice.injEq] at hv
  obtain ⟨rfl, rfl, rfl⟩ := hv
  obtain ⟨hn, hK, arr, fz, hh, hle, hel⟩ := h4 p rfl
  have hsz : l.length * t.size ≤ cap * t.size := Nat.mul_le_mul_right _ h1
  refine ⟨(arr.toList.drop p.off).take (l.length * t.size), rfl, ?_, ?_, ?_⟩
  · simp; omega
  · intro j u hu
    rw [List.getElem?_take] at hu
    split at hu
    · simp only [List.getElem?_drop] at hu
      obtain ⟨g, off, sp⟩ := p
      simp only at hn; subst hn
      have hadd : (⟨g, off, none⟩ : Addr).add j = ⟨g, off + j, none⟩ := by unfold Addr.add; split <;> simp_all
      rw [hadd]
      simp at hu hh
      simp [World.cell?, hh, hu]
    · cases hu
  · intro i x hx
    have hi : i < l.length := (List.getElem?_eq_some_iff.1 hx).1
    have hle2 : (i + 1) * t.size ≤ l.length * t.size := Nat.mul_le_mul_right _ hi
    rw [Nat.succ_mul] at hle2
    have : ((((arr.toList.drop p.off).take (l.length * t.size)).drop (i * t.size)).take t.size) = ((arr.toList.drop (p.off + i * t.size)).take t.size) := by
      rw [List.drop_take, List.take_take, List.drop_drop]
      congr 1
      omega
    rw [this]
    exact hel i x hx

theorem news_one {K : Nat → Prop} {t : Ty α} {w : World} {l : List α} {news : List Value} (hs : 0 < t.size) (hl : news.length = l.length * t.size) (hel : ∀ i x, l[i]? = some x → t.rep K w ((news.drop (i * t.size)).take t.size) x) :
    ∀ u ∈ news, u.oneCell' = true := by
  intro u hu
  obtain ⟨j, hj, rfl⟩ := List.getElem_of_mem hu
  have hi : j / t.size < l.length := (Nat.div_lt_iff_lt_mul hs).2 (by omega)
  refine t.one (hel (j / t.size) _ (List.getElem?_eq_getElem hi)) _ ?_
  refine List.mem_of_getElem? (i := j % t.size) ?_
  rw [List.getElem?_take, if_pos (Nat.mod_lt _ hs), List.getElem?_drop]
  have : j / t.size * t.size + j % t.size = j := by rw [Nat.mul_comm]; exact Nat.div_add_mod j t.size
  rw [this]
  exact List.getElem?_eq_getElem hj

/-- What an append of several elements leaves of an owned slice. -/
theorem Own.app {G K : Nat → Prop} {e : TypeId} {t : Ty α} {w w' : World} {v v' : Value} {l l2 : List α} {xs news : List Value}
    (ho : w.ownsRow 0 e t.size v l.length xs) (hG : ∀ g, v.ownBlock = some g → G g) (hel : ∀ i x, l[i]? = some x → t.rep (fun k => K k ∧ v.ownBlock ≠ some k) w ((xs.drop (i * t.size)).take t.size) x)
    (hx : ∀ i x, l2[i]? = some x → t.rep (fun k => K k ∧ v.ownBlock ≠ some k) w ((news.drop (i * t.size)).take t.size) x)
    (ho' : w'.ownsRow 0 e t.size v' (l.length + l2.length) (xs ++ news)) (hgr : w.grownBy w' v.ownBlock) (hat : v'.ownBlock = v.ownBlock ∨ v'.ownBlock = some w.heap.size) (hN : G w.heap.size) :
    Own G K e t w' v' (l ++ l2) := by
  have f : Fr v.ownBlock.toList w w' := Fr.of_grown hgr (fun k hk => by simp [hk])
  have hs : ∀ k, k ∈ v.ownBlock.toList → ¬ (K k ∧ v.ownBlock ≠ some k) := fun k hk h => h.2 (by simpa using hk)
  have hturn : ∀ {cs y}, t.rep (fun k => K k ∧ v.ownBlock ≠ some k) w cs y → t.rep (fun k => K k ∧ v'.ownBlock ≠ some k) w' cs y := by
    intro cs y hy
    have h1 := t.bound hy
    have h2 := t.frame h1 f (fun k hk h => hs k hk h.1)
    refine t.mono h2 (fun k hk => ⟨hk.1.1, ?_⟩)
    rcases hat with h | h
    · rw [h]; exact hk.1.2
    · rw [h]; intro hc; simp at hc; omega
  refine ⟨xs ++ news, by simpa using ho', ?_, fun i y hy => ?_⟩
  · intro g hg
    rcases hat with h | h
    · exact hG g (h ▸ hg)
    · rw [h] at hg; simp at hg; subst hg; exact hN
  · have hxs : xs.length = l.length * t.size := ho.1
    by_cases hi : i < l.length
    · rw [List.getElem?_append_left hi] at hy
      have hle : (i + 1) * t.size ≤ l.length * t.size := Nat.mul_le_mul_right _ hi
      rw [Nat.succ_mul] at hle
      have : (((xs ++ news).drop (i * t.size)).take t.size) = ((xs.drop (i * t.size)).take t.size) := by
        rw [List.drop_append_of_le_length (by omega), List.take_append_of_le_length (by simp; omega)]
      rw [this]
      exact hturn (hel i y hy)
    · rw [List.getElem?_append_right (by omega)] at hy
      have : (xs ++ news).drop (i * t.size) = news.drop ((i - l.length) * t.size) := by
        rw [List.drop_append, List.drop_eq_nil_of_le (by rw [hxs]; exact Nat.mul_le_mul_right _ (by omega)), List.nil_append, hxs, Nat.sub_mul]
      rw [this]
      exact hturn (hx _ y hy)

/-- append(s, x...): the elements of a slice behind an owned one. -/
theorem wp_append_OwnMany {P : Program} {w : World} {o : Oper} {a : Act} {C : Act → World → Prop} {Q : Exit → Act → World → Prop} (s x : Operand) (t : TypeId)
    (ho : o.op = .call { callee := .builtin .append, args := #[s, x], argTypes := #[t, t] })
    {G K : Nat → Prop} {e bytes : Nat} {T : Ty α} (hi : AppInfo P t e T.size bytes) {v : Value} {l l2 : List α} (hs : a.eval s = v) (hown : Own G K e T w v l)
    {vx : Value} (hx : a.eval x = vx) {Kx : Nat → Prop} (hsl : SL Kx e T w vx l2) (hKx : ∀ cs x, T.rep Kx w cs x → T.rep (fun k => K k ∧ v.ownBlock ≠ some k) w cs x)
    (h : ∀ p cap w', Own G K e T w' (.slice p (l.length + l2.length) cap) (l ++ l2) → Fr v.ownBlock.toList w w' → ((Value.slice p (l.length + l2.length) cap).ownBlock = v.ownBlock ∨ (Value.slice p (l.length + l2.length) cap).ownBlock = some w.heap.size) → C (a.put o.dst (.slice p (l.length + l2.length) cap)) w')
    (hN : G w.heap.size) (h63 : l.length + l2.length ≤ maxLen) (hbytes : (l.length + l2.length) * bytes ≤ 140737488355328) : o.wp P a w C Q := by
  obtain ⟨ht, i, z, hi, hz0, hz1, hz2, hz3, hz4⟩ := hi
  obtain ⟨xs, hr, hG, hel⟩ := hown
  have hrun : ∃ (v' : Value) (w' : World) (news : List Value), (Builtin.append_ #[t, t] o.type #[v, vx]).run P w = .ok v' w' ∧ news.length = l2.length * T.size ∧ (∀ i x, l2[i]? = some x → T.rep (fun k => K k ∧ v.ownBlock ≠ some k) w ((news.drop (i * T.size)).take T.size) x) ∧
      w'.ownsRow 0 e T.size v' (l.length + l2.length) (xs ++ news) ∧ w.grownBy w' v.ownBlock ∧ (v'.ownBlock = v.ownBlock ∨ v'.ownBlock = some w.heap.size) := by
    obtain ⟨ax, cx, rfl, hlc, hcm, hsl'⟩ := hsl.form
    cases ax with
    | none =>
      obtain ⟨_, _, hv, hc0, _, hn0, _⟩ := hsl
      simp only [Value.slice.injEq] at hv
      obtain ⟨rfl, _, rfl⟩ := hv
      have hc : cx = 0 := hn0 rfl
      have hl2 : l2 = [] := List.eq_nil_of_length_eq_zero (by omega)
      subst hl2
      obtain ⟨v', w', hq, ho', hgr, hat⟩ : ∃ v' w', (Builtin.append_ #[t, t] o.type #[v, .slice none 0 cx]).run P w = .ok v' w' ∧ w'.ownsRow 0 e T.size v' l.length xs ∧ w.grownBy w' v.ownBlock ∧ (v'.ownBlock = v.ownBlock ∨ v'.ownBlock = some w.heap.size) := by
        rcases hr.2 with ⟨rfl, h0⟩ | ⟨g, cap, cur, rfl, hb, hgg, hle, hm, hsz, htake⟩
        · refine ⟨.slice none 0 0, w, ?_, ?_, ⟨rfl, rfl, rfl, Nat.le_refl _, fun _ _ _ => rfl⟩, .inl rfl⟩
          · simp [Builtin.append_, run_underlying ht, sizeOf, typeInfo, hi, Builtin.lenOf, Builtin.firstCells]
          · rw [h0]; exact ⟨by rw [hr.1, h0], .inl ⟨rfl, rfl⟩⟩
        · refine ⟨.slice (some ⟨g, 0, none⟩) l.length cap, w, ?_, hr, ⟨rfl, rfl, rfl, Nat.le_refl _, fun _ _ _ => rfl⟩, .inl rfl⟩
          simp [Builtin.append_, run_underlying ht, sizeOf, typeInfo, hi, Builtin.lenOf, Builtin.firstCells, hle, storeCells]
      exact ⟨v', w', [], hq, by simp, fun i x hx => by simp at hx, by simpa using ho', hgr, hat⟩
    | some p =>
      obtain ⟨news, hn, hnl, hnc, hne⟩ := hsl'.news
      have hone := news_one (by omega) hnl hne
      obtain ⟨v', w', hq, ho', hgr, _, hat⟩ := run_append_own_at (P := P) w 0 t o.type e i z T.size bytes ht hi hz0 hz1 hz2 hz3 hz4 v l.length xs hr p l2.length cx news hnl hnc hone h63 hbytes (Nat.zero_le _)
      exact ⟨v', w', news, hq, hnl, fun i x hx => hKx _ _ (hne i x hx), ho', hgr, hat⟩
  obtain ⟨v', w', news, hrun, hnl, hne, ho', hgr, hat⟩ := hrun
  have hO := Own.app hr hG hel hne ho' hgr hat hN
  obtain ⟨p, cap, rfl⟩ := hO.form
  simp only [List.length_append] at *
  unfold Oper.wp execOp
  simp only [ho, resolve, invoke, builtin, Sem.run_bind, Sem.run_pure, Result.andThen_ok, List.map_toArray, List.map_cons, List.map_nil, hs, hx, hrun]
  exact h p cap w' hO (Fr.of_grown hgr (fun k hk => by simp [hk])) hat

theorem wpList_append_OwnMany {P : Program} {w : World} {ops : Array Oper} {rest : List Oper} {o : Oper} {a : Act} {Q : Exit → Act → World → Prop} (hgd : o.guard = none) (s x : Operand) (t : TypeId)
    (ho : o.op = .call { callee := .builtin .append, args := #[s, x], argTypes := #[t, t] })
    {G K : Nat → Prop} {e bytes : Nat} {T : Ty α} (hi : AppInfo P t e T.size bytes) {v : Value} {l l2 : List α} (hs : a.eval s = v) (hown : Own G K e T w v l)
    {vx : Value} (hx : a.eval x = vx) {Kx : Nat → Prop} (hsl : SL Kx e T w vx l2) (hKx : ∀ cs x, T.rep Kx w cs x → T.rep (fun k => K k ∧ v.ownBlock ≠ some k) w cs x)
    (h : ∀ p cap w', Own G K e T w' (.slice p (l.length + l2.length) cap) (l ++ l2) → Fr v.ownBlock.toList w w' → ((Value.slice p (l.length + l2.length) cap).ownBlock = v.ownBlock ∨ (Value.slice p (l.length + l2.length) cap).ownBlock = some w.heap.size) → wpList P ops Q rest (a.put o.dst (.slice p (l.length + l2.length) cap)) w')
    (hN : G w.heap.size) (h63 : l.length + l2.length ≤ maxLen) (hbytes : (l.length + l2.length) * bytes ≤ 140737488355328) : wpList P ops Q (o :: rest) a w :=
  wpList_plain hgd fun _ hK => wp_append_OwnMany s x t ho hi hs hown hx hsl hKx (fun p cap w' h1 h2 h3 => hK _ _ (h p cap w' h1 h2 h3)) hN h63 hbytes
end
end Go.Proofs.Ytkfpoagjlaldgaa

