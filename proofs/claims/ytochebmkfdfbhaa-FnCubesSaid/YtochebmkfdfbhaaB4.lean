/- A call by its contract. No program is named here. -/
import Derived.Test.YtochebmkfdfbhaaB3
set_option linter.all false
namespace Go.Proofs.Ytochebmkfdfbhaa
open Go.RowKit

/-- An operation that brings one of several things. -/
structure NOpR (P : Program) (ids : List Nat) (s : ASt) (o : Oper) (f : Nat) (Us : Upd → Prop) : Prop where
  run : ∀ s', Agr ids o s s' → ∀ C U U' a w m, RelM C U s' a w m → (∀ k, k < 8 → U (f + k)) → (∀ j, U' j → U j ∧ (j < f ∨ f + 8 ≤ j)) → dstOk o.dst s'.n = true → ∀ K Q, (∀ u, Us u → ∀ a' w' m', RelM C U' (s'.app o.dst u) a' w' m' → K a' w') → o.wp P a w K Q

/-- Where the callee's names lead: its blocks are the caller's blocks cs. -/
def sigC (cs : List Nat) (i : Nat) : Option Nat := cs[i]?
/-- .. and where the names that it hands back lead. -/
def tauC (cs : List Nat) (f i : Nat) : Nat := (cs[i]?).getD (f + (i - cs.length))
def mapC (cs : List Nat) (f : Nat) : List (Nat × Chunk) → List (Nat × Option Chunk)
  | [] => []
  | (i, c) :: t => (tauC cs f i, some (c.ren (tauC cs f))) :: mapC cs f t
def noneC : List Nat → List (Nat × Option Chunk)
  | [] => []
  | i :: t => (i, none) :: noneC t
def callU (cs : List Nat) (f : Nat) (r : AV) (chs : List (Nat × Chunk)) : Upd := ⟨r.ren (tauC cs f), mapC cs f chs ++ noneC cs⟩
theorem getL_mapC {cs : List Nat} {f id : Nat} {o : Option Chunk} : ∀ {l : List (Nat × Chunk)}, getL id (mapC cs f l) = some o → ∃ i c, getL i l = some c ∧ tauC cs f i = id ∧ o = some (c.ren (tauC cs f))
  | [], h => by simp [mapC, getL] at h
  | (j, d) :: l, h => by
    simp only [mapC, getL_cons] at h
    split at h
    · rename_i e
      simp only [Option.some.injEq] at h
      exact ⟨j, d, by simp [getL_cons], e.symm, h.symm⟩
    · rename_i e
      obtain ⟨i, c, h1, h2, h3⟩ := getL_mapC h
      refine ⟨i, c, ?_, h2, h3⟩
      rw [getL_cons, if_neg]
      · exact h1
      · rintro rfl; exact e h2.symm
theorem getL_mapC_some {cs : List Nat} {f i : Nat} {c : Chunk} : ∀ {l : List (Nat × Chunk)}, getL i l = some c → ∃ c', getL (tauC cs f i) (mapC cs f l) = some c'
  | [], h => by simp [getL] at h
  | (j, d) :: l, h => by
    simp only [mapC, getL_cons] at h ⊢
    by_cases e : tauC cs f i = tauC cs f j
    · exact ⟨_, by rw [if_pos e]⟩
    · rw [if_neg e]
      split at h
      · rename_i e'; subst e'; exact absurd rfl e
      · exact getL_mapC_some h
theorem getL_noneC {id : Nat} {o : Option Chunk} : ∀ {l : List Nat}, getL id (noneC l) = some o → id ∈ l ∧ o = none
  | [], h => by simp [noneC, getL] at h
  | j :: l, h => by
    simp only [noneC, getL_cons] at h
    split at h
    · rename_i e; simp only [Option.some.injEq] at h; exact ⟨by simp [e], h.symm⟩
    · obtain ⟨h1, h2⟩ := getL_noneC h; exact ⟨List.mem_cons_of_mem _ h1, h2⟩
theorem getL_noneC_mem {id : Nat} : ∀ {l : List Nat}, id ∈ l → ∃ o, getL id (noneC l) = some o
  | j :: l, h => by
    simp only [noneC, getL_cons]
    by_cases e : id = j
    · exact ⟨none, by rw [if_pos e]⟩
    · rw [if_neg e]
      exact getL_noneC_mem (by rcases List.mem_cons.1 h with h | h; exact absurd h e; exact h)

section
variable {P : Program} [PT P]
variable {s : ASt} {dst : Option Nat} {ty : Nat} {pos : String} {af : Array Edge} {gd : Option (Nat × Bool)} {f : Nat}

/-- A function that a call enters. -/
def Enters (P : Program) (g : FuncId) : Prop := ∀ (args : Array Value) (w : World), (callFunc g args).run P w = .ok (.enter g args) w

theorem h_callR {g : FuncId} {caps ys as : List AV} {fx : Operand} {xs : Array Operand} {ats : Array TypeId} {chs : List (Nat × Chunk)} {R : AV → List (Nat × Chunk) → Prop} {cs : List Nat} (hen : Enters P g) (hf : s.ev fx = .clo g caps) (hys : xs.toList.map s.ev ++ caps = ys)
    (hspec : ASpec P g as chs R) (hlead : AV.leadsL (sigC cs) as ys) (hlen : chs.length = cs.length) (hch : ∀ (id : Nat) c, getL id chs = some c → ∃ j d, cs[id]? = some j ∧ s.chunk j = some d ∧ c.leads (sigC cs) d)
    (hall : ∀ (id j : Nat), cs[id]? = some j → ∃ d, s.chunk j = some d) (hnd : ∀ (i i' j : Nat), cs[i]? = some j → cs[i']? = some j → i = i') :
    NOpR P cs s ⟨dst, .call { callee := .value fx, args := xs, argTypes := ats }, ty, pos, af, gd⟩ f (fun u => ∃ r chs', R r chs' ∧ u = callU cs f r chs') := by
  refine ⟨fun s' ha C U U' a w m hR hU hU' hd K Q hK => ?_⟩
  have hfx := hR.ev fx
  rw [ha.2.1 fx (by simp [Op.operands, Call.operands]), hf] at hfx
  have hchunk : ∀ j, j ∈ cs → s'.chunk j = s.chunk j := fun j hj => ha.2.2 j hj
  have hblk : ∀ j c p b, s'.chunk j = some c → m j = some p → p.1 = some b → b < w.heap.size := by
    intro j c p b h1 h2 h3
    obtain ⟨q, hq, hr, _⟩ := hR.ch j c h1
    rw [h2] at hq
    obtain rfl : p = q := by simpa using hq
    exact hr.lt h3
  generalize hfv : a.eval fx = fv at hfx
  cases hfx with
  | clo hc1 hc2 =>
    rename_i cv
    have hrun : (execOp a.eval ⟨dst, .call { callee := .value fx, args := xs, argTypes := ats }, ty, pos, af, gd⟩).run P w = .ok (.enter g (xs.map a.eval ++ cv)) w := by
      simp [execOp, resolve, hfv, Deferred.ofValue, invoke, hen (xs.map a.eval ++ cv) w]
    obtain ⟨hl1, hl2⟩ := AV.leadsL_get hlead
    let mc : Nat → Option (Option Nat × Nat) := fun i => (cs[i]?).bind m
    have hmc : ∀ i j, cs[i]? = some j → mc i = m j := fun i j h => by simp [mc, h]
    have harg : ∀ (i : Nat) y, ys[i]? = some y → ARep m (Fz C m s' w) w y ((xs.map a.eval ++ cv).getD i undef) := by
      intro i y hy
      rw [← hys] at hy
      by_cases hi : i < xs.size
      · rw [List.getElem?_append_left (by simpa using hi), List.getElem?_map, Option.map_eq_some_iff] at hy
        obtain ⟨x, hx, rfl⟩ := hy
        have hx' : xs[i]? = some x := by simpa using hx
        have := hR.ev x
        rw [ha.2.1 x (by simp only [Op.operands, Call.operands, Array.mem_append]; exact .inr (Array.mem_of_getElem? hx'))] at this
        have e : (xs.map a.eval ++ cv).getD i undef = a.eval x := by
          have hxi : xs[i] = x := (Array.getElem?_eq_some_iff.1 hx').2
          simp [Array.getD_eq_getD_getElem?, Array.getElem?_append, hi, hxi]
        rw [e]; exact this
      · rw [List.getElem?_append_right (by simpa using Nat.le_of_not_lt hi)] at hy
        have := hc2 _ y hy
        have e : (xs.map a.eval ++ cv).getD i undef = cv.getD (i - xs.size) undef := by
          simp [Array.getD_eq_getD_getElem?, Array.getElem?_append, hi]
        rw [e]; simpa using this
    have hcall := hspec w mc (Fz C m s' w) (xs.map a.eval ++ cv) ?_ ?_ ?_ ?_ ?_ ?_
    · unfold Oper.wp
      rw [hrun]
      simp only [Oper.upon]
      refine Calls.mono hcall ?_
      rintro e w' ⟨v, r, chs', m1, F1, rfl, hRr, hp1, hn1, hF1, ⟨f1, f2, f3, f4, f5⟩, hv, hc', hi'⟩
      have hmf : ∀ k, k < 8 → m (f + k) = none := fun k hk => hR.un _ (hU k hk)
      let m2 : Nat → Option (Option Nat × Nat) := fun j => if f ≤ j ∧ j < f + 8 then m1 (cs.length + (j - f)) else m j
      have hle : MLe m m2 := by
        intro j p hp
        have : ¬ (f ≤ j ∧ j < f + 8) := fun h => by
          have := hmf (j - f) (by omega)
          rw [show f + (j - f) = j by omega, hp] at this
          cases this
        simp [m2, this, hp]
      have hm12 : ∀ id p, m1 id = some p → m2 (tauC cs f id) = some p := by
        intro id p hp
        by_cases hid : id < cs.length
        · have hj : cs[id]? = some cs[id] := List.getElem?_eq_getElem hid
          obtain ⟨d, hd⟩ := hall id _ hj
          rw [← hchunk _ (List.getElem_mem hid)] at hd
          obtain ⟨q, hq, _⟩ := hR.ch _ d hd
          have h1 := hp1 id q (by omega) (by rw [hmc id _ hj]; exact hq)
          rw [hp] at h1
          obtain rfl : p = q := by simpa using h1
          have : tauC cs f id = cs[id] := by simp [tauC, hj]
          rw [this]
          exact hle _ _ hq
        · have h8 : id < cs.length + 8 := by
            rcases Nat.lt_or_ge id (cs.length + 8) with h | h
            · exact h
            · have := hn1 id (by omega); rw [hp] at this; cases this
          have : tauC cs f id = f + (id - cs.length) := by simp [tauC, List.getElem?_eq_none (Nat.le_of_not_lt hid)]
          rw [this]
          have hin : f ≤ f + (id - cs.length) ∧ f + (id - cs.length) < f + 8 := by omega
          simp only [m2, hin, and_self, if_true]
          rw [show cs.length + (f + (id - cs.length) - f) = id by omega]
          exact hp
      have hold1 : ∀ k, k < w.heap.size → (∀ j c p, j ∈ cs → s'.chunk j = some c → m j = some p → p.1 ≠ some k) → w'.heap[k]? = w.heap[k]? := by
        intro k hk hn
        refine f5 k hk (fun id c p h1 h2 h3 => ?_)
        obtain ⟨j, d, g1, g2, _⟩ := hch id c h1
        rw [hmc id j g1] at h2
        exact hn j d p (List.mem_of_getElem? g1) (by rw [hchunk j (List.mem_of_getElem? g1)]; exact g2) h2 h3
      have hgone : ∀ id c, getL id (callU cs f r chs').ch = some (some c) → ∃ i c0, getL i chs' = some c0 ∧ tauC cs f i = id ∧ c = c0.ren (tauC cs f) := by
        intro id c h
        simp only [callU, getL_append] at h
        cases hm : getL id (mapC cs f chs') with
        | some o =>
          rw [hm] at h
          simp only [Option.some_or, Option.some.injEq] at h
          subst h
          obtain ⟨i, c0, h1, h2, h3⟩ := getL_mapC hm
          exact ⟨i, c0, h1, h2, by simpa using h3⟩
        | none =>
          rw [hm] at h
          simp only [Option.none_or] at h
          have := (getL_noneC h).2
          cases this
      have hnot : ∀ id, getL id (callU cs f r chs').ch = none → id ∉ cs := by
        intro id h hmem
        simp only [callU, getL_append] at h
        obtain ⟨o, ho⟩ := getL_noneC_mem hmem
        rw [ho] at h
        cases hm : getL id (mapC cs f chs') <;> simp [hm] at h
      have hnewblk : ∀ i c0 p b, getL i chs' = some c0 → m1 i = some p → p.1 = some b → w.heap.size ≤ b ∨ ∃ j c p0, j ∈ cs ∧ s'.chunk j = some c ∧ m j = some p0 ∧ p0.1 = some b := by
        intro i c0 p b h1 h2 h3
        obtain ⟨q, hq, _, hl⟩ := hc' i c0 h1
        rw [h2] at hq
        obtain rfl : p = q := by simpa using hq
        rcases hl b h3 with h | ⟨id0, c1, p0, g1, g2, g3⟩
        · exact .inl h
        · obtain ⟨j, d, q1, q2, _⟩ := hch id0 c1 g1
          rw [hmc id0 j q1] at g2
          exact .inr ⟨j, d, p0, List.mem_of_getElem? q1, by rw [hchunk j (List.mem_of_getElem? q1)]; exact q2, g2, g3⟩
      have hm2 : ∀ i c0, getL i chs' = some c0 → ∀ p, m2 (tauC cs f i) = some p → m1 i = some p := by
        intro i c0 h1 p hp
        obtain ⟨q, hq, _⟩ := hc' i c0 h1
        have := hm12 i q hq
        rw [hp] at this
        rw [hq, this]
      refine hK _ ⟨r, chs', hRr, rfl⟩ _ _ m2 (hR.step hd hle (fun j hj => ?_) ?_ f4 (fun k hk => ⟨fun id c p h1 h2 h3 => ?_, hold1 k hk.2.1 (fun j c p _ h1 h2 => hk.2.2 j c p h1 h2)⟩) (fun id c p b h0 h1 h2 h3 => ?_) (fun F' hF hF2 => ?_) (fun id id' c c' p p' b h1 h2 hp hp' hb hb' => ?_))
      · have := hU' j hj
        have h2 : ¬ (f ≤ j ∧ j < f + 8) := by omega
        simp only [m2, h2, if_false]
        exact hR.un j this.1
      · refine ⟨f1.trans hR.fr.os, f2.trans hR.fr.tape, f3.trans hR.fr.output, Nat.le_trans hR.fr.size f4, fun k hk hn => ?_⟩
        rw [hold1 k (Nat.lt_of_lt_of_le hk hR.fr.size) (fun j c p _ h1 h2 h3 => ?_)]
        · exact hR.fr.block k hk hn
        · obtain ⟨q, hq, _, hl⟩ := hR.ch j c h1
          rw [h2] at hq
          obtain rfl : p = q := by simpa using hq
          rcases hl k h3 with h | h
          · exact hn h
          · omega
      · obtain ⟨i, c0, g1, rfl, _⟩ := hgone id c h1
        rcases hnewblk i c0 p k g1 (hm2 i c0 g1 p h2) h3 with h | ⟨j, c1, p0, _, q1, q2, q3⟩
        · have := hk.2.1; omega
        · exact hk.2.2 j c1 p0 q1 q2 q3
      · refine hold1 b (hblk id c p b h1 h2 h3) (fun j c1 p1 hj g1 g2 g3 => ?_)
        have := hR.inj id j c c1 p p1 h1 g1 h2 g2 b h3 g3
        subst this
        exact hnot id h0 hj
      · have hFF : ∀ k, F1 k → F' k := by
          intro k hk
          obtain ⟨k1, k2, k3⟩ := (hF1 k).1 hk
          refine hF2 k ?_ k2 (fun id c p h1 h2 h3 => ?_)
          · rcases k1 with h | ⟨id, c, p, h1, h2, h3⟩ | h
            · exact h.1
            · obtain ⟨j, d, g1, g2, _⟩ := hch id c h1
              rw [hmc id j g1] at h2
              obtain ⟨q, hq, _, hl⟩ := hR.ch j d (by rw [hchunk j (List.mem_of_getElem? g1)]; exact g2)
              rw [h2] at hq
              obtain rfl : p = q := by simpa using hq
              exact .inr (hl k h3)
            · exact .inr (.inr (Nat.le_trans hR.fr.size h))
          · rw [ASt.chunk_app] at h1
            cases hg : getL id (callU cs f r chs').ch with
            | some o =>
              rw [hg] at h1
              simp only at h1
              subst h1
              obtain ⟨i, c0, g1, rfl, _⟩ := hgone id c hg
              exact k3 i c0 p g1 (hm2 i c0 g1 p h2) h3
            | none =>
              rw [hg] at h1
              simp only at h1
              obtain ⟨q, hq, _⟩ := hR.ch id c h1
              have := hle id q hq
              rw [h2] at this
              obtain rfl : p = q := by simpa using this
              rcases k1 with h | ⟨id1, c1, p1, t1, t2, t3⟩ | h
              · exact h.2.2 id c p h1 hq h3
              · obtain ⟨j, d, g1, g2, _⟩ := hch id1 c1 t1
                rw [hmc id1 j g1] at t2
                have := hR.inj id j c d p p1 h1 (by rw [hchunk j (List.mem_of_getElem? g1)]; exact g2) hq t2 k h3 t3
                subst this
                exact hnot id hg (List.mem_of_getElem? g1)
              · have := hblk id c p k h1 hq h3; omega
        refine ⟨hv.ren hm12 hFF, fun id c h => ?_⟩
        obtain ⟨i, c0, g1, rfl, rfl⟩ := hgone id c h
        obtain ⟨p, q1, q2, q3⟩ := hc' i c0 g1
        refine ⟨p, hm12 i p q1, q2.ren hm12 hFF, fun b hb => ?_⟩
        rcases hnewblk i c0 p b g1 q1 hb with h | ⟨j, c1, p0, _, t1, t2, t3⟩
        · exact .inr (Nat.le_trans hR.fr.size h)
        · obtain ⟨q, hq, _, hl⟩ := hR.ch j c1 t1
          rw [t2] at hq
          obtain rfl : p0 = q := by simpa using hq
          exact hl b t3
      · obtain ⟨i, c0, g1, rfl, rfl⟩ := hgone id c h1
        have hp1' := hm2 i c0 g1 p hp
        rw [ASt.chunk_app] at h2
        cases hg : getL id' (callU cs f r chs').ch with
        | some o =>
          rw [hg] at h2
          simp only at h2
          subst h2
          obtain ⟨i', c0', g1', rfl, _⟩ := hgone id' c' hg
          have := hi' i i' c0 c0' p p' b g1 g1' hp1' (hm2 i' c0' g1' p' hp') hb hb'
          rw [this]
        | none =>
          rw [hg] at h2
          simp only at h2
          obtain ⟨q, hq, _⟩ := hR.ch id' c' h2
          have := hle id' q hq
          rw [hp'] at this
          obtain rfl : p' = q := by simpa using this
          have hlt := hblk id' c' p' b h2 hq hb'
          rcases hnewblk i c0 p b g1 hp1' hb with h | ⟨j, c1, p0, t0, t1, t2, t3⟩
          · omega
          · have := hR.inj id' j c' c1 p' p0 h2 t1 hq t2 b hb' t3
            subst this
            exact absurd t0 (hnot id' hg)
    · intro k hk
      refine ⟨hk.2.1, fun id c p h1 h2 => ?_⟩
      obtain ⟨j, d, g1, g2, _⟩ := hch id c h1
      rw [hmc id j g1] at h2
      exact hk.2.2 j d p (by rw [hchunk j (List.mem_of_getElem? g1)]; exact g2) h2
    · have : ys.length = xs.size + caps.length := by rw [← hys]; simp
      simp only [Array.size_append, Array.size_map]
      omega
    · intro i x hx
      obtain ⟨y, hy, hxy⟩ := hl2 i x hx
      exact (harg i y hy).lead (fun id j p h1 h2 => by rw [hmc id j h1]; exact h2) (fun _ h => h) x hxy
    · intro id c hc
      obtain ⟨j, d, g1, g2, g3⟩ := hch id c hc
      have hj := List.mem_of_getElem? g1
      obtain ⟨p, hp, hr, _⟩ := hR.ch j d (by rw [hchunk j hj]; exact g2)
      refine ⟨by rw [hlen]; exact (List.getElem?_eq_some_iff.1 g1).1, p, by rw [hmc id j g1]; exact hp, hr.lead (fun id j p h1 h2 => by rw [hmc id j h1]; exact h2) (fun _ h => h) g3⟩
    · intro id id' c c' p p' b h1 h2 hp hp' hb hb'
      obtain ⟨j, d, g1, g2, _⟩ := hch id c h1
      obtain ⟨j', d', g1', g2', _⟩ := hch id' c' h2
      rw [hmc id j g1] at hp
      rw [hmc id' j' g1'] at hp'
      have := hR.inj j j' d d' p p' (by rw [hchunk j (List.mem_of_getElem? g1)]; exact g2) (by rw [hchunk j' (List.mem_of_getElem? g1')]; exact g2') hp hp' b hb hb'
      subst this
      exact hnd id id' j g1 g1'
    · intro id hid
      simp [mc, List.getElem?_eq_none (show cs.length ≤ id by omega)]
end
end Go.Proofs.Ytochebmkfdfbhaa
