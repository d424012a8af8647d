/- Readings said in other words: names changed, slices given up to all, the slice that is nil as one of the call's own; calls among operations; bytes and strings. No program is named here. -/
import Derived.Test.YtochebmkfdfbhaaB4
set_option linter.all false
namespace Go.Proofs.Ytochebmkfdfbhaa
open Go.RowKit

def leadsS (σ : Nat → Option Nat) (s : ASt) : List (Nat × AV) → Prop
  | [] => True
  | (i, x) :: l => x.leads σ (s.get i) ∧ leadsS σ s l
def leadsC (σ : Nat → Option Nat) (s : ASt) : List (Nat × Option Chunk) → Prop
  | [] => True
  | (_, none) :: l => leadsC σ s l
  | (id, some c) :: l => (∃ j d, σ id = some j ∧ s.chunk j = some d ∧ c.leads σ d) ∧ leadsC σ s l
def keysC : List (Nat × Option Chunk) → List Nat
  | [] => []
  | (_, none) :: l => keysC l
  | (id, some _) :: l => id :: keysC l
theorem leadsS_get {σ : Nat → Option Nat} {s : ASt} : ∀ {l : List (Nat × AV)}, leadsS σ s l → ∀ i, ((getL i l).getD .dead).leads σ (s.get i)
  | [], _, i => by simp [getL, AV.leads]
  | (j, x) :: l, h, i => by
    rw [getL_cons]
    split
    · rename_i e; subst e; exact h.1
    · exact leadsS_get h.2 i
theorem leadsC_get {σ : Nat → Option Nat} {s : ASt} : ∀ {l : List (Nat × Option Chunk)}, leadsC σ s l → ∀ id c, (getL id l).getD none = some c → (∃ j d, σ id = some j ∧ s.chunk j = some d ∧ c.leads σ d) ∧ id ∈ keysC l
  | [], _, id, c, hc => by simp [getL] at hc
  | (j, none) :: l, h, id, c, hc => by
    rw [getL_cons] at hc
    split at hc
    · simp at hc
    · exact leadsC_get (l := l) h id c hc
  | (j, some d) :: l, h, id, c, hc => by
    rw [getL_cons] at hc
    split at hc
    · rename_i e
      subst e
      simp only [Option.getD_some, Option.some.injEq] at hc
      subst hc
      exact ⟨h.1, by simp [keysC]⟩
    · have := leadsC_get h.2 id c hc
      exact ⟨this.1, List.mem_cons_of_mem _ this.2⟩
/-- Names that are led to one place are one. -/
def apartL (σ : Nat → Option Nat) : List Nat → Bool
  | [] => true
  | i :: l => l.all (fun j => bif Nat.beq i j then true else bif (match σ i, σ j with | some a, some b => Nat.beq a b | _, _ => false) then false else true) && apartL σ l
theorem apartL_inj {σ : Nat → Option Nat} : ∀ {l : List Nat}, apartL σ l = true → ∀ i j k, i ∈ l → j ∈ l → σ i = some k → σ j = some k → i = j
  | x :: l, h, i, j, k, hi, hj, h1, h2 => by
    simp only [apartL, Bool.and_eq_true, List.all_eq_true] at h
    have key : ∀ y, y ∈ l → σ x = some k → σ y = some k → x = y := by
      intro y hy e1 e2
      have := h.1 y hy
      by_cases hxy : Nat.beq x y = true
      · simpa using hxy
      · simp only [Bool.not_eq_true] at hxy
        simp [hxy, e1, e2] at this
    rcases List.mem_cons.1 hi with rfl | hi' <;> rcases List.mem_cons.1 hj with rfl | hj'
    · rfl
    · exact key j hj' h1 h2
    · exact (key i hi' h2 h1).symm
    · exact apartL_inj h.2 i j k hi' hj' h1 h2

section
variable {P : Program} [PT P] {C : Ctx} {Q : Exit → ASt → Prop} {s : ASt} {ops : Array Oper}

/-- The state t says of s what it says under new names. -/
theorem Weak.ren {t : ASt} (k : Nat) (ρ : List (Nat × Nat)) (hk : C.k = k) (hn : t.n = s.n) (hs : leadsS (sig k ρ) s t.sl) (hc : leadsC (sig k ρ) s t.ch) (ha : apartL (sig k ρ) (keysC t.ch) = true) (hx : ρ.all (fun p => Nat.blt p.1 t.nx) = true) (hkx : Nat.ble k t.nx = true) : Weak C s t := by
  refine ⟨?_⟩
  rintro a w ⟨m, hR⟩
  have hm : ∀ id j p, sig k ρ id = some j → m j = some p → (fun id => (sig k ρ id).bind m) id = some p := fun id j p h1 h2 => by simp [h1, h2]
  have hkx : k ≤ t.nx := by simpa using hkx
  have hF : ∀ q, Fz C m s w q → Fz C (fun id => (sig k ρ id).bind m) t w q := by
    intro q hq
    refine ⟨hq.1, hq.2.1, fun id c p h1 h2 => ?_⟩
    obtain ⟨⟨j, d, g1, g2, _⟩, _⟩ := leadsC_get hc id c h1
    simp only [g1, Option.bind_some] at h2
    exact hq.2.2 j d p g2 h2
  refine ⟨fun id => (sig k ρ id).bind m, hR.fr, hR.fin, by rw [hn]; exact hR.sz, fun i => (hR.sl i).lead hm hF _ (leadsS_get hs i), fun id c h1 => ?_, fun id id' c c' p p' h1 h2 hp hp' b hb hb' => ?_, fun id hid => ?_, hR.defers, fun id p hp => ?_, hR.m0k⟩
  · obtain ⟨⟨j, d, g1, g2, g3⟩, _⟩ := leadsC_get hc id c h1
    obtain ⟨p, hp, hr, hl⟩ := hR.ch j d g2
    exact ⟨p, hm id j p g1 hp, hr.lead hm hF g3, hl⟩
  · obtain ⟨⟨j, d, g1, g2, _⟩, g3⟩ := leadsC_get hc id c h1
    obtain ⟨⟨j', d', g1', g2', _⟩, g3'⟩ := leadsC_get hc id' c' h2
    simp only [g1, g1', Option.bind_some] at hp hp'
    have := hR.inj j j' d d' p p' g2 g2' hp hp' b hb hb'
    subst this
    exact apartL_inj ha id id' j g3 g3' g1 g1'
  · show (sig k ρ id).bind m = none
    have h1 : Nat.blt id k = false := by
      cases h : Nat.blt id k with
      | true => have : id < k := by simpa using h
                omega
      | false => rfl
    have key : ∀ l : List (Nat × Nat), l.all (fun p => Nat.blt p.1 t.nx) = true → getL id l = none := by
      intro l
      induction l with
      | nil => intro _; rfl
      | cons p l ih =>
        obtain ⟨j, x⟩ := p
        intro h
        simp only [List.all_cons, Bool.and_eq_true] at h
        have hj : j < t.nx := by simpa using h.1
        rw [getL_cons, if_neg (by omega)]
        exact ih h.2
    simp [sig, h1, key ρ hx]
  · show (sig k ρ id).bind m = some p
    have hid : id < C.k := by
      rcases Nat.lt_or_ge id C.k with h | h
      · exact h
      · have := hR.m0k id h; rw [hp] at this; cases this
    have : sig k ρ id = some id := by
      unfold sig
      have : Nat.blt id k = true := by simpa [← hk] using hid
      rw [this]; rfl
    simp only [this, Option.bind_some]
    exact hR.m0 id p hp

/-- A slice of the call's own, given up to all. -/
theorem Weak.freeze {i id n e sz : Nat} {els els' : List (List DV)} (hs : s.get i = .own id n) (hc : s.chunk id = some (.arr e sz els)) (hn : n ≤ els.length) (he : els.take n = els') : Weak C s { s with sl := (i, .d (.view e sz els')) :: s.sl, ch := (id, none) :: s.ch } := by
  subst he
  refine ⟨?_⟩
  rintro a w ⟨m, hR⟩
  have hch : ∀ j c, (getL j ((id, none) :: s.ch)).getD none = some c → j ≠ id ∧ s.chunk j = some c := by
    intro j c h
    rw [getL_cons] at h
    split at h
    · simp at h
    · rename_i e; exact ⟨e, h⟩
  have hF : ∀ q, Fz C m s w q → Fz C m { s with sl := (i, .d (.view e sz (els.take n))) :: s.sl, ch := (id, none) :: s.ch } w q := fun q hq => ⟨hq.1, hq.2.1, fun j c p h1 h2 => hq.2.2 j c p (hch j c h1).2 h2⟩
  refine ⟨m, hR.fr, hR.fin, hR.sz, fun j => ?_, fun j c h1 => ?_, fun j j' c c' p p' h1 h2 hp hp' b hb hb' => hR.inj j j' c c' p p' (hch j c h1).2 (hch j' c' h2).2 hp hp' b hb hb', hR.un, hR.defers, hR.m0, hR.m0k⟩
  · show ARep _ _ _ ((getL j ((i, .d (.view e sz (els.take n))) :: s.sl)).getD .dead) _
    rw [getL_cons]
    by_cases hj : j = i
    · subst hj
      rw [if_pos rfl]
      have hv := hR.sl j
      rw [hs] at hv
      generalize a.tmps.getD j undef = v at hv
      simp only [Option.getD_some]
      cases hv with
      | own hp h0 =>
        rename_i cap b
        have hC := hR.chunkAt hc hp
        cases hC with
        | nil h =>
          have : n = 0 := by simpa using hn
          subst this
          exact .d .nil
        | arr hb hf hsz hl hm h0' hrow hel =>
          rename_i b arr fz
          have hlen : (els.take n).length = n := by simp; omega
          have hsub : ∀ (i : Nat) cs, (els.take n)[i]? = some cs → els[i]? = some cs := by
            intro i cs hi
            rw [List.getElem?_take] at hi
            split at hi
            · exact hi
            · cases hi
          obtain ⟨q, hq, hr, hloc⟩ := hR.ch id _ hc
          rw [hp] at hq
          obtain rfl : (some b, cap) = q := by simpa using hq
          have hFb : Fz C m { s with sl := (j, .d (.view e sz (els.take n))) :: s.sl, ch := (id, none) :: s.ch } w b := by
            refine ⟨.inr (hloc b rfl), lt_of_block hb, fun j' c p h1 h2 h3 => ?_⟩
            obtain ⟨hne, h4⟩ := hch j' c h1
            exact hne (hR.inj j' id c _ p _ h4 hc h2 hp b h3 rfl)
          have := DRep.view (F := Fz C m { s with sl := (j, .d (.view e sz (els.take n))) :: s.sl, ch := (id, none) :: s.ch } w) (e := e) (sz := sz) (els := els.take n) (off := 0) (cap := cap) hFb hb (by omega) hm (by omega) (fun i cs hi => hrow i cs (hsub i cs hi)) (fun i cs j d hi hj => by rw [Nat.zero_add]; exact (hel i cs j d (hsub i cs hi) hj).mono hF)
          rw [hlen] at this
          exact .d this
    · rw [if_neg hj]
      exact (hR.sl j).turn (MLe.refl m) (fun k hk _ => ⟨hF k hk, rfl⟩)
  · obtain ⟨_, h2⟩ := hch j c h1
    obtain ⟨p, hp, hr, hl⟩ := hR.ch j c h2
    exact ⟨p, hp, hr.turn (MLe.refl m) (fun k hk _ => ⟨hF k hk, rfl⟩) (fun _ _ => rfl), hl⟩

/-- The slice that is nil, as one of the call's own. -/
theorem Weak.nilOwn {i e sz : Nat} (hs : s.get i = .d (.val (.slice none 0 0))) (h0 : 0 < sz) : Weak C s { n := s.n, nx := s.nx + 8, sl := (i, .own s.nx 0) :: s.sl, ch := (s.nx, some (.arr e sz [])) :: s.ch } := by
  refine ⟨?_⟩
  rintro a w ⟨m, hR⟩
  have hid : m s.nx = none := hR.un _ (Nat.le_refl _)
  have hle := newM_le m s.nx (none, 0) hid
  have hch : ∀ j c, (getL j ((s.nx, some (.arr e sz [])) :: s.ch)).getD none = some c → (j = s.nx ∧ c = .arr e sz []) ∨ (j ≠ s.nx ∧ s.chunk j = some c) := by
    intro j c h
    rw [getL_cons] at h
    split at h
    · rename_i e; simp at h; exact .inl ⟨e, h.symm⟩
    · rename_i e; exact .inr ⟨e, h⟩
  have hF : ∀ q, Fz C m s w q → Fz C (newM m s.nx (none, 0)) { n := s.n, nx := s.nx + 8, sl := (i, .own s.nx 0) :: s.sl, ch := (s.nx, some (.arr e sz [])) :: s.ch } w q := by
    intro q hq
    refine ⟨hq.1, hq.2.1, fun j c p h1 h2 h3 => ?_⟩
    rcases hch j c h1 with ⟨rfl, _⟩ | ⟨hne, h⟩
    · rw [newM_self] at h2; simp only [Option.some.injEq] at h2; subst h2; cases h3
    · simp only [newM, hne, if_false] at h2
      exact hq.2.2 j c p h h2 h3
  refine ⟨newM m s.nx (none, 0), hR.fr, hR.fin, hR.sz, fun j => ?_, fun j c h1 => ?_, fun j j' c c' p p' h1 h2 hp hp' b hb hb' => ?_, fun j hj => ?_, hR.defers, fun id p hp => hle id p (hR.m0 id p hp), hR.m0k⟩
  · show ARep _ _ _ ((getL j ((i, .own s.nx 0) :: s.sl)).getD .dead) _
    rw [getL_cons]
    by_cases hj : j = i
    · subst hj
      rw [if_pos rfl]
      have hv := hR.sl j
      rw [hs] at hv
      rw [hv.val_eq.1]
      exact .own (b := none) (newM_self _ _ _) (by simp)
    · rw [if_neg hj]
      exact (hR.sl j).turn hle (fun k hk _ => ⟨hF k hk, rfl⟩)
  · rcases hch j c h1 with ⟨rfl, rfl⟩ | ⟨hne, h⟩
    · exact ⟨_, newM_self _ _ _, .nil h0, fun b hb => by cases hb⟩
    · obtain ⟨p, hp, hr, hl⟩ := hR.ch j c h
      exact ⟨p, hle _ _ hp, hr.turn hle (fun k hk _ => ⟨hF k hk, rfl⟩) (fun _ _ => rfl), hl⟩
  · rcases hch j c h1 with ⟨rfl, _⟩ | ⟨hne, h⟩
    · rw [newM_self] at hp; simp only [Option.some.injEq] at hp; subst hp; cases hb
    · rcases hch j' c' h2 with ⟨rfl, _⟩ | ⟨hne', h'⟩
      · rw [newM_self] at hp'; simp only [Option.some.injEq] at hp'; subst hp'; cases hb'
      · simp only [newM, hne, hne', if_false] at hp hp'
        exact hR.inj j j' c c' p p' h h' hp hp' b hb hb'
  · have hj : s.nx + 8 ≤ j := hj
    have : j ≠ s.nx := by omega
    simp only [newM, this, if_false]
    exact hR.un j (by omega)

/-- .. and where it stands in a struct of the call's own. -/
theorem Weak.nilOwnC {id0 k e sz tt : Nat} {cs : List AV} (hc : s.chunk id0 = some (.cells tt cs)) (hk : cs[k]? = some (.d (.val (.slice none 0 0)))) (h0 : 0 < sz) (hid0 : id0 ≠ s.nx) : Weak C s { n := s.n, nx := s.nx + 8, sl := s.sl, ch := (id0, some (.cells tt (cs.set k (.own s.nx 0)))) :: (s.nx, some (.arr e sz [])) :: s.ch } := by
  refine ⟨?_⟩
  rintro a w ⟨m, hR⟩
  have hid : m s.nx = none := hR.un _ (Nat.le_refl _)
  have hle := newM_le m s.nx (none, 0) hid
  have hch : ∀ j c, (getL j ((id0, some (.cells tt (cs.set k (.own s.nx 0)))) :: (s.nx, some (.arr e sz [])) :: s.ch)).getD none = some c → (j = id0 ∧ c = .cells tt (cs.set k (.own s.nx 0))) ∨ (j = s.nx ∧ c = .arr e sz []) ∨ (j ≠ id0 ∧ j ≠ s.nx ∧ s.chunk j = some c) := by
    intro j c h
    rw [getL_cons] at h
    split at h
    · rename_i e; simp at h; exact .inl ⟨e, h.symm⟩
    · rename_i e
      rw [getL_cons] at h
      split at h
      · rename_i e'; simp at h; exact .inr (.inl ⟨e', h.symm⟩)
      · rename_i e'; exact .inr (.inr ⟨e, e', h⟩)
  have hm : ∀ j p, j ≠ s.nx → newM m s.nx (none, 0) j = some p → m j = some p := fun j p hj h => by simpa [newM, hj] using h
  have hF : ∀ q, Fz C m s w q → Fz C (newM m s.nx (none, 0)) { n := s.n, nx := s.nx + 8, sl := s.sl, ch := (id0, some (.cells tt (cs.set k (.own s.nx 0)))) :: (s.nx, some (.arr e sz [])) :: s.ch } w q := by
    intro q hq
    refine ⟨hq.1, hq.2.1, fun j c p h1 h2 h3 => ?_⟩
    rcases hch j c h1 with ⟨rfl, _⟩ | ⟨rfl, _⟩ | ⟨_, hne, h⟩
    · exact hq.2.2 j _ p hc (hm _ _ hid0 h2) h3
    · rw [newM_self] at h2; simp only [Option.some.injEq] at h2; subst h2; cases h3
    · exact hq.2.2 j c p h (hm _ _ hne h2) h3
  refine ⟨newM m s.nx (none, 0), hR.fr, hR.fin, hR.sz, fun j => (hR.sl j).turn hle (fun k hk _ => ⟨hF k hk, rfl⟩), fun j c h1 => ?_, fun j j' c c' p p' h1 h2 hp hp' b hb hb' => ?_, fun j hj => ?_, hR.defers, fun id p hp => hle id p (hR.m0 id p hp), hR.m0k⟩
  · rcases hch j c h1 with ⟨rfl, rfl⟩ | ⟨rfl, rfl⟩ | ⟨_, hne, h⟩
    · obtain ⟨p, hp, hr, hl⟩ := hR.ch j _ hc
      refine ⟨p, hle _ _ hp, ?_, hl⟩
      cases hr with
      | cells g1 g2 g3 g4 =>
        refine .cells g1 (by simpa using g2) (fun i x hx => ?_) g4
        by_cases hik : k = i
        · subst hik
          rw [List.getElem?_set_self (List.getElem?_eq_some_iff.1 hk).1] at hx
          simp only [Option.some.injEq] at hx
          subst hx
          have := g3 k _ hk
          rw [this.val_eq.1]
          exact .own (b := none) (newM_self _ _ _) (by simp)
        · rw [List.getElem?_set_ne hik] at hx
          exact (g3 i x hx).turn hle (fun k hk _ => ⟨hF k hk, rfl⟩)
    · exact ⟨_, newM_self _ _ _, .nil h0, fun b hb => by cases hb⟩
    · obtain ⟨p, hp, hr, hl⟩ := hR.ch j c h
      exact ⟨p, hle _ _ hp, hr.turn hle (fun k hk _ => ⟨hF k hk, rfl⟩) (fun _ _ => rfl), hl⟩
  · have old : ∀ j c p, (getL j ((id0, some (.cells tt (cs.set k (.own s.nx 0)))) :: (s.nx, some (.arr e sz [])) :: s.ch)).getD none = some c → newM m s.nx (none, 0) j = some p → (p.1 = none) ∨ ∃ c0, s.chunk j = some c0 ∧ m j = some p := by
      intro j c p q1 q2
      rcases hch j c q1 with ⟨rfl, _⟩ | ⟨rfl, _⟩ | ⟨_, hne, h⟩
      · exact .inr ⟨_, hc, hm _ _ hid0 q2⟩
      · rw [newM_self] at q2; simp only [Option.some.injEq] at q2; subst q2; exact .inl rfl
      · exact .inr ⟨_, h, hm _ _ hne q2⟩
    rcases old j c p h1 hp with h | ⟨c0, g1, g2⟩
    · rw [h] at hb; cases hb
    · rcases old j' c' p' h2 hp' with h | ⟨c0', g1', g2'⟩
      · rw [h] at hb'; cases hb'
      · exact hR.inj j j' c0 c0' p p' g1 g1' g2 g2' b hb hb'
  · have hj : s.nx + 8 ≤ j := hj
    have : j ≠ s.nx := by omega
    simp only [newM, this, if_false]
    exact hR.un j (by omega)

theorem AL.call' {ids : List Nat} {o : Oper} {rest : List Oper} {Us : Upd → Prop} (hw : ∀ a w, Rel C s a w → Region.wanted o (yielded ops a.tmps) = true) (hop : NOpR P ids s o s.nx Us) (hd : dstOk o.dst s.n = true) (h : ∀ u, Us u → AL P C ops rest Q (s.nxt o.dst u)) : AL P C ops (o :: rest) Q s := by
  refine ⟨fun a w hR' => ?_⟩
  have hwt := hw a w hR'
  obtain ⟨m, hR⟩ := hR'
  refine wpList_step fun K hK => ?_
  rw [if_pos hwt]
  refine hop.run s (Agr.refl _ _ _) C (fun id => s.nx ≤ id) (fun id => s.nx + 8 ≤ id) a w m hR (fun k hk => Nat.le_add_right _ _) (fun j hj => ⟨by omega, .inr hj⟩) hd K _ (fun u hu a' w' m' hR' => hK _ _ ((h u hu).run a' w' ⟨m', hR'.weaken ?_ (fun i => .inr ?_) (fun id c hc => ?_) (fun id hid => ?_)⟩))
  · cases o.dst <;> rfl
  · cases o.dst <;> rfl
  · cases hdst : o.dst <;> (rw [hdst] at hc; exact hc)
  · cases hdst : o.dst <;> (rw [hdst] at hid; exact hid)
/-- A call whose contract says one result. -/
def Fun1 (r : AV) (chs : List (Nat × Chunk)) : AV → List (Nat × Chunk) → Prop := fun r' chs' => r' = r ∧ chs' = chs
theorem NOpR.one {ids : List Nat} {o : Oper} {f : Nat} {u : Upd} {Us : Upd → Prop} (h : NOpR P ids s o f Us) (hu : ∀ v, Us v → v = u) : NOp P ids s o f u := by
  refine ⟨fun s' ha C U U' a w m hR hU hU' hd K Q hK => ?_⟩
  exact h.run s' ha C U U' a w m hR hU hU' hd K Q (fun v hv a' w' m' hR' => by rw [hu v hv] at hR'; exact hK a' w' m' hR')
end
end Go.Proofs.Ytochebmkfdfbhaa
