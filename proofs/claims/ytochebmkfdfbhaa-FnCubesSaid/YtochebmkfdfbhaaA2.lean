/- What stays of a state's plain reading when a slot is set, a block is made, a cell is turned. No program is named here. -/
import Derived.Test.YtochebmkfdfbhaaA1
set_option linter.all false
namespace Go.Proofs.Ytochebmkfdfbhaa
open Go.RowKit

def okVb : Value → Bool
  | .int k n => decide (k.wrap n = n)
  | .string s => decide (s.size ≤ maxLen)
  | .agg _ | .tuple _ => false
  | _ => true
theorem okVb_ok {v : Value} (h : okVb v = true) : okV v := by
  cases v <;> simp_all [okVb, okV]
def constAV (v : Value) : AV :=
  match v with
  | .agg cs => bif cs.toList.all okVb then .agg (cs.toList.map fun v => .d (.val v)) else .dead
  | .tuple _ => .dead
  | v => bif okVb v then .d (.val v) else .dead
def ASt.ev (s : ASt) : Operand → AV
  | .tmp t => s.get t
  | .const v => constAV v
  | .func f => .clo f []
  | .global _ => .dead

section
variable {C : Ctx} {U U' : Nat → Prop} {s : ASt} {a : Act} {w : World} {m : Nat → Option (Option Nat × Nat)}

theorem constAV_rep (F : Nat → Prop) (v : Value) : ARep m F w (constAV v) v := by
  have key : ∀ u : Value, ARep m F w (bif okVb u then .d (.val u) else .dead) u := by
    intro u
    cases hb : okVb u with
    | false => exact .dead
    | true => exact .d (.val (okVb_ok hb))
  have kv := key v
  cases v with
  | agg cs =>
    simp only [constAV]
    cases h : cs.toList.all okVb with
    | false => exact .dead
    | true =>
      simp only [cond_true]
      have h' : ∀ u, u ∈ cs.toList → okVb u = true := List.all_eq_true.1 h
      refine .agg (by simp) (fun i c hc => ?_) (fun i hi => ?_)
      · simp only [List.getElem?_map, Option.map_eq_some_iff] at hc
        obtain ⟨u, hu, rfl⟩ := hc
        have : cs.getD i undef = u := by
          rw [Array.getD_eq_getD_getElem?, ← Array.getElem?_toList, hu]; rfl
        rw [this]
        exact .d (.val (okVb_ok (h' u (List.mem_of_getElem? hu))))
      · have : cs.getD i undef ∈ cs.toList := by
          rw [Array.getD_eq_getD_getElem?, Array.getElem?_eq_getElem hi]; simp
        exact (okVb_ok (h' _ this)).one
  | tuple _ => exact .dead
  | _ => exact kv

theorem RelM.ev (h : RelM C U s a w m) (x : Operand) : ARep m (Fz C m s w) w (s.ev x) (a.eval x) := by
  cases x with
  | tmp t => exact h.sl t
  | const v => exact constAV_rep _ v
  | func f => exact .clo (by simp) (fun i c hc => by simp at hc)
  | global g => exact .dead

theorem ASt.get_app (s : ASt) (i : Option Nat) (u : Upd) (j : Nat) : (s.app i u).get j = if i = some j then u.r else s.get j := by
  cases i with
  | none => simp [ASt.app, ASt.get]
  | some i =>
    simp only [ASt.app, ASt.get, getL_cons, Option.some.injEq]
    by_cases h : j = i
    · subst h; simp
    · rw [if_neg h, if_neg (Ne.symm h)]
theorem ASt.chunk_app (s : ASt) (i : Option Nat) (u : Upd) (id : Nat) : (s.app i u).chunk id = match getL id u.ch with | some c => c | none => s.chunk id := by
  have : (s.app i u).ch = u.ch ++ s.ch := by cases i <;> rfl
  simp only [ASt.chunk, this, getL_append]
  cases getL id u.ch <;> rfl
theorem ASt.n_app (s : ASt) (i : Option Nat) (u : Upd) : (s.app i u).n = s.n := by cases i <;> rfl
def dstOk (i : Option Nat) (n : Nat) : Bool :=
  match i with
  | some i => Nat.blt i n
  | none => true

/-- A reading may forget, and be said in other words. -/
theorem RelM.weaken (h : RelM C U s a w m) {s' : ASt} (hn : s'.n = s.n) (hs : ∀ i, s'.get i = .dead ∨ s'.get i = s.get i) (hc : ∀ id c, s'.chunk id = some c → s.chunk id = some c) (hU : ∀ id, U' id → U id) : RelM C U' s' a w m := by
  have hF : ∀ k, Fz C m s w k → Fz C m s' w k := fun k hk => ⟨hk.1, hk.2.1, fun id c p hc' => hk.2.2 id c p (hc id c hc')⟩
  refine ⟨h.fr, h.fin, by rw [hn]; exact h.sz, fun i => ?_, fun id c h' => ?_, fun id id' c c' p p' h1 h2 => h.inj id id' c c' p p' (hc _ _ h1) (hc _ _ h2), fun id hid => h.un id (hU id hid), h.defers, h.m0, h.m0k⟩
  · rcases hs i with h' | h'
    · rw [h']; exact .dead
    · rw [h']; exact (h.sl i).turn (MLe.refl m) (fun k hk _ => ⟨hF k hk, rfl⟩)
  · obtain ⟨p, h1, h2, h3⟩ := h.ch id c (hc id c h')
    exact ⟨p, h1, h2.turn (MLe.refl m) (fun k hk _ => ⟨hF k hk, rfl⟩) (fun _ _ => rfl), h3⟩

/-- What an operation asks for, that the reading goes on. -/
theorem RelM.step (h : RelM C U s a w m) {i : Option Nat} {u : Upd} {v : Value} {w' : World} {m' : Nat → Option (Option Nat × Nat)} (hd : dstOk i s.n = true) (hm : MLe m m') (hU : ∀ id, U' id → m' id = none) (hfr : Fr C.S C.w w') (hsz : w.heap.size ≤ w'.heap.size)
    (hF : ∀ k, Fz C m s w k → (∀ id c p, getL id u.ch = some (some c) → m' id = some p → p.1 ≠ some k) ∧ w'.heap[k]? = w.heap[k]?)
    (hold : ∀ id c p b, getL id u.ch = none → s.chunk id = some c → m id = some p → p.1 = some b → w'.heap[b]? = w.heap[b]?)
    (hnew : ∀ F', (∀ k, Fz C m s w k → F' k ∧ w'.heap[k]? = w.heap[k]?) → (∀ k, (C.fin k ∨ k ∈ C.S ∨ C.w.heap.size ≤ k) → k < w'.heap.size → (∀ id c p, (s.app i u).chunk id = some c → m' id = some p → p.1 ≠ some k) → F' k) → ARep m' F' w' u.r v ∧ ∀ id c, getL id u.ch = some (some c) → ∃ p, m' id = some p ∧ CRep m' F' w' p c ∧ ∀ b, p.1 = some b → b ∈ C.S ∨ C.w.heap.size ≤ b)
    (hinj : ∀ id id' c c' p p' b, getL id u.ch = some (some c) → (s.app i u).chunk id' = some c' → m' id = some p → m' id' = some p' → p.1 = some b → p'.1 = some b → id = id') : RelM C U' (s.app i u) (a.put i v) w' m' := by
  have hch : ∀ id c, (s.app i u).chunk id = some c → getL id u.ch = some (some c) ∨ (getL id u.ch = none ∧ s.chunk id = some c) := by
    intro id c hc
    rw [ASt.chunk_app] at hc
    cases hg : getL id u.ch with
    | some c0 => rw [hg] at hc; simp only at hc; subst hc; exact .inl rfl
    | none => rw [hg] at hc; exact .inr ⟨rfl, hc⟩
  have hF' : ∀ k, Fz C m s w k → Fz C m' (s.app i u) w' k ∧ w'.heap[k]? = w.heap[k]? := by
    intro k hk
    refine ⟨⟨hk.1, Nat.lt_of_lt_of_le hk.2.1 hsz, fun id c p hc hp => ?_⟩, (hF k hk).2⟩
    rcases hch id c hc with h1 | ⟨_, h1⟩
    · exact (hF k hk).1 id c p h1 hp
    · obtain ⟨q, hq, _⟩ := h.ch id c h1
      have := hm id q hq
      rw [hp] at this
      obtain rfl : p = q := by simpa using this
      exact hk.2.2 id c p h1 hq
  obtain ⟨hr, hn⟩ := hnew _ hF' (fun k h1 h2 h3 => ⟨h1, h2, h3⟩)
  refine ⟨hfr, h.fin, ?_, fun j => ?_, fun id c hc => ?_, fun id id' c c' p p' h1 h2 hp hp' b he he' => ?_, hU, ?_, fun id p hp => hm id p (h.m0 id p hp), h.m0k⟩
  · rw [ASt.n_app, ← h.sz]; cases i <;> simp [Act.put]
  · rw [ASt.get_app]
    cases i with
    | none => rw [if_neg (by simp)]; exact (h.sl j).turn hm (fun k hk _ => hF' k hk)
    | some i =>
      have hlt : i < a.tmps.size := by rw [h.sz]; simpa [dstOk] using hd
      by_cases hij : i = j
      · subst hij
        rw [if_pos rfl]
        have : (a.put (some i) v).tmps.getD i undef = v := by simp [Act.put, Array.getD_eq_getD_getElem?, hlt]
        rw [this]
        exact hr
      · rw [if_neg (by simpa using hij)]
        have : (a.put (some i) v).tmps.getD j undef = a.tmps.getD j undef := by simp only [Act.put, Array.getD_eq_getD_getElem?, Array.getElem?_setIfInBounds_ne hij]
        rw [this]
        exact (h.sl j).turn hm (fun k hk _ => hF' k hk)
  · rcases hch id c hc with h1 | ⟨h0, h1⟩
    · exact hn id c h1
    · obtain ⟨p, hp, hr, hl⟩ := h.ch id c h1
      exact ⟨p, hm _ _ hp, hr.turn hm (fun k hk _ => hF' k hk) (fun b hb => hold id c p b h0 h1 hp hb), hl⟩
  · rcases hch id c h1 with g1 | ⟨_, g1⟩
    · exact hinj id id' c c' p p' b g1 h2 hp hp' he he'
    · rcases hch id' c' h2 with g2 | ⟨_, g2⟩
      · exact (hinj id' id c' c p' p b g2 h1 hp' hp he' he).symm
      · obtain ⟨q, hq, _⟩ := h.ch id c g1
        obtain ⟨q', hq', _⟩ := h.ch id' c' g2
        have e1 := hm id q hq
        have e2 := hm id' q' hq'
        rw [hp] at e1; rw [hp'] at e2
        obtain rfl : p = q := by simpa using e1
        obtain rfl : p' = q' := by simpa using e2
        exact h.inj id id' c c' p p' g1 g2 hq hq' b he he'
  · cases i <;> exact h.defers

/-- A slot is set. -/
theorem RelM.setSlot (h : RelM C U s a w m) {i : Option Nat} (hd : dstOk i s.n = true) {x : AV} {v : Value} (hx : ARep m (Fz C m s w) w x v) : RelM C U (s.app i ⟨x, []⟩) (a.put i v) w m :=
  h.step hd (MLe.refl m) h.un h.fr (Nat.le_refl _) (fun k hk => ⟨fun id c p hc => by simp [getL] at hc, rfl⟩) (fun _ _ _ _ _ _ _ _ => rfl) (fun F' hF _ => ⟨hx.turn (MLe.refl m) (fun k hk _ => hF k hk), fun id c hc => by simp [getL] at hc⟩) (fun id id' c c' p p' b hc => by simp [getL] at hc)

theorem RelM.drewN (h : RelM C U s a w m) (n : Nat) : RelM C U s a (w.drewN n) m :=
  ⟨h.fr.drewN n, h.fin, h.sz, fun i => (h.sl i).turn (MLe.refl m) (fun k hk _ => ⟨hk, rfl⟩), fun id c hc => by obtain ⟨p, h1, h2, h3⟩ := h.ch id c hc; exact ⟨p, h1, h2.turn (MLe.refl m) (fun k hk _ => ⟨hk, rfl⟩) (fun _ _ => rfl), h3⟩, h.inj, h.un, h.defers, h.m0, h.m0k⟩

def newM (m : Nat → Option (Option Nat × Nat)) (id : Nat) (p : Option Nat × Nat) (j : Nat) : Option (Option Nat × Nat) := if j = id then some p else m j
theorem newM_self (m : Nat → Option (Option Nat × Nat)) (id : Nat) (p : Option Nat × Nat) : newM m id p id = some p := by simp [newM]
theorem newM_le (m : Nat → Option (Option Nat × Nat)) (id : Nat) (p : Option Nat × Nat) (h : m id = none) : MLe m (newM m id p) := by
  intro j q hq
  by_cases hj : j = id
  · subst hj; rw [h] at hq; cases hq
  · simp [newM, hj, hq]

/-- Under a new name comes a new block, the block of a name given up, or no block. -/
theorem RelM.named (h : RelM C U s a w m) {i : Option Nat} (hd : dstOk i s.n = true) {id : Nat} {p : Option Nat × Nat} {c : Chunk} {r : AV} {v : Value} {w' : World} {gone : List (Nat × Option Chunk)} (hid : U id) (hU : ∀ j, U' j → U j ∧ j ≠ id)
    (hg : ∀ j c, getL j gone ≠ some (some c)) (hfr : Fr C.S C.w w') (hsz : w.heap.size ≤ w'.heap.size)
    (hp : ∀ b, p.1 = some b → (w.heap.size ≤ b ∧ b < w'.heap.size) ∨ ∃ j c0 q, getL j gone = some none ∧ s.chunk j = some c0 ∧ m j = some q ∧ q.1 = some b)
    (hk : ∀ k, k < w.heap.size → p.1 ≠ some k → w'.heap[k]? = w.heap[k]?)
    (hc : ∀ F', (∀ k, Fz C m s w k → F' k ∧ w'.heap[k]? = w.heap[k]?) → ARep (newM m id p) F' w' r v ∧ CRep (newM m id p) F' w' p c) : RelM C U' (s.app i ⟨r, (id, some c) :: gone⟩) (a.put i v) w' (newM m id p) := by
  have h0 := h.un id hid
  have hle := newM_le m id p h0
  have hone : ∀ j c', getL j ((id, some c) :: gone) = some (some c') → j = id ∧ c' = c := by
    intro j c' hj
    rw [getL_cons] at hj
    split at hj
    · rename_i e; exact ⟨e, by simpa using hj.symm⟩
    · exact absurd hj (hg j c')
  have hlt : ∀ j c0 q b, s.chunk j = some c0 → m j = some q → q.1 = some b → b < w.heap.size := by
    intro j c0 q b h1 h2 h3
    obtain ⟨q', hq', hr, _⟩ := h.ch j c0 h1
    rw [h2] at hq'
    obtain rfl : q = q' := by simpa using hq'
    exact hr.lt h3
  have hpk : ∀ k, Fz C m s w k → p.1 ≠ some k := by
    intro k hk' he
    rcases hp k he with ⟨h1, _⟩ | ⟨j, c0, q, _, h1, h2, h3⟩
    · have := hk'.2.1; omega
    · exact hk'.2.2 j c0 q h1 h2 h3
  refine h.step hd hle (fun j hj => ?_) hfr hsz (fun k hk' => ⟨fun j c' q hj hq => ?_, hk k hk'.2.1 (hpk k hk')⟩) (fun j c' q b hj h1 h2 h3 => ?_) (fun F' hF _ => ?_) (fun j j' c1 c2 q q' b hj hj' hq hq' he he' => ?_)
  · have := hU j hj
    simp [newM, this.2, h.un j this.1]
  · obtain ⟨rfl, _⟩ := hone j c' hj
    rw [newM_self] at hq
    obtain rfl : p = q := by simpa using hq
    exact hpk k hk'
  · have hb := hlt j c' q b h1 h2 h3
    refine hk b hb (fun he => ?_)
    rcases hp b he with ⟨h4, _⟩ | ⟨j', c0, q', h4, h5, h6, h7⟩
    · omega
    · have := h.inj j j' c' c0 q q' h1 h5 h2 h6 b h3 h7
      subst this
      rw [getL_cons] at hj
      split at hj
      · cases hj
      · rw [h4] at hj; cases hj
  · obtain ⟨hr, hc'⟩ := hc F' hF
    refine ⟨hr, fun j c1 hj => ?_⟩
    obtain ⟨rfl, rfl⟩ := hone j c1 hj
    refine ⟨_, newM_self _ _ _, hc', fun b hb => ?_⟩
    rcases hp b hb with ⟨h1, _⟩ | ⟨j', c0, q', _, h5, h6, h7⟩
    · exact .inr (Nat.le_trans h.fr.size h1)
    · obtain ⟨q2, hq2, _, hl⟩ := h.ch j' c0 h5
      rw [h6] at hq2
      obtain rfl : q' = q2 := by simpa using hq2
      exact hl b h7
  · obtain ⟨rfl, _⟩ := hone j c1 hj
    rw [newM_self] at hq
    obtain rfl : p = q := by simpa using hq
    by_cases hjj : j' = j
    · exact hjj.symm
    · rw [ASt.chunk_app, getL_cons, if_neg hjj] at hj'
      have hgn : getL j' gone = none := by
        cases hgg : getL j' gone with
        | none => rfl
        | some x =>
          rw [hgg] at hj'
          simp only at hj'
          subst hj'
          exact absurd hgg (hg j' c2)
      rw [hgn] at hj'
      simp only at hj'
      obtain ⟨q2, hq2, _⟩ := h.ch j' c2 hj'
      have e := hle j' q2 hq2
      rw [hq'] at e
      obtain rfl : q' = q2 := by simpa using e
      rcases hp b he with ⟨h1, _⟩ | ⟨j3, c0, q3, h4, h5, h6, h7⟩
      · have := hlt j' c2 q' b hj' hq2 he'; omega
      · have := h.inj j' j3 c2 c0 q' q3 hj' h5 hq2 h6 b he' h7
        subst this
        rw [hgn] at h4; cases h4
theorem getL_one {α : Type} {id j : Nat} {c c' : α} (h : getL j [(id, c)] = some c') : j = id ∧ c' = c := by
  rw [getL_cons] at h
  split at h
  · rename_i e; exact ⟨e, by simpa using h.symm⟩
  · simp [getL] at h

/-- A new block under a new name. -/
theorem RelM.new (h : RelM C U s a w m) {i : Option Nat} (hd : dstOk i s.n = true) {id cap : Nat} {c : Chunk} {r : AV} {v : Value} (o : Obj) (hid : U id) (hU : ∀ j, U' j → U j ∧ j ≠ id)
    (hc : ∀ F', (∀ k, Fz C m s w k → F' k ∧ (w.alloc o).heap[k]? = w.heap[k]?) → ARep (newM m id (some w.heap.size, cap)) F' (w.alloc o) r v ∧ CRep (newM m id (some w.heap.size, cap)) F' (w.alloc o) (some w.heap.size, cap) c) : RelM C U' (s.app i ⟨r, [(id, some c)]⟩) (a.put i v) (w.alloc o) (newM m id (some w.heap.size, cap)) :=
  h.named hd hid hU (fun j c hj => by simp [getL] at hj) (h.fr.alloc o) (by simp) (fun b hb => .inl (by simp only [Option.some.injEq] at hb; subst hb; simp)) (fun k hk _ => Below.heap_alloc w o k hk) hc
theorem RelM.newCells (h : RelM C U s a w m) {i : Option Nat} (hd : dstOk i s.n = true) {id t : Nat} {cs : List AV} {vs : Array Value} (hid : U id) (hU : ∀ j, U' j → U j ∧ j ≠ id) (h1 : vs.size = cs.length) (h2 : ∀ (i : Nat) (c : AV), cs[i]? = some c → ARep m (Fz C m s w) w c (vs.getD i undef))
    (h3 : ∀ i, i < vs.size → (vs.getD i undef).oneCell' = true) : RelM C U' (s.app i ⟨.ptr id 0, [(id, some (.cells t cs))]⟩) (a.put i (.pointer (some ⟨w.heap.size, 0, none⟩))) (w.alloc (.cells vs t (0, 0))) (newM m id (some w.heap.size, 0)) :=
  h.new hd _ hid hU fun F' hF => ⟨.ptr (newM_self _ _ _), .cells (heap_alloc_new w _) h1 (fun i c hc => (h2 i c hc).turn (newM_le _ _ _ (h.un id hid)) (fun k hk _ => hF k hk)) h3⟩
theorem RelM.newArr (h : RelM C U s a w m) {i : Option Nat} (hd : dstOk i s.n = true) {id cap n : Nat} {e sz : Nat} {els : List (List DV)} {vs : Array Value} {fz : Nat × Nat} (hid : U id) (hU : ∀ j, U' j → U j ∧ j ≠ id) (h0 : ∀ i, i < vs.size → ¬ (fz.1 ≤ i ∧ i < fz.2)) (h1 : vs.size = cap * sz) (h2 : els.length ≤ cap) (h3 : cap ≤ maxLen) (h4 : 0 < sz) (h5 : ∀ (i : Nat) (cs : List DV), els[i]? = some cs → cs.length = sz)
    (h6 : ∀ (i : Nat) (cs : List DV) (j : Nat) (d : DV), els[i]? = some cs → cs[j]? = some d → DRep (Fz C m s w) w d (vs.getD (i * sz + j) undef)) : RelM C U' (s.app i ⟨.own id n, [(id, some (.arr e sz els))]⟩) (a.put i (.slice (some ⟨w.heap.size, 0, none⟩) n cap)) (w.alloc (.cells vs e fz)) (newM m id (some w.heap.size, cap)) :=
  h.new hd _ hid hU fun F' hF => ⟨.own (b := some w.heap.size) (newM_self _ _ _) (by simp), .arr (heap_alloc_new w _) h0 h1 h2 h3 h4 h5 (fun i cs j d hc hd => (h6 i cs j d hc hd).turn (fun k hk _ => hF k hk))⟩

/-- A write into one of the call's own blocks. -/
theorem RelM.turned (h : RelM C U s a w m) {i : Option Nat} (hd : dstOk i s.n = true) {w' : World} {id b cap : Nat} {c c' : Chunk} {r : AV} {v : Value} (hid : s.chunk id = some c) (hp : m id = some (some b, cap)) (hfr : Fr [b] w w')
    (hc : ∀ F', (∀ k, Fz C m s w k → F' k ∧ w'.heap[k]? = w.heap[k]?) → ARep m F' w' r v ∧ CRep m F' w' (some b, cap) c') : RelM C U (s.app i ⟨r, [(id, some c')]⟩) (a.put i v) w' m := by
  obtain ⟨q, hq, hr, hl⟩ := h.ch id c hid
  rw [hp] at hq
  obtain rfl : (some b, cap) = q := by simpa using hq
  have hk : ∀ k, k < w.heap.size → b ≠ k → w'.heap[k]? = w.heap[k]? := fun k hk hn => hfr.block k hk (by simpa using fun e => hn e.symm)
  refine h.step hd (MLe.refl m) h.un ?_ hfr.size (fun k hk' => ⟨fun j c1 q hj hq => ?_, hk k hk'.2.1 (fun e => hk'.2.2 id c _ hid hp (by simp [e]))⟩) (fun j c1 q b' hj h1 h2 h3 => ?_) (fun F' hF _ => ?_) (fun j j' c1 c2 q q' b' hj hj' h1 h2 he he' => ?_)
  · refine h.fr.trans_new hfr (fun i hi => ?_)
    obtain rfl : i = b := by simpa using hi
    exact hl i rfl
  · obtain ⟨rfl, _⟩ := getL_one hj
    rw [hp] at hq
    obtain rfl : (some b, cap) = q := by simpa using hq
    exact hk'.2.2 j c _ hid hp
  · obtain ⟨q', hq', hr', _⟩ := h.ch j c1 h1
    rw [h2] at hq'
    obtain rfl : q = q' := by simpa using hq'
    refine hk _ (hr'.lt h3) (fun e => ?_)
    have := h.inj id j c c1 _ q hid h1 hp h2 b rfl (by rw [h3, e])
    subst this
    rw [getL_cons, if_pos rfl] at hj
    cases hj
  · obtain ⟨h1, h2⟩ := hc F' hF
    refine ⟨h1, fun j c1 hj => ?_⟩
    obtain ⟨rfl, he⟩ := getL_one hj
    obtain rfl : c1 = c' := by simpa using he
    exact ⟨_, hp, h2, hl⟩
  · obtain ⟨rfl, _⟩ := getL_one hj
    rw [ASt.chunk_app, getL_cons] at hj'
    by_cases hjj : j' = j
    · exact hjj.symm
    · rw [if_neg hjj] at hj'
      exact h.inj j j' c c2 q q' hid (by simpa [getL] using hj') h1 h2 b' he he'
end
end Go.Proofs.Ytochebmkfdfbhaa
