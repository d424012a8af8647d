/- New blocks, writes into the call's own blocks, append. No program is named here. -/
import Derived.Test.YtochebmkfdfbhaaA6
import Derived.Deep.Upon
set_option linter.all false
namespace Go.Proofs.Ytochebmkfdfbhaa
open Go.RowKit

/-- Data that a slot's reading gives: the same, or no elements for the slice that is nil. -/
inductive DVIs : DV → AV → Prop
  | same {x : DV} : DVIs x (.d x)
  | nil {e sz : Nat} : DVIs (.view e sz []) (.d (.val (.slice none 0 0)))

def setSeg (arr : Array Value) : Nat → List Value → Array Value
  | _, [] => arr
  | o, v :: vs => setSeg (arr.setIfInBounds o v) (o + 1) vs
theorem setSeg_size : ∀ (vs : List Value) (arr : Array Value) (o : Nat), (setSeg arr o vs).size = arr.size
  | [], arr, o => rfl
  | v :: vs, arr, o => by simp [setSeg, setSeg_size vs]
theorem setSeg_get : ∀ (vs : List Value) (arr : Array Value) (o : Nat), o + vs.length ≤ arr.size → ∀ i, (setSeg arr o vs).getD i undef = if o ≤ i ∧ i < o + vs.length then vs.getD (i - o) undef else arr.getD i undef
  | [], arr, o, h, i => by simp [setSeg]; omega
  | v :: vs, arr, o, h, i => by
    simp only [List.length_cons] at h ⊢
    rw [setSeg, setSeg_get vs _ _ (by simp; omega) i]
    by_cases h1 : o + 1 ≤ i ∧ i < o + 1 + vs.length
    · rw [if_pos h1, if_pos (by omega)]
      have : i - o = (i - (o + 1)) + 1 := by omega
      rw [this]; simp
    · rw [if_neg h1]
      by_cases h2 : i = o
      · subst h2
        rw [if_pos (by omega)]
        have : i < arr.size := by omega
        simp [this]
      · rw [if_neg (by omega)]
        simp [Array.getElem?_setIfInBounds_ne (Ne.symm h2)]
theorem heap_setCell_at {w : World} {b t : Nat} {arr : Array Value} {fz : Nat × Nat} (h : w.heap[b]? = some (.cells arr t fz)) (o : Nat) (v : Value) : (w.setCell ⟨b, o, none⟩ v).heap[b]? = some (.cells (arr.setIfInBounds o v) t fz) := by
  have hlt := lt_of_block h
  have h' : w.heap[b] = .cells arr t fz := by simpa [Array.getElem?_eq_getElem hlt] using h
  show (w.heap.modify b _)[b]? = _
  rw [Array.getElem?_eq_getElem (by simpa using hlt), Array.getElem_modify_self, h']
  simp
theorem heap_setCells_at {b t : Nat} {fz : Nat × Nat} : ∀ (vs : List Value) (w : World) (arr : Array Value) (o : Nat), w.heap[b]? = some (.cells arr t fz) → (w.setCells b o vs).heap[b]? = some (.cells (setSeg arr o vs) t fz)
  | [], w, arr, o, h => h
  | v :: vs, w, arr, o, h => by
    have := heap_setCells_at vs (w.setCell ⟨b, o, none⟩ v) _ (o + 1) (heap_setCell_at h o v)
    simpa [World.setCells, setSeg] using this
theorem fr_setCells {b : Nat} : ∀ (vs : List Value) (w : World) (o : Nat), Fr [b] w (w.setCells b o vs)
  | [], w, o => Fr.refl _ _
  | v :: vs, w, o => by
    have h1 : Fr [b] w (w.setCell ⟨b, o, none⟩ v) := (Fr.refl [b] w).setCell (p := ⟨b, o, none⟩) (.inl (by simp)) v
    have := h1.trans (fr_setCells vs (w.setCell ⟨b, o, none⟩ v) (o + 1))
    simpa [World.setCells] using this

section
variable {P : Program} [PT P]
variable {s : ASt} {dst : Option Nat} {ty : Nat} {pos : String} {af : Array Edge} {gd : Option (Nat × Bool)} {x y : Operand} {t f : Nat} {ts : TS}

theorem h_box {cs : List AV} (h : (s.ev x).cells? = some cs) : NOp P [] s ⟨dst, .box t x, ty, pos, af, gd⟩ f ⟨.ptr f 0, [(f, some (.cells t cs))]⟩ := by
  refine NOp.value fun s' ha C U U' a w m hR hU hU' hd => ?_
  have hv := hR.ev x
  rw [ha.2.1 x (by simp [Op.operands])] at hv
  obtain ⟨h1, h2, h3⟩ := cells_rep hv h
  exact ⟨_, _, _, by simp [execOp, Instr.box, newVar, newRow], hR.newCells hd (by simpa using hU 0 (by omega)) (fun j hj => by have := hU' j hj; exact ⟨this.1, by omega⟩) h1 h2 h3⟩

/-- A new block that nobody will write. -/
theorem RelM.fresh {C : Ctx} {U : Nat → Prop} {a : Act} {w : World} {m : Nat → Option (Option Nat × Nat)} (h : RelM C U s a w m) {i : Option Nat} (hd : dstOk i s.n = true) {r : AV} {v : Value} (o : Obj)
    (hr : ∀ F', (∀ k, Fz C m s w k → F' k ∧ (w.alloc o).heap[k]? = w.heap[k]?) → F' w.heap.size → ARep m F' (w.alloc o) r v) : RelM C U (s.app i ⟨r, []⟩) (a.put i v) (w.alloc o) m := by
  have hch : ∀ id c p b, s.chunk id = some c → m id = some p → p.1 = some b → b < w.heap.size := by
    intro id c p b hc hp hb
    obtain ⟨q, hq, hr, _⟩ := h.ch id c hc
    rw [hp] at hq
    obtain rfl : p = q := by simpa using hq
    exact hr.lt hb
  refine h.step hd (MLe.refl m) h.un (h.fr.alloc o) (by simp) (fun k hk => ⟨fun id c p hc => by simp [getL] at hc, Below.heap_alloc w o k hk.2.1⟩) (fun id c p b _ hc hp hb => Below.heap_alloc w o _ (hch id c p b hc hp hb)) (fun F' hF hF2 => ⟨hr F' hF (hF2 _ (.inr (.inr h.fr.size)) (by simp) (fun id c p hc hp hb => ?_)), fun id c hc => by simp [getL] at hc⟩) (fun id id' c c' p p' b hc => by simp [getL] at hc)
  rw [ASt.chunk_app] at hc
  have := hch id c p _ (by simpa [getL] using hc) hp hb
  omega
theorem h_boxF {cs : List AV} {ds : List DV} (h : (s.ev x).cells? = some cs) (hds : dvs cs = some ds) : NOp P [] s ⟨dst, .box t x, ty, pos, af, gd⟩ f ⟨.d (.ref ds), []⟩ := by
  refine NOp.value fun s' ha C U U' a w m hR hU hU' hd => ?_
  have hv := hR.ev x
  rw [ha.2.1 x (by simp [Op.operands])] at hv
  obtain ⟨h1, h2, h3⟩ := cells_rep hv h
  have hcs := dvs_eq hds
  subst hcs
  refine ⟨_, _, _, by simp [execOp, Instr.box, newVar, newRow]; exact ⟨rfl, rfl⟩, (hR.fresh hd _ (fun F' hF hn => .d (.ref hn (heap_alloc_new w _) (by simp at h1; omega) (fun j d hj => ?_)))).weaken rfl (fun _ => .inr rfl) (fun _ _ h => h) (fun j hj => (hU' j hj).1)⟩
  have := h2 j (.d d) (by rw [List.getElem?_map, hj]; rfl)
  cases this with
  | d hd => rw [Nat.zero_add]; exact hd.turn (fun k hk _ => hF k hk)

theorem h_alloc (ht : PT.ty P t = some ts) : NOp P [] s ⟨dst, .alloc t, ty, pos, af, gd⟩ f ⟨.ptr f 0, [(f, some (.cells t (ts.zero.map ZK.av)))]⟩ := by
  refine NOp.value fun s' ha C U U' a w m hR hU hU' hd => ?_
  obtain ⟨i, d, z, hi, hd', hk, h1, h2, h3, h4⟩ := PT.facts ht
  refine ⟨.pointer (some ⟨w.heap.size, 0, none⟩), w.alloc (.cells z.cells t (0, 0)), _, ?_, hR.newCells hd (by simpa using hU 0 (by omega)) (fun j hj => by have := hU' j hj; exact ⟨this.1, by omega⟩) (by rw [h4]; simp) (fun i c hc => ?_) (fun i hi => ?_)⟩
  · simp [execOp, Instr.alloc, zeroValue, typeInfo, hi, h3, newVar, newRow]
  · rw [List.getElem?_map, Option.map_eq_some_iff] at hc
    obtain ⟨k, hk, rfl⟩ := hc
    have : z.cells.getD i undef = k.val := by rw [h4]; simp [Array.getD_eq_getD_getElem?, hk]
    rw [this]
    exact .d (.val k.ok)
  · rw [h4] at hi ⊢
    have hi' : i < ts.zero.length := by simpa using hi
    simp only [Array.getD_eq_getD_getElem?, List.getElem?_toArray, List.getElem?_map, List.getElem?_eq_getElem hi', Option.map_some, Option.getD_some]
    exact (ZK.ok _).one

/-- A part of a list is replaced. -/
def setL {α : Type} : List α → Nat → List α → List α
  | l, _, [] => l
  | l, k, v :: vs => setL (l.set k v) (k + 1) vs
theorem setL_get {α : Type} : ∀ (vs l : List α) (k : Nat), k + vs.length ≤ l.length → ∀ i, (setL l k vs)[i]? = if k ≤ i ∧ i < k + vs.length then vs[i - k]? else l[i]?
  | [], l, k, h, i => by simp [setL]; omega
  | v :: vs, l, k, h, i => by
    simp only [List.length_cons] at h ⊢
    rw [setL, setL_get vs _ _ (by simp; omega) i]
    by_cases h1 : k + 1 ≤ i ∧ i < k + 1 + vs.length
    · rw [if_pos h1, if_pos (by omega)]
      have : i - k = (i - (k + 1)) + 1 := by omega
      rw [this]; simp
    · rw [if_neg h1]
      by_cases h2 : i = k
      · subst h2
        rw [if_pos (by omega)]
        simp [show i < l.length by omega]
      · rw [if_neg (by omega)]
        simp [List.getElem?_set_ne (Ne.symm h2)]
theorem setL_length {α : Type} : ∀ (vs l : List α) (k : Nat), (setL l k vs).length = l.length
  | [], l, k => rfl
  | v :: vs, l, k => by simp [setL, setL_length vs]

theorem run_storeAt {w : World} {b o e : Nat} {arr : Array Value} {fz : Nat × Nat} (ht : PT.ty P t = some ts) (hb : w.heap[b]? = some (.cells arr e fz)) (hf : ∀ k, k < arr.size → ¬ (fz.1 ≤ k ∧ k < fz.2)) {v : Value} (hs : v.cells.size = ts.size) (hle : o + ts.size ≤ arr.size)
    (h1 : ∀ i, i < v.cells.size → (v.cells.getD i undef).oneCell' = true) : (Instr.storeAt t (.pointer (some ⟨b, o, none⟩)) v).run P w = .ok () (w.setCells b o v.cells.toList) := by
  have := run_storeCells_cells (P := P) b o v.cells.toList 0 w (fun j hj => ?_) (fun j hj => ?_) (fun u hu => ?_)
  · simp only [Instr.storeAt, Instr.sureAddr, storeVar, Sem.run_bind, Sem.run_pure, Result.andThen_ok, PT.runSize ht, hs]
    simpa using this
  · simp only [Array.length_toList] at hj
    rw [cell_getD hb (by omega)]; rfl
  · simp only [Array.length_toList] at hj
    have := hf (o + 0 + j) (by omega)
    simp only [World.frozen?, hb]
    simp only [Nat.not_lt, not_and] at this
    by_cases hh : fz.1 ≤ o + 0 + j
    · have := this hh
      simp only [Bool.and_eq_false_iff, decide_eq_false_iff_not]; right; omega
    · simp only [Bool.and_eq_false_iff, decide_eq_false_iff_not]; left; omega
  · obtain ⟨i, hi⟩ := List.getElem?_of_mem hu
    have hlt := (List.getElem?_eq_some_iff.1 hi).1
    have := h1 i (by simpa using hlt)
    rw [Array.getD_eq_getD_getElem?, ← Array.getElem?_toList, hi] at this
    exact this
theorem toList_getD (v : Array Value) (i : Nat) : v.toList.getD i undef = v.getD i undef := by simp [Array.getD_eq_getD_getElem?, List.getD]
theorem h_store {id k tt : Nat} {cs vs : List AV} (ht : PT.ty P t = some ts) (hx : s.ev x = .ptr id k) (hc : s.chunk id = some (.cells tt cs)) (hy : (s.ev y).cells? = some vs) (hl : vs.length = ts.size) (hk : Nat.ble (k + vs.length) cs.length = true) :
    NOp P [id] s ⟨dst, .store t x y, ty, pos, af, gd⟩ f ⟨.dead, [(id, some (.cells tt (setL cs k vs)))]⟩ := by
  refine ⟨fun s' ha C U U' a w m hR hU hU' hd K Q hK => ?_⟩
  have hxr := hR.ev x
  rw [ha.2.1 x (by simp [Op.operands]), hx] at hxr
  have hyr := hR.ev y
  rw [ha.2.1 y (by simp [Op.operands])] at hyr
  have hc' : s'.chunk id = some (.cells tt cs) := by rw [ha.2.2 id (by simp)]; exact hc
  obtain ⟨g1, g2, g3⟩ := cells_rep hyr hy
  have hk : k + vs.length ≤ cs.length := by simpa using hk
  generalize hxv : a.eval x = xv at hxr
  cases hxr with
  | ptr hp =>
    rename_i b cap
    have hC := hR.chunkAt hc' hp
    cases hC with
    | cells hb hs he h1 =>
      rename_i arr
      have hrun := run_storeAt (P := P) (o := k) ht hb (fun k _ => by simp) (v := a.eval y) (by omega) (by omega) g3
      have hg : ∀ i, (setSeg arr k (a.eval y).cells.toList).getD i undef = if k ≤ i ∧ i < k + vs.length then (a.eval y).cells.getD (i - k) undef else arr.getD i undef := by
        intro i
        rw [setSeg_get _ _ _ (by simp; omega) i]
        simp only [Array.length_toList, g1, toList_getD]
      have hR' := hR.turned (i := dst) (r := .dead) (v := undef) (w' := w.setCells b k (a.eval y).cells.toList) (c' := .cells tt (setL cs k vs)) hd hc' hp (fr_setCells _ w k) (fun F' hF => ⟨.dead, .cells (heap_setCells_at _ w _ k hb) (by rw [setSeg_size, setL_length]; exact hs) (fun i c hi => ?_) (fun i hi => ?_)⟩)
      · unfold Oper.wp
        simp only [execOp, Sem.run_bind, hxv, hrun, Result.andThen_ok, Sem.run_pure, Oper.upon]
        exact hK _ _ m (hR'.weaken rfl (fun _ => .inr rfl) (fun _ _ h => h) (fun j hj => (hU' j hj).1))
      · rw [hg]
        rw [setL_get _ _ _ hk] at hi
        split
        · rename_i hh
          rw [if_pos hh] at hi
          exact (g2 _ _ hi).turn (MLe.refl m) (fun k hk _ => hF k hk)
        · rename_i hh
          rw [if_neg hh] at hi
          exact (he _ _ hi).turn (MLe.refl m) (fun k hk _ => hF k hk)
      · rw [hg]
        rw [setSeg_size] at hi
        by_cases hh : k ≤ i ∧ i < k + vs.length
        · rw [if_pos hh]; exact g3 _ (by omega)
        · rw [if_neg hh]; exact h1 _ hi
/-- One cell of an element behind a slice is written. -/
theorem h_store_arr {id k e sz i j : Nat} {els : List (List DV)} {cs : List DV} {d : DV} (ht : PT.ty P t = some ts) (h1s : ts.size = 1) (hx : s.ev x = .ptr id k) (hc : s.chunk id = some (.arr e sz els)) (hy : DVIs d (s.ev y)) (hk : k = i * sz + j) (hi : els[i]? = some cs) (hj : j < sz) :
    NOp P [id] s ⟨dst, .store t x y, ty, pos, af, gd⟩ f ⟨.dead, [(id, some (.arr e sz (els.set i (cs.set j d))))]⟩ := by
  refine ⟨fun s' ha C U U' a w m hR hU hU' hd K Q hK => ?_⟩
  have hxr := hR.ev x
  rw [ha.2.1 x (by simp [Op.operands]), hx] at hxr
  have hyr := hR.ev y
  rw [ha.2.1 y (by simp [Op.operands])] at hyr
  have hc' : s'.chunk id = some (.arr e sz els) := by rw [ha.2.2 id (by simp)]; exact hc
  have hyd : DRep (Fz C m s' w) w d (a.eval y) := by
    generalize s.ev y = z at hyr hy
    cases hy with
    | same => cases hyr with | d h => exact h
    | nil => rw [hyr.val_eq.1]; exact .nil
  have hone := hyd.one
  have hcells : (a.eval y).cells = #[a.eval y] := by
    generalize a.eval y = v at hone
    cases v <;> first | rfl | cases hone
  generalize hxv : a.eval x = xv at hxr
  cases hxr with
  | ptr hp =>
    rename_i b cap
    have hC := hR.chunkAt hc' hp
    cases hC with
    | arr hb hf hs hl hm h0 hsz he =>
      rename_i arr fz
      have hlt := (List.getElem?_eq_some_iff.1 hi).1
      have hcs := hsz i cs hi
      have hin : i * sz + j < arr.size := by
        have : (i + 1) * sz ≤ cap * sz := Nat.mul_le_mul_right _ (by omega)
        rw [Nat.succ_mul] at this
        omega
      have hrun := run_storeAt (P := P) (o := k) ht hb hf (v := a.eval y) (by rw [hcells, h1s]; rfl) (by omega) (fun i hi => by rw [hcells] at hi ⊢; simp at hi; subst hi; exact hone)
      have hg : ∀ q, (setSeg arr k (a.eval y).cells.toList).getD q undef = if q = k then a.eval y else arr.getD q undef := by
        intro q
        rw [setSeg_get _ _ _ (by rw [hcells]; simp; omega) q, hcells]
        by_cases hq : q = k
        · subst hq; simp
        · rw [if_neg (by simp; omega), if_neg hq]
      have hR' := hR.turned (i := dst) (r := .dead) (v := undef) (w' := w.setCells b k (a.eval y).cells.toList) (c' := .arr e sz (els.set i (cs.set j d))) hd hc' hp (fr_setCells _ w k) (fun F' hF => ⟨.dead, .arr (heap_setCells_at _ w _ k hb) (by rw [setSeg_size]; exact hf) (by rw [setSeg_size]; exact hs) (by simpa using hl) hm h0 (fun i' cs' hi' => ?_) (fun i' cs' j' d' hi' hj' => ?_)⟩)
      · unfold Oper.wp
        simp only [execOp, Sem.run_bind, hxv, hrun, Result.andThen_ok, Sem.run_pure, Oper.upon]
        exact hK _ _ m (hR'.weaken rfl (fun _ => .inr rfl) (fun _ _ h => h) (fun j hj => (hU' j hj).1))
      · by_cases hii : i = i'
        · subst hii
          rw [List.getElem?_set_self hlt] at hi'
          simp only [Option.some.injEq] at hi'
          subst hi'; simpa using hcs
        · rw [List.getElem?_set_ne hii] at hi'
          exact hsz i' cs' hi'
      · rw [hg]
        by_cases hii : i = i'
        · subst hii
          rw [List.getElem?_set_self hlt] at hi'
          simp only [Option.some.injEq] at hi'
          subst hi'
          by_cases hjj : j = j'
          · subst hjj
            rw [if_pos hk.symm]
            rw [List.getElem?_set_self (by omega)] at hj'
            simp only [Option.some.injEq] at hj'
            subst hj'
            exact hyd.turn (fun k hk _ => hF k hk)
          · rw [if_neg (by omega)]
            rw [List.getElem?_set_ne hjj] at hj'
            exact (he i cs j' d' hi hj').turn (fun k hk _ => hF k hk)
        · have hj2 : j' < sz := by
            rw [List.getElem?_set_ne hii] at hi'
            have := hsz i' cs' hi'
            have := (List.getElem?_eq_some_iff.1 hj').1
            simpa [‹cs'.length = sz›] using this
          rw [List.getElem?_set_ne hii] at hi'
          rw [if_neg]
          · exact (he i' cs' j' d' hi' hj').turn (fun k hk _ => hF k hk)
          · rw [hk]
            intro heq
            rcases Nat.lt_or_gt_of_ne hii with h | h
            · have : (i + 1) * sz ≤ i' * sz := Nat.mul_le_mul_right _ h
              rw [Nat.succ_mul] at this
              omega
            · have : (i' + 1) * sz ≤ i * sz := Nat.mul_le_mul_right _ h
              rw [Nat.succ_mul] at this
              omega
/-- .. where elements are of one cell. -/
theorem h_store_arr1 {id k e : Nat} {els : List (List DV)} {d cs'0 : DV} (ht : PT.ty P t = some ts) (h1s : ts.size = 1) (hx : s.ev x = .ptr id k) (hc : s.chunk id = some (.arr e 1 els)) (hy : DVIs d (s.ev y)) (hi : els[k]? = some [cs'0]) :
    NOp P [id] s ⟨dst, .store t x y, ty, pos, af, gd⟩ f ⟨.dead, [(id, some (.arr e 1 (els.set k [d])))]⟩ := h_store_arr (i := k) (j := 0) ht h1s hx hc hy (by simp) hi (by omega)
end
end Go.Proofs.Ytochebmkfdfbhaa
