/- A nil slice's room; room made by zeros; ways out that hand back new blocks. No program is named here. -/
import Derived.Test.YtochebmkfdfbhaaC1
import Derived.Lib.AppendZerosOnto
set_option linter.all false
namespace Go.Proofs.Ytochebmkfdfbhaa
open Go.RowKit

section
variable {P : Program} [PT P]
variable {s : ASt} {dst : Option Nat} {ty : Nat} {pos : String} {af : Array Edge} {gd : Option (Nat × Bool)} {x y : Operand} {t u f : Nat}

theorem g_cap_nil {n bt e : Nat} {zs : List ZK} (ht : PT.ty P t = some ⟨.slice e, n, bt, zs⟩) (h : s.ev x = .d (.val (.slice none 0 0))) : GOp P [] s ⟨dst, .call { callee := .builtin .cap, args := #[x], argTypes := #[t] }, ty, pos, af, gd⟩ (aI (0 : Nat)) := by
  refine g_vals1 x (by simp [Op.operands, Call.operands]) h fun A w e1 _ => ⟨?_, ok_len (by simp [maxLen])⟩
  simp [execOp, resolve, invoke, builtin, e1, run_cap_slice w t ty none 0 0 (elem_slice (PT.slice ht)), goInt]
theorem g_slice_nil {e n bt : Nat} {zs : List ZK} {te : TS} {hi : Option Operand} (ht : PT.ty P t = some ⟨.slice e, n, bt, zs⟩) (he : PT.ty P e = some te) (hx : s.ev x = .d (.val (.slice none 0 0))) (hhi : OptEv s hi 0 0) :
    GOp P [] s ⟨dst, .slice t x none hi none, ty, pos, af, gd⟩ (.d (.val (.slice none 0 0))) := by
  refine ⟨fun s' ha C U a w m hR => ?_⟩
  have hv := hR.ev x
  rw [ha.2.1 x (by simp [Op.operands]), hx] at hv
  have ohi := optEv_run ha hR hhi (by rintro x rfl; simp [Op.operands])
  obtain ⟨e1, _⟩ := hv.val_eq
  have hb := run_bounds (P := P) (isS := true) (len := 0) (cap := 0) (lo := none) (mx := none) (l := 0) (mm := 0) (.inl ⟨rfl, rfl⟩) ohi (.inl ⟨rfl, rfl⟩) (Nat.zero_le _) (Nat.le_refl _) (Nat.le_refl _) w
  refine ⟨_, ?_, .d (.val trivial)⟩
  simp only [execOp, Sem.run_bind, e1, Option.map_none, run_sliceS ht he rfl hb, Result.andThen_ok, Sem.run_pure]
  split <;> simp

theorem h_growZ {e n bt n2 bt2 sz k tn : Nat} {zs zs2 : List ZK} {te : TS} {I : Int} (ht : PT.ty P t = some ⟨.slice e, n, bt, zs⟩) (htn : PT.ty P tn = some ⟨.int .i64, n2, bt2, zs2⟩) (he : PT.ty P e = some te) (hs : te.size = sz) (hz0 : te.zero.length = te.size) (h0 : Nat.beq sz 0 = false)
    (hx : s.ev x = .d (.val (.slice none 0 0))) (hy : s.ev y = aI I) (hI : I = (k : Int)) (hk0 : 0 < k) (hml : k ≤ 1125899906842624) (hbytes : k * te.bytes ≤ 140737488355328) :
    NOp P [] s ⟨dst, .call { callee := .builtin .append, args := #[x, y], argTypes := #[t, tn] }, ty, pos, af, gd⟩ f ⟨.own f k, [(f, some (.arr e sz []))]⟩ := by
  refine NOp.value fun s' ha C U U' a w m hR hU hU' hd => ?_
  have hne : sz ≠ 0 := Nat.ne_of_beq_eq_false h0
  obtain ⟨i, d, z, hi, hd', hkd, h1, h2, h3, h4⟩ := PT.facts he
  have hvx := hR.ev x
  rw [ha.2.1 x (by simp [Op.operands, Call.operands]), hx] at hvx
  obtain ⟨ex, _⟩ := hvx.val_eq
  have hvy := hR.ev y
  rw [ha.2.1 y (by simp [Op.operands, Call.operands]), hy] at hvy
  obtain ⟨ey, _⟩ := hvy.val_eq
  have hcapn := nextslicecap_le (need := 0 + k) (old := 0) (by omega)
  have hrun := Lib.run_append_grow_zeros (P := P) w t tn ty e i z .i64 .i64 (PT.slice ht) (PT.int htn) hi h3 none 0 0 [] (run_firstCells_none w.drew i.size 0 0 0) k hk0 (by omega) (by omega) (by omega) (by rw [h2]; omega) (by
    rw [h2]
    have : Builtin.nextslicecap (0 + k) 0 * te.bytes ≤ 2 * (0 + k) * te.bytes := Nat.mul_le_mul_right _ hcapn
    rw [Nat.zero_add, Nat.mul_assoc] at this
    rw [Nat.zero_add]
    omega)
  have hge := grownCap_ge w (0 + k) 0 e
  have hzc : z.cells.size = sz := by rw [h4]; simp [hz0, hs]
  have hXs : (Builtin.zeroCells z.cells k ++ Builtin.zeroCells z.cells (grownCap w (0 + k) 0 e - (0 + k))).size = grownCap w (0 + k) 0 e * sz := by
    simp only [Array.size_append, Builtin.zeroCells]
    simp [hzc]
    simp only [Nat.zero_add] at hge
    rw [← Nat.add_mul]; congr 1; omega
  have hexec : ∀ v w', (Builtin.append_ #[t, tn] ty #[a.eval x, a.eval y]).run P w = .ok v w' → (execOp a.eval ⟨dst, .call { callee := .builtin .append, args := #[x, y], argTypes := #[t, tn] }, ty, pos, af, gd⟩).run P w = .ok (.value v) w' := by
    intro v w' h
    simp [execOp, resolve, invoke, builtin, h]
  have hU0 : U f := by simpa using hU 0 (by omega)
  have hU1 : ∀ j, U' j → U j ∧ j ≠ f := fun j hj => by have := hU' j hj; exact ⟨this.1, by omega⟩
  simp only [List.toArray, Array.empty_append, Array.append_assoc, Nat.zero_add] at hrun hXs hge
  generalize Builtin.zeroCells z.cells k ++ Builtin.zeroCells z.cells (grownCap w k 0 e - k) = X at hrun hXs
  have hfrd : Fr C.S C.w (w.drew.alloc (.cells X e)) := (hR.fr.drew).alloc _
  have hsame : ∀ (o : Obj) k, k < w.heap.size → (w.drew.alloc o).heap[k]? = w.heap[k]? := fun o k hk => Below.heap_alloc w.drew o k hk
  have hhb : (w.drew.alloc (.cells X e)).heap[w.heap.size]? = some (.cells X e (0, 0)) := heap_alloc_new w.drew _
  refine ⟨_, _, _, hexec _ _ (by rw [ex, ey, hI]; exact hrun), hR.named (p := (some w.heap.size, grownCap w k 0 e)) (c := .arr e sz []) hd hU0 hU1 (fun j c hj => by simp [getL] at hj) hfrd (by simp) (fun b hb => .inl (by simp only [Option.some.injEq] at hb; subst hb; simp)) (fun k hk _ => hsame _ k hk) (fun F' hF => ⟨?_, CRep.arr hhb (by simp) hXs (by simp) (grownCap_le_maxLen _ _ _ _ (by simp only [maxLen]; omega)) (by omega) (fun i' cs hic => by simp at hic) (fun i' cs j d' hic hjd => by simp at hic)⟩)⟩
  exact .own (b := some w.heap.size) (newM_self _ _ _) (by simp)

/-- The end of a function that turns the blocks it was handed and makes new ones: ρ says which names they have within. -/
theorem retN (ρ : List (Nat × Nat)) {fn : Func} {k : Nat} {x r : AV} {chs' : List (Nat × Chunk)} (hx : resAV P s fn.results.toList = some x) (h : r.leads (sig k ρ) x) (hc : leadsC (sig k ρ) s (chL chs')) (ha : apartL (sig k ρ) (keysC (chL chs')) = true) (hρ : ρ.all (fun p => Nat.blt p.1 (k + 8)) = true) : RetQ P fn k (Fun1 r chs') s :=
  ⟨⟨x, r, chs', ρ, hx, ⟨rfl, rfl⟩, h, fun id c hc' => (leadsC_get hc id c (by rw [getL_chL]; exact hc')).1, fun id hid => by
    have : Nat.blt id k = false := by cases hb : Nat.blt id k with
      | true => have : id < k := by simpa using hb
                omega
      | false => rfl
    have h2 : getL id ρ = none := by
      cases hg : getL id ρ with
      | none => rfl
      | some v =>
        have : ∀ (l : List (Nat × Nat)), l.all (fun p => Nat.blt p.1 (k + 8)) = true → getL id l = some v → id < k + 8 := by
          intro l
          induction l with
          | nil => intro _ h; simp [getL] at h
          | cons p l ih =>
            intro h1 h2
            rw [getL_cons] at h2
            simp only [List.all_cons, Bool.and_eq_true] at h1
            split at h2
            · rename_i e; have := h1.1; rw [e]; simpa using this
            · exact ih h1.2 h2
        have := this ρ hρ hg
        omega
    simp [sig, this, h2], fun id id' j h1 h2 h3 h4 => by
    obtain ⟨c, h1⟩ := h1
    obtain ⟨c', h2⟩ := h2
    exact apartL_inj ha id id' j (leadsC_get hc id c (by rw [getL_chL]; exact h1)).2 (leadsC_get hc id' c' (by rw [getL_chL]; exact h2)).2 h3 h4⟩⟩
end
end Go.Proofs.Ytochebmkfdfbhaa
