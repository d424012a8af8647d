/- Operations that look into memory: places, loads, lengths, parts of slices and strings, structs. No program is named here. -/
import Derived.Test.YtochebmkfdfbhaaA4
set_option linter.all false
namespace Go.Proofs.Ytochebmkfdfbhaa
open Go.RowKit

/-- Data of a reading, where it is no more than data. -/
def AV.dv : AV → Option DV
  | .d x => some x
  | _ => none

section
variable {P : Program} [PT P]
variable {s : ASt} {dst : Option Nat} {ty : Nat} {pos : String} {af : Array Edge} {gd : Option (Nat × Bool)} {x y : Operand} {t : Nat} {ts : TS}
variable {C : Ctx} {U : Nat → Prop} {a : Act} {w : World} {m : Nat → Option (Option Nat × Nat)}

theorem RelM.chunkAt (h : RelM C U s a w m) {id : Nat} {c : Chunk} (hc : s.chunk id = some c) {p : Option Nat × Nat} (hp : m id = some p) : CRep m (Fz C m s w) w p c := by
  obtain ⟨q, hq, hr, _⟩ := h.ch id c hc
  rw [hp] at hq
  obtain rfl : p = q := by simpa using hq
  exact hr

/-- Cells from a place on. -/
theorem range_of {w : World} {b off n e : Nat} {arr : Array Value} {fz : Nat × Nat} (hb : w.heap[b]? = some (.cells arr e fz)) (hle : off + n ≤ arr.size) :
    ((arr.toList.drop off).take n).length = n ∧ w.rangeAt b off ((arr.toList.drop off).take n) ∧ ∀ i, i < n → ((arr.toList.drop off).take n).toArray.getD i undef = arr.getD (off + i) undef := by
  refine ⟨by simp; omega, fun j v hj => ?_, fun i hi => by simp [Array.getD_eq_getD_getElem?, hi]⟩
  rw [List.getElem?_take] at hj
  split at hj
  · simp only [List.getElem?_drop, Array.getElem?_toList] at hj
    simp [World.cell?, hb, hj]
  · cases hj

theorem g_load_ptr {id k tt : Nat} {cs : List AV} {c : AV} (ht : PT.ty P t = some ts) (hr : ts.kind.isRow = false) (h : s.ev x = .ptr id k) (hc : s.chunk id = some (.cells tt cs)) (hk : cs[k]? = some c) : GOp P [id] s ⟨dst, .load t x, ty, pos, af, gd⟩ c := by
  refine ⟨fun s' ha C U a w m hR => ?_⟩
  have hx := hR.ev x
  rw [ha.2.1 x (by simp [Op.operands]), h] at hx
  have hc' : s'.chunk id = some (.cells tt cs) := by rw [ha.2.2 id (by simp)]; exact hc
  generalize hv : a.eval x = v at hx
  cases hx with
  | ptr hp =>
    cases hR.chunkAt hc' hp with
    | cells hb hs he h1 =>
      have hlt : k < cs.length := (List.getElem?_eq_some_iff.1 hk).1
      have hcell := cell_getD (i := k) hb (by omega)
      refine ⟨_, ?_, he k c hk⟩
      simp only [execOp, Sem.run_bind, hv, run_load1 ht hr hcell, Result.andThen_ok, Sem.run_pure]
theorem g_load_ptrN {id k tt : Nat} {cs : List AV} (ht : PT.ty P t = some ts) (hr : ts.kind.isRow = true) (h : s.ev x = .ptr id k) (hc : s.chunk id = some (.cells tt cs)) (hk : Nat.ble (k + ts.size) cs.length = true) : GOp P [id] s ⟨dst, .load t x, ty, pos, af, gd⟩ (.agg ((cs.drop k).take ts.size)) := by
  refine ⟨fun s' ha C U a w m hR => ?_⟩
  have hx := hR.ev x
  rw [ha.2.1 x (by simp [Op.operands]), h] at hx
  have hc' : s'.chunk id = some (.cells tt cs) := by rw [ha.2.2 id (by simp)]; exact hc
  have hk : k + ts.size ≤ cs.length := by simpa using hk
  generalize hv : a.eval x = v at hx
  cases hx with
  | ptr hp =>
    cases hR.chunkAt hc' hp with
    | cells hb hs he h1 =>
      obtain ⟨r1, r2, r3⟩ := range_of (off := k) (n := ts.size) hb (by omega)
      refine ⟨_, ?_, .agg (vs := _) (by rw [← List.size_toArray] at r1; rw [r1]; simp; omega) (fun i c hc => ?_) (fun i hi => ?_)⟩
      · simp only [execOp, Sem.run_bind, hv, run_loadN ht hr r1 r2, Result.andThen_ok, Sem.run_pure]
      · rw [List.getElem?_take] at hc
        split at hc
        · rename_i hi
          rw [r3 i hi]
          exact he (k + i) c (by rw [List.getElem?_drop] at hc; exact hc)
        · cases hc
      · have hi' : i < ts.size := by rw [← r1]; simpa using hi
        rw [r3 i hi']
        exact h1 _ (by omega)

/-- Element i's j-th cell in a block behind slices. -/
theorem arr_cell {F : Nat → Prop} {b cap : Nat} {e sz : Nat} {els : List (List DV)} (h : CRep m F w (some b, cap) (.arr e sz els)) {i j : Nat} {cs : List DV} {d : DV} (hi : els[i]? = some cs) (hj : cs[j]? = some d) :
    ∃ arr fz, w.heap[b]? = some (.cells arr e fz) ∧ i * sz + j < arr.size ∧ (∀ k, k < arr.size → ¬ (fz.1 ≤ k ∧ k < fz.2)) ∧ DRep F w d (arr.getD (i * sz + j) undef) ∧ arr.size = cap * sz := by
  cases h with
  | arr hb hf hs hl hm h0 hsz he =>
    have h1 := hsz i cs hi
    have h2 := (List.getElem?_eq_some_iff.1 hi).1
    have h3 := (List.getElem?_eq_some_iff.1 hj).1
    refine ⟨_, _, hb, ?_, hf, he i cs j d hi hj, hs⟩
    rw [hs]
    have : (i + 1) * sz ≤ cap * sz := Nat.mul_le_mul_right _ (by omega)
    rw [Nat.succ_mul] at this
    omega
theorem g_load_arr {id k e sz i j : Nat} {els : List (List DV)} {cs : List DV} {d : DV} (ht : PT.ty P t = some ts) (hr : ts.kind.isRow = false) (h : s.ev x = .ptr id k) (hc : s.chunk id = some (.arr e sz els)) (hk : k = i * sz + j) (hi : els[i]? = some cs) (hj : cs[j]? = some d) : GOp P [id] s ⟨dst, .load t x, ty, pos, af, gd⟩ (.d d) := by
  refine ⟨fun s' ha C U a w m hR => ?_⟩
  have hx := hR.ev x
  rw [ha.2.1 x (by simp [Op.operands]), h] at hx
  have hc' : s'.chunk id = some (.arr e sz els) := by rw [ha.2.2 id (by simp)]; exact hc
  generalize hv : a.eval x = v at hx
  cases hx with
  | ptr hp =>
    obtain ⟨arr, fz, hb, hlt, _, hd, _⟩ := arr_cell (hR.chunkAt hc' hp) hi hj
    have hcell := cell_getD (i := k) hb (by omega)
    subst hk
    refine ⟨_, ?_, .d hd⟩
    simp only [execOp, Sem.run_bind, hv, run_load1 ht hr hcell, Result.andThen_ok, Sem.run_pure]

theorem g_load_arr1 {id k e : Nat} {els : List (List DV)} {d : DV} (ht : PT.ty P t = some ts) (hr : ts.kind.isRow = false) (h : s.ev x = .ptr id k) (hc : s.chunk id = some (.arr e 1 els)) (hi : els[k]? = some [d]) : GOp P [id] s ⟨dst, .load t x, ty, pos, af, gd⟩ (.d d) := g_load_arr (i := k) (j := 0) ht hr h hc (by simp) hi rfl
theorem run_field {F : Array Field} {fs : List (Nat × Nat)} (hu : P.underlying t = some (.struct F)) (hF : F.toList.map (fun f => (f.offset, P.cellsOf f.type)) = fs) {f off sz : Nat} (hf : fs[f]? = some (off, sz)) : ∃ fd, F[f]? = some fd ∧ fd.offset = off ∧ P.cellsOf fd.type = sz := by
  rw [← hF, List.getElem?_map, Option.map_eq_some_iff] at hf
  obtain ⟨fd, h1, h2⟩ := hf
  simp only [Prod.mk.injEq] at h2
  exact ⟨fd, by simpa using h1, h2.1, h2.2⟩
theorem info_of_cells {t : Nat} (h : P.cellsOf t ≠ 0) : ∃ i, P.info? t = some i ∧ i.size = P.cellsOf t := by
  unfold Program.cellsOf at *
  cases hi : P.info? t with
  | none => simp [hi] at h
  | some i => exact ⟨i, rfl, by simp⟩
theorem run_fieldAddr {fs : List (Nat × Nat)} {n bt : Nat} {zs : List ZK} (ht : PT.ty P t = some ⟨.struct fs, n, bt, zs⟩) {f off sz : Nat} (hf : fs[f]? = some (off, sz)) (hsz : sz ≠ 0) (b o : Nat) (w : World) :
    (Instr.fieldAt t (.pointer (some ⟨b, o, none⟩)) f).run P w = .ok (.pointer (some ⟨b, o + off, none⟩)) w := by
  obtain ⟨F, hu, hF⟩ := PT.struct ht
  obtain ⟨fd, h1, h2, h3⟩ := run_field hu hF hf
  obtain ⟨i, hi, hs⟩ := info_of_cells (P := P) (t := fd.type) (by rw [h3]; exact hsz)
  have hne : ¬ i.size = 0 := by rw [hs, h3]; exact hsz
  simp [Instr.fieldAt, run_underlying hu, h1, Instr.sureAddr, fieldPlace, sizeOf, typeInfo, hi, hne, addr_add, h2]
theorem g_fa_ptr {id k f off sz n bt : Nat} {fs : List (Nat × Nat)} {zs : List ZK} (ht : PT.ty P t = some ⟨.struct fs, n, bt, zs⟩) (h : s.ev x = .ptr id k) (hf : fs[f]? = some (off, sz)) (hz : Nat.beq sz 0 = false) {k' : Nat} (hk : k + off = k') : GOp P [] s ⟨dst, .fieldAddr t x f, ty, pos, af, gd⟩ (.ptr id k') := by
  subst hk
  refine ⟨fun s' ha C U a w m hR => ?_⟩
  have hx := hR.ev x
  rw [ha.2.1 x (by simp [Op.operands]), h] at hx
  generalize hv : a.eval x = v at hx
  cases hx with
  | ptr hp =>
    refine ⟨_, ?_, .ptr hp⟩
    simp only [execOp, Sem.run_bind, hv, run_fieldAddr ht hf (Nat.ne_of_beq_eq_false hz), Result.andThen_ok, Sem.run_pure]
theorem g_fa_ref {f off sz n bt : Nat} {cs cs' : List DV} {fs : List (Nat × Nat)} {zs : List ZK} (ht : PT.ty P t = some ⟨.struct fs, n, bt, zs⟩) (h : s.ev x = .d (.ref cs)) (hf : fs[f]? = some (off, sz)) (hz : Nat.beq sz 0 = false) (hd : cs.drop off = cs') (hl : Nat.ble off cs.length = true) : GOp P [] s ⟨dst, .fieldAddr t x f, ty, pos, af, gd⟩ (.d (.ref cs')) := by
  subst hd
  refine ⟨fun s' ha C U a w m hR => ?_⟩
  have hx := hR.ev x
  rw [ha.2.1 x (by simp [Op.operands]), h] at hx
  generalize hv : a.eval x = v at hx
  have hl : off ≤ cs.length := by simpa using hl
  cases hx with
  | d hx =>
    cases hx with
    | ref hF hb hle hel =>
      rename_i b o e arr fz
      refine ⟨.pointer (some ⟨b, o + off, none⟩), ?_, .d (.ref hF hb (by simp; omega) (fun j d hj => ?_))⟩
      · simp only [execOp, Sem.run_bind, hv, run_fieldAddr ht hf (Nat.ne_of_beq_eq_false hz), Result.andThen_ok, Sem.run_pure]
      · rw [List.getElem?_drop] at hj
        have := hel (off + j) d hj
        rwa [← Nat.add_assoc] at this

theorem run_indexAddr {e n bt sz : Nat} {zs : List ZK} (ht : PT.ty P t = some ⟨.slice e, n, bt, zs⟩) (he : ∃ te, PT.ty P e = some te ∧ te.size = sz) {b off len cap i : Nat} (hi : i < len) (w : World) :
    (Instr.indexAt t (.slice (some ⟨b, off, none⟩) len cap) (.int .i64 (i : Int))).run P w = .ok (.pointer (some ⟨b, off + i * sz, none⟩)) w := by
  obtain ⟨te, he, rfl⟩ := he
  have h := PT.slice ht
  have hc : (0 : Int) ≤ (i : Int) ∧ (i : Int) < (len : Int) := by omega
  simp [Instr.indexAt, run_underlying h, asIntOf, hi, PT.runSize he, addr_add]
theorem g_ia_view {e e' n bt sz i : Nat} {zs : List ZK} {te : TS} {els : List (List DV)} {cs : List DV} {I : Int} (ht : PT.ty P t = some ⟨.slice e, n, bt, zs⟩) (he : PT.ty P e = some te) (hs : te.size = sz) (h : s.ev x = .d (.view e' sz els)) (hy : s.ev y = aI I) (hI : I = (i : Int)) (hi : els[i]? = some cs) : GOp P [] s ⟨dst, .indexAddr t x y, ty, pos, af, gd⟩ (.d (.ref cs)) := by
  refine ⟨fun s' ha C U a w m hR => ?_⟩
  have hx := hR.ev x
  rw [ha.2.1 x (by simp [Op.operands]), h] at hx
  have h2 := hR.ev y
  rw [ha.2.1 y (by simp [Op.operands]), hy] at h2
  obtain ⟨e2, _⟩ := h2.val_eq
  have hlt := (List.getElem?_eq_some_iff.1 hi).1
  generalize hv : a.eval x = v at hx
  cases hx with
  | d hx =>
    cases hx with
    | nil => simp at hlt
    | view hF hb h1 h2 h3 h4 h5 =>
      have hcs := h4 i cs hi
      refine ⟨_, ?_, .d (.ref hF hb ?_ (fun j d hj => h5 i cs j d hi hj))⟩
      · simp only [execOp, Sem.run_bind, hv, e2, hI, run_indexAddr ht ⟨te, he, hs⟩ hlt, Result.andThen_ok, Sem.run_pure]
      · have : (i + 1) * sz ≤ _ * sz := Nat.mul_le_mul_right sz (Nat.lt_of_lt_of_le hlt h1)
        rw [Nat.succ_mul] at this
        omega
theorem g_ia_own {id l e n bt sz i k : Nat} {zs : List ZK} {te : TS} {I : Int} (ht : PT.ty P t = some ⟨.slice e, n, bt, zs⟩) (he : PT.ty P e = some te) (hs : te.size = sz) (h : s.ev x = .own id l) (hy : s.ev y = aI I) (hI : I = (i : Int)) (hi : i < l) (hk : i * sz = k) : GOp P [] s ⟨dst, .indexAddr t x y, ty, pos, af, gd⟩ (.ptr id k) := by
  subst hk
  refine ⟨fun s' ha C U a w m hR => ?_⟩
  have hx := hR.ev x
  rw [ha.2.1 x (by simp [Op.operands]), h] at hx
  have h2 := hR.ev y
  rw [ha.2.1 y (by simp [Op.operands]), hy] at h2
  obtain ⟨e2, _⟩ := h2.val_eq
  generalize hv : a.eval x = v at hx
  cases hx with
  | own hp h0 =>
    rename_i cap b
    cases b with
    | none => have := (h0 rfl).1; omega
    | some b =>
      refine ⟨_, ?_, .ptr hp⟩
      simp only [execOp, Sem.run_bind, hv, e2, hI, Option.map_some, run_indexAddr ht ⟨te, he, hs⟩ hi, Result.andThen_ok, Sem.run_pure, Nat.zero_add]
theorem g_index {i n bt : Nat} {zs : List ZK} {st : ByteArray} {I : Int} {b : UInt8} (ht : PT.ty P t = some ⟨.string, n, bt, zs⟩) (h : s.ev x = aS st) (hy : s.ev y = aI I) (hI : I = (i : Int)) (hi : st.data.toList[i]? = some b) : GOp P [] s ⟨dst, .index t x y, ty, pos, af, gd⟩ (aB b) := by
  refine g_vals2 x y (by simp [Op.operands]) (by simp [Op.operands]) h hy fun A w e1 e2 _ _ => ⟨?_, ?_⟩
  · have hlt : i < st.size := by have := (List.getElem?_eq_some_iff.1 hi).1; simpa using this
    have hb : st[i] = b := by
      have := (List.getElem?_eq_some_iff.1 hi).2
      show st.data[i] = b
      simpa using this
    have hc : (0 : Int) ≤ (i : Int) ∧ (i : Int) < (st.size : Int) := by omega
    simp only [execOp, Sem.run_bind, e1, e2, hI, run_index_string w t st .i64 (i : Int) (PT.string ht), dif_pos hc, Result.andThen_ok, Sem.run_pure, Int.toNat_natCast, hb]
  · exact wrap_u8 (by have := b.toNat_lt; omega)

omit [PT P] in
theorem elem_slice {t e : Nat} (h : P.underlying t = some (.slice e)) : P.underlying t = some (.slice (P.elem t)) := by
  have : P.elem t = e := by simp [Program.elem, h]
  rw [this, h]
theorem g_len_view {n bt e e' sz : Nat} {zs : List ZK} {els : List (List DV)} {k : Nat} (ht : PT.ty P t = some ⟨.slice e, n, bt, zs⟩) (h : s.ev x = .d (.view e' sz els)) (hk : els.length = k) : GOp P [] s ⟨dst, .call { callee := .builtin .len, args := #[x], argTypes := #[t] }, ty, pos, af, gd⟩ (aI (k : Int)) := by
  subst hk
  refine ⟨fun s' ha C U a w m hR => ?_⟩
  have hx := hR.ev x
  rw [ha.2.1 x (by simp [Op.operands, Call.operands]), h] at hx
  generalize hv : a.eval x = v at hx
  have key : ∀ (b : Option Addr) (l c : Nat), a.eval x = .slice b l c → (execOp a.eval ⟨dst, .call { callee := .builtin .len, args := #[x], argTypes := #[t] }, ty, pos, af, gd⟩).run P w = .ok (.value (.int .i64 (l : Int))) w := by
    intro b l c hv
    simp [execOp, resolve, invoke, builtin, hv, run_len_slice w t ty b l c (elem_slice (PT.slice ht)), goInt]
  cases hx with
  | d hx =>
    cases hx with
    | nil => exact ⟨_, key _ _ _ hv, .d (.val (ok_len (by simp [maxLen])))⟩
    | view hF hb h1 h2 h3 h4 h5 => exact ⟨_, key _ _ _ hv, .d (.val (ok_len (by omega)))⟩
theorem g_len_tight {n bt e e' sz : Nat} {zs : List ZK} {els : List (List DV)} {k : Nat} (ht : PT.ty P t = some ⟨.slice e, n, bt, zs⟩) (h : s.ev x = .tight e' sz els) (hk : els.length = k) : GOp P [] s ⟨dst, .call { callee := .builtin .len, args := #[x], argTypes := #[t] }, ty, pos, af, gd⟩ (aI (k : Int)) := by
  subst hk
  refine ⟨fun s' ha C U a w m hR => ?_⟩
  have hx := hR.ev x
  rw [ha.2.1 x (by simp [Op.operands, Call.operands]), h] at hx
  generalize hv : a.eval x = v at hx
  cases hx with
  | tight hx =>
    rename_i b
    refine ⟨.int .i64 (els.length : Int), ?_, ?_⟩
    · simp [execOp, resolve, invoke, builtin, hv, run_len_slice w t ty b els.length els.length (elem_slice (PT.slice ht)), goInt]
    · cases hx with
      | nil => exact .d (.val (ok_len (by simp [maxLen])))
      | view hF hb h1 h2 h3 h4 h5 => exact .d (.val (ok_len h2))
theorem g_len_own {n bt e e' id l sz : Nat} {zs : List ZK} {els : List (List DV)} (ht : PT.ty P t = some ⟨.slice e, n, bt, zs⟩) (h : s.ev x = .own id l) (hl : l ≤ maxLen) : GOp P [] s ⟨dst, .call { callee := .builtin .len, args := #[x], argTypes := #[t] }, ty, pos, af, gd⟩ (aI (l : Int)) := by
  refine ⟨fun s' ha C U a w m hR => ?_⟩
  have hx := hR.ev x
  rw [ha.2.1 x (by simp [Op.operands, Call.operands]), h] at hx
  generalize hv : a.eval x = v at hx
  cases hx with
  | own hp h0 =>
    rename_i cap b
    refine ⟨.int .i64 (l : Int), ?_, .d (.val (ok_len hl))⟩
    simp [execOp, resolve, invoke, builtin, hv, run_len_slice w t ty (b.map fun b => ⟨b, 0, none⟩) l cap (elem_slice (PT.slice ht)), goInt]
theorem g_len_nil {n bt e : Nat} {zs : List ZK} (ht : PT.ty P t = some ⟨.slice e, n, bt, zs⟩) (h : s.ev x = .d (.val (.slice none 0 0))) : GOp P [] s ⟨dst, .call { callee := .builtin .len, args := #[x], argTypes := #[t] }, ty, pos, af, gd⟩ (aI (0 : Nat)) := by
  refine g_vals1 x (by simp [Op.operands, Call.operands]) h fun A w e1 _ => ⟨?_, ok_len (by simp [maxLen])⟩
  simp [execOp, resolve, invoke, builtin, e1, run_len_slice w t ty none 0 0 (elem_slice (PT.slice ht)), goInt]
theorem g_len_str {n bt : Nat} {zs : List ZK} {st : ByteArray} {k : Nat} (ht : PT.ty P t = some ⟨.string, n, bt, zs⟩) (h : s.ev x = aS st) (hk : st.size = k) : GOp P [] s ⟨dst, .call { callee := .builtin .len, args := #[x], argTypes := #[t] }, ty, pos, af, gd⟩ (aI (k : Int)) := by
  subst hk
  refine g_vals1 x (by simp [Op.operands, Call.operands]) h fun A w e1 o1 => ⟨?_, ok_len o1⟩
  simp [execOp, resolve, invoke, builtin, e1, run_len_string w t ty st (PT.string ht), goInt]
end
end Go.Proofs.Ytochebmkfdfbhaa
