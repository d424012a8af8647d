/- Parts of strings and slices, structs made and taken apart; new blocks, writes into them. No program is named here. -/
import Derived.Test.YtochebmkfdfbhaaA5
set_option linter.all false
namespace Go.Proofs.Ytochebmkfdfbhaa
open Go.RowKit

/-- The bound of a slice expression. -/
inductive OptEv (s : ASt) : Option Operand → Nat → Nat → Prop
  | none {d : Nat} : OptEv s none d d
  | some {x : Operand} {d l : Nat} {I : Int} : s.ev x = aI I → I = (l : Int) → OptEv s (some x) d l

def AV.cells? : AV → Option (List AV)
  | .agg cs => some cs
  | .dead => none
  | .und => none
  | .tup _ => none
  | .d x => some [.d x]
  | .own id n => some [.own id n]
  | .ptr id k => some [.ptr id k]
  | .tight e sz els => some [.tight e sz els]
  | .clo f cs => some [.clo f cs]
def dvs : List AV → Option (List DV)
  | [] => some []
  | .d x :: l => match dvs l with
    | some r => some (x :: r)
    | none => none
  | _ => none
theorem dvs_eq {l : List AV} {r : List DV} (h : dvs l = some r) : l = r.map .d := by
  induction l generalizing r with
  | nil => simp [dvs] at h; subst h; rfl
  | cons c l ih =>
    cases c <;> simp only [dvs, reduceCtorEq] at h
    cases hl : dvs l with
    | none => simp [hl] at h
    | some r' => simp [hl] at h; subst h; rw [ih hl]; rfl

theorem cells_rep {m : Nat → Option (Option Nat × Nat)} {F : Nat → Prop} {w : World} {x : AV} {v : Value} {cs : List AV} (h : ARep m F w x v) (hc : x.cells? = some cs) :
    v.cells.size = cs.length ∧ (∀ (i : Nat) (c : AV), cs[i]? = some c → ARep m F w c (v.cells.getD i undef)) ∧ ∀ i, i < v.cells.size → (v.cells.getD i undef).oneCell' = true := by
  have one : ∀ v : Value, v.oneCell' = true → x.cells? = some [x] → ARep m F w x v → v.cells.size = 1 ∧ (∀ (i : Nat) (c : AV), [x][i]? = some c → ARep m F w c (v.cells.getD i undef)) ∧ ∀ i, i < v.cells.size → (v.cells.getD i undef).oneCell' = true := by
    intro v hv _ h
    have hcs : v.cells = #[v] := by cases v <;> first | rfl | cases hv
    rw [hcs]
    refine ⟨rfl, fun i c hi => ?_, fun i hi => ?_⟩
    · cases i with
      | zero => simp at hi; subst hi; exact h
      | succ i => simp at hi
    · have : i = 0 := by simp at hi; omega
      subst this; exact hv
  cases h with
  | dead => simp [AV.cells?] at hc
  | und => simp [AV.cells?] at hc
  | tup => simp [AV.cells?] at hc
  | agg h1 h2 h3 => simp [AV.cells?] at hc; subst hc; exact ⟨h1, h2, h3⟩
  | d h => simp [AV.cells?] at hc; subst hc; exact one _ h.one rfl (.d h)
  | own h h0 => simp [AV.cells?] at hc; subst hc; exact one _ rfl rfl (.own h h0)
  | ptr h => simp [AV.cells?] at hc; subst hc; exact one _ rfl rfl (.ptr h)
  | tight h => simp [AV.cells?] at hc; subst hc; exact one _ rfl rfl (.tight h)
  | clo h1 h2 => simp [AV.cells?] at hc; subst hc; exact one _ rfl rfl (.clo h1 h2)

section
variable {P : Program} [PT P]
variable {s : ASt} {dst : Option Nat} {ty : Nat} {pos : String} {af : Array Edge} {gd : Option (Nat × Bool)} {x y : Operand} {t : Nat} {ts : TS}

/-- An operation that may turn the world: what it brings, here and in each later state; new blocks take names from f on. -/
structure NOp (P : Program) (ids : List Nat) (s : ASt) (o : Oper) (f : Nat) (u : Upd) : Prop where
  run : ∀ s', Agr ids o s s' → ∀ C U U' a w m, RelM C U s' a w m → (∀ k, k < 8 → U (f + k)) → (∀ j, U' j → U j ∧ (j < f ∨ f + 8 ≤ j)) → dstOk o.dst s'.n = true → ∀ K Q, (∀ a' w' m', RelM C U' (s'.app o.dst u) a' w' m' → K a' w') → o.wp P a w K Q
theorem NOp.of {ids : List Nat} {o : Oper} {f : Nat} {r : AV} (h : GOp P ids s o r) : NOp P ids s o f ⟨r, []⟩ := by
  refine ⟨fun s' ha C U U' a w m hR hU hU' hd K Q hK => ?_⟩
  obtain ⟨v, hrun, hr⟩ := h.run s' ha C U a w m hR
  unfold Oper.wp
  rw [hrun]
  exact hK _ _ m ((hR.setSlot hd hr).weaken rfl (fun _ => .inr rfl) (fun _ _ h => h) (fun j hj => (hU' j hj).1))
theorem NOp.value {ids : List Nat} {o : Oper} {f : Nat} {u : Upd}
    (h : ∀ s', Agr ids o s s' → ∀ C U U' a w m, RelM C U s' a w m → (∀ k, k < 8 → U (f + k)) → (∀ j, U' j → U j ∧ (j < f ∨ f + 8 ≤ j)) → dstOk o.dst s'.n = true → ∃ v w' m', (execOp a.eval o).run P w = .ok (.value v) w' ∧ RelM C U' (s'.app o.dst u) (a.put o.dst v) w' m') : NOp P ids s o f u := by
  refine ⟨fun s' ha C U U' a w m hR hU hU' hd K Q hK => ?_⟩
  obtain ⟨v, w', m', hrun, hr⟩ := h s' ha C U U' a w m hR hU hU' hd
  unfold Oper.wp
  rw [hrun]
  exact hK _ _ m' hr

theorem optEv_run {ids : List Nat} {o : Oper} {s' : ASt} (ha : Agr ids o s s') {C : Ctx} {U : Nat → Prop} {a : Act} {w : World} {m : Nat → Option (Option Nat × Nat)} (hR : RelM C U s' a w m) {lo : Option Operand} {d l : Nat} (h : OptEv s lo d l) (hm : ∀ x, lo = some x → x ∈ o.op.operands) :
    lo.map a.eval = none ∧ l = d ∨ lo.map a.eval = some (.int .i64 (l : Int)) := by
  cases h with
  | none => exact .inl ⟨rfl, rfl⟩
  | some h1 h2 =>
    rename_i x I
    have := hR.ev x
    rw [ha.2.1 x (hm x rfl), h1] at this
    exact .inr (by simp [this.val_eq.1, h2])
theorem run_bounds {isS : Bool} {len cap l h mm : Nat} {lo hi mx : Option Value} (hlo : lo = none ∧ l = 0 ∨ lo = some (.int .i64 (l : Int))) (hhi : hi = none ∧ h = len ∨ hi = some (.int .i64 (h : Int))) (hmx : mx = none ∧ mm = cap ∨ mx = some (.int .i64 (mm : Int)) ∧ hi ≠ none) (h1 : l ≤ h) (h2 : h ≤ mm) (h3 : mm ≤ cap) (w : World) :
    (Instr.sliceBounds isS len cap lo hi mx).run P w = .ok (l, h, mm) w := by
  have sb : ∀ (i y : Nat) (c : BoundsCode), i ≤ y → (Instr.sliceBound (.int .i64 (i : Int)) y c).run P w = .ok i w := fun i y c hi => by
    have := run_sliceBound (P := P) w .i64 (i : Int) y c (by omega) (by omega)
    simpa using this
  rcases hmx with ⟨rfl, rfl⟩ | ⟨rfl, hne⟩ <;> rcases hhi with ⟨rfl, rfl⟩ | rfl <;> rcases hlo with ⟨rfl, rfl⟩ | rfl <;>
    first
      | exact absurd rfl hne
      | simp [Instr.sliceBounds, sb _ _ _ h1, sb _ _ _ h2, sb _ _ _ h3]

theorem g_slice_str {lo hi : Option Operand} {st r : ByteArray} {l h n bt : Nat} {zs : List ZK} (ht : PT.ty P t = some ⟨.string, n, bt, zs⟩) (hx : s.ev x = aS st) (hlo : OptEv s lo 0 l) (hhi : OptEv s hi st.size h) (h1 : l ≤ h) (h2 : h ≤ st.size) (hr : st.extract l h = r) :
    GOp P [] s ⟨dst, .slice t x lo hi none, ty, pos, af, gd⟩ (aS r) := by
  subst hr
  refine ⟨fun s' ha C U a w m hR => ?_⟩
  have hv := hR.ev x
  rw [ha.2.1 x (by simp [Op.operands]), hx] at hv
  obtain ⟨e1, o1⟩ := hv.val_eq
  have hb := run_bounds (P := P) (isS := false) (len := st.size) (cap := st.size) (mx := none) (mm := st.size) (optEv_run ha hR hlo (by rintro x rfl; simp [Op.operands])) (optEv_run ha hR hhi (by rintro x rfl; simp [Op.operands])) (.inl ⟨rfl, rfl⟩) h1 h2 (Nat.le_refl _) w
  refine ⟨.string (st.extract l h), ?_, .d (.val ?_)⟩
  · simp only [execOp, Sem.run_bind, e1, Option.map_none, run_sliceAt_string w t (.string st) (lo.map a.eval) (hi.map a.eval) none (PT.string ht)]
    simp [Instr.slice, run_underlying (PT.string ht), hb]
  · show (st.extract l h).size ≤ maxLen
    have : st.size ≤ maxLen := o1
    simp only [ByteArray.size_extract]; omega

theorem view_sub {F : Nat → Prop} {w : World} {e e2 sz b off cap : Nat} {arr : Array Value} {fz : Nat × Nat} {els : List (List DV)} (hF : F b) (hb : w.heap[b]? = some (.cells arr e2 fz)) (h1 : els.length ≤ cap) (h2 : cap ≤ maxLen) (h3 : off + cap * sz ≤ arr.size)
    (h4 : ∀ (i : Nat) (cs : List DV), els[i]? = some cs → cs.length = sz) (h5 : ∀ (i : Nat) (cs : List DV) (j : Nat) (d : DV), els[i]? = some cs → cs[j]? = some d → DRep F w d (arr.getD (off + i * sz + j) undef)) {l h mm : Nat} (hl : l ≤ h) (hh : h ≤ els.length) (hm : h ≤ mm) (hc : mm ≤ cap) :
    DRep F w (.view e sz ((els.take h).drop l)) (.slice (some ⟨b, if mm = l then off else off + l * sz, none⟩) (h - l) (mm - l)) := by
  have hlen : ((els.take h).drop l).length = h - l := by simp; omega
  have := DRep.view (F := F) (w := w) (e := e) (sz := sz) (els := (els.take h).drop l) (b := b) (off := if mm = l then off else off + l * sz) (cap := mm - l) hF hb (by omega) (by omega) ?_ (fun i cs hi => ?_) (fun i cs j d hi hj => ?_)
  · rwa [hlen] at this
  · split
    · rename_i e; subst e; have := Nat.zero_le (cap * sz); simp; omega
    · have : mm * sz ≤ cap * sz := Nat.mul_le_mul_right _ hc
      have h6 : (mm - l) * sz = mm * sz - l * sz := Nat.sub_mul _ _ _
      have : l * sz ≤ mm * sz := Nat.mul_le_mul_right _ (by omega)
      omega
  · rw [List.getElem?_drop, List.getElem?_take] at hi
    split at hi
    · exact h4 _ _ hi
    · cases hi
  · have hi' := (List.getElem?_eq_some_iff.1 hi).1
    rw [hlen] at hi'
    rw [if_neg (by omega)]
    rw [List.getElem?_drop, List.getElem?_take] at hi
    split at hi
    · have := h5 _ _ j d hi hj
      have e : off + l * sz + i * sz + j = off + (l + i) * sz + j := by rw [Nat.add_mul]; omega
      rwa [e]
    · cases hi
theorem run_sliceS {e n bt sz : Nat} {zs : List ZK} (ht : PT.ty P t = some ⟨.slice e, n, bt, zs⟩) {te : TS} (he : PT.ty P e = some te) (hs : te.size = sz) {w : World} {A : Option Addr} {len cap l h mm : Nat} {lo hi mx : Option Value} (hb : (Instr.sliceBounds true len cap lo hi mx).run P w = .ok (l, h, mm) w) :
    (Instr.sliceAt t (.slice A len cap) lo hi mx).run P w = .ok (.slice (if mm = l then A else A.map (·.add (l * sz))) (h - l) (mm - l)) w := by
  have hu := PT.slice ht
  rw [run_sliceAt_slice w t _ lo hi mx (elem_slice hu)]
  simp [Instr.slice, run_underlying hu, hb, PT.runSize he, hs]
theorem g_slice_view {e e' n bt sz : Nat} {zs : List ZK} {te : TS} {lo hi : Option Operand} {els r : List (List DV)} {l h : Nat} (ht : PT.ty P t = some ⟨.slice e, n, bt, zs⟩) (he : PT.ty P e = some te) (hs : te.size = sz) (hx : s.ev x = .d (.view e' sz els)) (hlo : OptEv s lo 0 l) (hhi : OptEv s hi els.length h) (h1 : l ≤ h) (h2 : h ≤ els.length) (hr : (els.take h).drop l = r) :
    GOp P [] s ⟨dst, .slice t x lo hi none, ty, pos, af, gd⟩ (.d (.view e' sz r)) := by
  subst hr
  refine ⟨fun s' ha C U a w m hR => ?_⟩
  have hv := hR.ev x
  rw [ha.2.1 x (by simp [Op.operands]), hx] at hv
  have olo := optEv_run ha hR hlo (by rintro x rfl; simp [Op.operands])
  have ohi := optEv_run ha hR hhi (by rintro x rfl; simp [Op.operands])
  generalize hvv : a.eval x = v at hv
  cases hv with
  | d hv =>
    cases hv with
    | nil =>
      have hb := run_bounds (P := P) (isS := true) (len := 0) (cap := 0) (mx := none) (mm := 0) olo ohi (.inl ⟨rfl, rfl⟩) h1 h2 (Nat.le_refl _) w
      have h0 : h = 0 := by simpa using h2
      have hl0 : l = 0 := by omega
      subst h0; subst hl0
      refine ⟨.slice none 0 0, ?_, .d .nil⟩
      simp only [execOp, Sem.run_bind, hvv, Option.map_none, run_sliceS ht he hs hb, Result.andThen_ok, Sem.run_pure]
      simp
    | view hF hb h3 h4 h5 h6 h7 =>
      rename_i b off cap arr fz
      have hbd := run_bounds (P := P) (isS := true) (len := els.length) (cap := cap) (mx := none) (mm := cap) olo ohi (.inl ⟨rfl, rfl⟩) h1 (by omega) (Nat.le_refl _) w
      refine ⟨_, ?_, .d (view_sub hF hb h3 h4 h5 h6 h7 h1 h2 (by omega) (Nat.le_refl _))⟩
      simp only [execOp, Sem.run_bind, hvv, Option.map_none, run_sliceS ht he hs hbd, Result.andThen_ok, Sem.run_pure]
      split <;> simp [addr_add]
theorem g_slice_tight {e e' n bt sz : Nat} {zs : List ZK} {te : TS} {lo : Option Operand} {hi mx : Operand} {els r : List (List DV)} {l h : Nat} (ht : PT.ty P t = some ⟨.slice e, n, bt, zs⟩) (he : PT.ty P e = some te) (hs : te.size = sz) (hx : s.ev x = .d (.view e' sz els)) (hlo : OptEv s lo 0 l) (hhi : OptEv s (some hi) els.length h) (hmx : OptEv s (some mx) els.length h) (h1 : l ≤ h) (h2 : h ≤ els.length) (hr : (els.take h).drop l = r) :
    GOp P [] s ⟨dst, .slice t x lo (some hi) (some mx), ty, pos, af, gd⟩ (.tight e' sz r) := by
  subst hr
  refine ⟨fun s' ha C U a w m hR => ?_⟩
  have hv := hR.ev x
  rw [ha.2.1 x (by simp [Op.operands]), hx] at hv
  have olo := optEv_run ha hR hlo (by rintro x rfl; simp [Op.operands])
  have ohi := optEv_run ha hR hhi (by rintro x hx; cases hx; simp [Op.operands])
  have omx := optEv_run ha hR hmx (by rintro x hx; cases hx; simp [Op.operands])
  simp only [Option.map_some, reduceCtorEq, false_and, Option.some.injEq, false_or] at ohi omx
  generalize hvv : a.eval x = v at hv
  have hlen : ((els.take h).drop l).length = h - l := by simp; omega
  cases hv with
  | d hv =>
    cases hv with
    | nil =>
      have h0 : h = 0 := by simpa using h2
      have hl0 : l = 0 := by omega
      have hb := run_bounds (P := P) (isS := true) (len := 0) (cap := 0) (lo := lo.map a.eval) (hi := some (a.eval hi)) (mx := some (a.eval mx)) (l := l) (h := h) (mm := h) olo (.inr (by rw [ohi])) (.inr ⟨by rw [omx], by simp⟩) h1 (Nat.le_refl _) (by omega) w
      subst h0; subst hl0
      refine ⟨.slice none 0 0, ?_, .tight (a := none) .nil⟩
      simp only [execOp, Sem.run_bind, hvv, Option.map_some, run_sliceS ht he hs hb, Result.andThen_ok, Sem.run_pure]
      simp
    | view hF hb h3 h4 h5 h6 h7 =>
      rename_i b off cap arr fz
      have hbd := run_bounds (P := P) (isS := true) (len := els.length) (cap := cap) (lo := lo.map a.eval) (hi := some (a.eval hi)) (mx := some (a.eval mx)) (l := l) (h := h) (mm := h) olo (.inr (by rw [ohi])) (.inr ⟨by rw [omx], by simp⟩) h1 (Nat.le_refl _) (by omega) w
      have hv := view_sub (e := e') hF hb h3 h4 h5 h6 h7 h1 h2 (Nat.le_refl h) (by omega)
      have ht := ARep.tight (m := m) (F := Fz C m s' w) (w := w) (e := e') (sz := sz) (els := (els.take h).drop l) (a := some ⟨b, if h = l then off else off + l * sz, none⟩) (by rw [hlen]; exact hv)
      rw [hlen] at ht
      refine ⟨_, ?_, ht⟩
      simp only [execOp, Sem.run_bind, hvv, Option.map_some, run_sliceS ‹_› he hs hbd, Result.andThen_ok, Sem.run_pure]
      split <;> simp [addr_add]
theorem g_slice_own {e n bt sz id k : Nat} {zs : List ZK} {te : TS} {hi : Option Operand} {h : Nat} (ht : PT.ty P t = some ⟨.slice e, n, bt, zs⟩) (he : PT.ty P e = some te) {els : List (List DV)} {e' : Nat} (hx : s.ev x = .own id k) (hc : s.chunk id = some (.arr e' sz els)) (hhi : OptEv s hi k h) (h2 : h ≤ els.length) :
    GOp P [id] s ⟨dst, .slice t x none hi none, ty, pos, af, gd⟩ (.own id h) := by
  refine ⟨fun s' ha C U a w m hR => ?_⟩
  have hv := hR.ev x
  rw [ha.2.1 x (by simp [Op.operands]), hx] at hv
  have hc' : s'.chunk id = some (.arr e' sz els) := by rw [ha.2.2 id (by simp)]; exact hc
  have ohi := optEv_run ha hR hhi (by rintro x rfl; simp [Op.operands])
  generalize hvv : a.eval x = v at hv
  cases hv with
  | own hp h0 =>
    rename_i cap b
    have hle : els.length ≤ cap := by
      cases hR.chunkAt hc' hp with
      | arr _ _ _ h _ => exact h
      | nil => simp
    have hb := run_bounds (P := P) (isS := true) (len := k) (cap := cap) (lo := none) (mx := none) (l := 0) (mm := cap) (.inl ⟨rfl, rfl⟩) ohi (.inl ⟨rfl, rfl⟩) (Nat.zero_le _) (by omega) (Nat.le_refl _) w
    refine ⟨_, ?_, .own hp (fun hb => by have h1 := h0 hb; have : els.length = 0 := by omega
                                         exact ⟨by omega, h1.2⟩)⟩
    simp only [execOp, Sem.run_bind, hvv, Option.map_none, run_sliceS ht he rfl hb, Result.andThen_ok, Sem.run_pure]
    cases b <;> split <;> simp [addr_add]
end
end Go.Proofs.Ytochebmkfdfbhaa
