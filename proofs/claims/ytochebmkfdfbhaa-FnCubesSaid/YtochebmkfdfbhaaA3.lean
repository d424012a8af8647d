/- What single operations do to a plain reading: those that leave the world as it is. No program is named here. -/
import Derived.Test.YtochebmkfdfbhaaA2
set_option linter.all false
namespace Go.Proofs.Ytochebmkfdfbhaa
open Go.RowKit

/-- What a type is, said shortly. -/
inductive ZK where
  | int (k : IntKind) | bool | str | ptr | slice | func | iface
  deriving DecidableEq, Repr
def ZK.val : ZK → Value
  | .int k => .int k 0
  | .bool => .bool false
  | .str => .string ByteArray.empty
  | .ptr => .pointer none
  | .slice => .slice none 0 0
  | .func => .nilFunc
  | .iface => .nilIface
def zk : Value → Option ZK
  | .int k n => if n = 0 then some (.int k) else none
  | .bool b => if b = false then some .bool else none
  | .string s => if s = ByteArray.empty then some .str else none
  | .pointer none => some .ptr
  | .slice none 0 0 => some .slice
  | .nilFunc => some .func
  | .nilIface => some .iface
  | _ => none
theorem zk_val {v : Value} {z : ZK} (h : zk v = some z) : v = z.val := by
  unfold zk at h
  split at h
  all_goals first
    | (split at h <;> simp_all [ZK.val]; done)
    | (simp at h; subst h; rfl)
    | (simp at h; done)
    | skip
  all_goals (split at h <;> simp_all <;> (subst h; rfl))
def ZK.av (z : ZK) : AV := .d (.val z.val)
theorem ZK.ok (z : ZK) : okV z.val := by
  cases z with
  | int k => cases k <;> exact (by show IntKind.wrap _ _ = _; decide)
  | str => show ByteArray.size _ ≤ maxLen; simp [maxLen]
  | _ => trivial

inductive TK where
  | int (k : IntKind) | bool | string | slice (e : Nat) | struct (fs : List (Nat × Nat)) | pointer (e : Nat) | func | other | row
  deriving DecidableEq, Repr
structure TS where
  kind : TK
  size : Nat
  bytes : Nat
  zero : List ZK
  deriving DecidableEq, Repr
def TK.isRow : TK → Bool
  | .struct _ | .row => true
  | _ => false
def tkOf (P : Program) : TypeDesc → TK
  | .int k => .int k
  | .bool => .bool
  | .string => .string
  | .slice e => .slice e
  | .struct fs => .struct (fs.toList.map fun f => (f.offset, P.cellsOf f.type))
  | .pointer e => .pointer e
  | .func .. => .func
  | .array .. => .row
  | _ => .other
def tsOf (P : Program) (t : Nat) : Option TS :=
  (P.info? t).bind fun i => (P.underlying t).bind fun d => i.zero.bind fun z => (z.cells.toList.mapM zk).map fun zs => ⟨tkOf P d, i.size, i.bytes, zs⟩
class PT (P : Program) where
  tab : List (Nat × TS)
  ok : tab.all (fun p => decide (tsOf P p.1 = some p.2)) = true
def PT.ty (P : Program) [PT P] (t : Nat) : Option TS := getL t (PT.tab P)

section
variable {P : Program} [PT P]
theorem PT.of {t : Nat} {ts : TS} (h : PT.ty P t = some ts) : tsOf P t = some ts := by
  have hall := PT.ok (P := P)
  have key : ∀ l : List (Nat × TS), l.all (fun p => decide (tsOf P p.1 = some p.2)) = true → getL t l = some ts → tsOf P t = some ts := by
    intro l
    induction l with
    | nil => intro _ h; simp [getL] at h
    | cons p l ih =>
      obtain ⟨j, x⟩ := p
      intro h1 h2
      simp only [List.all_cons, Bool.and_eq_true, decide_eq_true_eq] at h1
      rw [getL_cons] at h2
      split at h2
      · rename_i he; subst he; rw [← h2]; exact h1.1
      · exact ih h1.2 h2
  exact key _ hall h
theorem mapM_zk {l : List Value} {zs : List ZK} (h : l.mapM zk = some zs) : l = zs.map ZK.val := by
  induction l generalizing zs with
  | nil => simp at h; subst h; rfl
  | cons v l ih =>
    simp only [List.mapM_cons] at h
    cases hv : zk v with
    | none => simp [hv] at h
    | some z =>
      cases hl : l.mapM zk with
      | none => simp [hv, hl] at h
      | some zs' =>
        simp [hv, hl] at h
        subst h
        rw [ih hl, zk_val hv]; rfl
/-- The facts of a type's row. -/
theorem PT.facts {t : Nat} {ts : TS} (h : PT.ty P t = some ts) : ∃ i d z, P.info? t = some i ∧ P.underlying t = some d ∧ tkOf P d = ts.kind ∧ i.size = ts.size ∧ i.bytes = ts.bytes ∧ i.zero = some z ∧ z.cells = (ts.zero.map ZK.val).toArray := by
  have h := PT.of h
  unfold tsOf at h
  cases hi : P.info? t with
  | none => simp [hi] at h
  | some i =>
    cases hd : P.underlying t with
    | none => simp [hi, hd] at h
    | some d =>
      cases hz : i.zero with
      | none => simp [hi, hd, hz] at h
      | some z =>
        cases hm : z.cells.toList.mapM zk with
        | none => simp [hi, hd, hz, hm] at h
        | some zs =>
          simp [hi, hd, hz, hm] at h
          subst h
          exact ⟨i, d, z, rfl, rfl, rfl, rfl, rfl, hz, by rw [← mapM_zk hm]⟩
theorem PT.slice {t e sz by_ : Nat} {zs : List ZK} (h : PT.ty P t = some ⟨.slice e, sz, by_, zs⟩) : P.underlying t = some (.slice e) := by
  obtain ⟨i, d, z, _, hd, hk, _⟩ := PT.facts h
  rw [hd]; cases d <;> simp [tkOf] at hk; subst hk; rfl
theorem PT.string {t sz by_ : Nat} {zs : List ZK} (h : PT.ty P t = some ⟨.string, sz, by_, zs⟩) : P.underlying t = some .string := by
  obtain ⟨i, d, z, _, hd, hk, _⟩ := PT.facts h
  rw [hd]; cases d <;> simp [tkOf] at hk; rfl
theorem PT.int {t sz by_ : Nat} {k : IntKind} {zs : List ZK} (h : PT.ty P t = some ⟨.int k, sz, by_, zs⟩) : P.underlying t = some (.int k) := by
  obtain ⟨i, d, z, _, hd, hk, _⟩ := PT.facts h
  rw [hd]; cases d <;> simp [tkOf] at hk; subst hk; rfl
theorem PT.struct {t sz by_ : Nat} {fs : List (Nat × Nat)} {zs : List ZK} (h : PT.ty P t = some ⟨.struct fs, sz, by_, zs⟩) : ∃ F, P.underlying t = some (.struct F) ∧ F.toList.map (fun f => (f.offset, P.cellsOf f.type)) = fs := by
  obtain ⟨i, d, z, _, hd, hk, _⟩ := PT.facts h
  rw [hd]; cases d <;> simp [tkOf] at hk; exact ⟨_, rfl, hk⟩
theorem PT.size {t : Nat} {ts : TS} (h : PT.ty P t = some ts) : P.cellsOf t = ts.size := by
  obtain ⟨i, d, z, hi, _, _, hs, _⟩ := PT.facts h
  simp [Program.cellsOf, hi, hs]
theorem PT.info {t : Nat} {ts : TS} (h : PT.ty P t = some ts) : (P.info? t).map (·.size) = some ts.size := by
  obtain ⟨i, d, z, hi, _, _, hs, _⟩ := PT.facts h
  simp [hi, hs]
theorem PT.runSize {t : Nat} {ts : TS} (h : PT.ty P t = some ts) (w : World) : (sizeOf t).run P w = .ok ts.size w := by
  obtain ⟨i, d, z, hi, _, _, hs, _⟩ := PT.facts h
  simp [sizeOf, typeInfo, hi, hs]
theorem PT.row {t : Nat} {ts : TS} (h : PT.ty P t = some ts) (hr : ts.kind.isRow = true) : ∃ d, P.underlying t = some d ∧ d.isRow = true := by
  obtain ⟨i, d, z, _, hd, hk, _⟩ := PT.facts h
  exact ⟨d, hd, by cases d <;> simp [tkOf] at hk <;> first | rfl | (rw [← hk] at hr; cases hr)⟩
theorem PT.notRow {t : Nat} {ts : TS} (h : PT.ty P t = some ts) (hr : ts.kind.isRow = false) (w : World) : (isAgg t).run P w = .ok false w := by
  obtain ⟨i, d, z, _, hd, hk, _⟩ := PT.facts h
  simp only [isAgg, Sem.run_bind, run_underlying hd, Result.andThen_ok]
  cases d <;> simp [tkOf] at hk <;> first | rfl | (rw [← hk] at hr; cases hr)

/-- Another state in which an operation finds what it found: its operands, and the blocks of ids. -/
def Agr (ids : List Nat) (o : Oper) (s s' : ASt) : Prop := s'.n = s.n ∧ (∀ x, x ∈ o.op.operands → s'.ev x = s.ev x) ∧ ∀ id, id ∈ ids → s'.chunk id = s.chunk id
theorem Agr.refl (ids : List Nat) (o : Oper) (s : ASt) : Agr ids o s s := ⟨rfl, fun _ _ => rfl, fun _ _ => rfl⟩
/-- An operation that leaves the world as it is, and what it yields: here and in each later state. -/
structure GOp (P : Program) (ids : List Nat) (s : ASt) (o : Oper) (r : AV) : Prop where
  run : ∀ s', Agr ids o s s' → ∀ C U a w m, RelM C U s' a w m → ∃ v, (execOp a.eval o).run P w = .ok (.value v) w ∧ ARep m (Fz C m s' w) w r v

variable {s : ASt} {dst : Option Nat} {ty : Nat} {pos : String} {af : Array Edge} {gd : Option (Nat × Bool)}

theorem g_move {x : Operand} {r : AV} (h : s.ev x = r) : GOp P [] s ⟨dst, .move x, ty, pos, af, gd⟩ r := by
  refine ⟨fun s' ha C U a w m hR => ?_⟩
  refine ⟨a.eval x, rfl, ?_⟩
  have := hR.ev x
  rwa [ha.2.1 x (by simp [Op.operands]), h] at this
theorem g_assign {x : Operand} {r : AV} (h : s.ev x = r) : GOp P [] s ⟨dst, .assign x, ty, pos, af, gd⟩ r := by
  refine ⟨fun s' ha C U a w m hR => ?_⟩
  refine ⟨a.eval x, rfl, ?_⟩
  have := hR.ev x
  rwa [ha.2.1 x (by simp [Op.operands]), h] at this

theorem mv1 {x : Operand} {y : DV} (h : s.ev x = .d y) : GOp P [] s ⟨dst, .move x, ty, pos, af, gd⟩ (.d y) := g_move h
theorem as1 {x : Operand} {y : DV} (h : s.ev x = .d y) : GOp P [] s ⟨dst, .assign x, ty, pos, af, gd⟩ (.d y) := g_assign h
theorem mv2 {x : Operand} {id n : Nat} (h : s.ev x = .own id n) : GOp P [] s ⟨dst, .move x, ty, pos, af, gd⟩ (.own id n) := g_move h
theorem as2 {x : Operand} {id n : Nat} (h : s.ev x = .own id n) : GOp P [] s ⟨dst, .assign x, ty, pos, af, gd⟩ (.own id n) := g_assign h
theorem mv3 {x : Operand} {id n : Nat} (h : s.ev x = .ptr id n) : GOp P [] s ⟨dst, .move x, ty, pos, af, gd⟩ (.ptr id n) := g_move h
theorem as3 {x : Operand} {id n : Nat} (h : s.ev x = .ptr id n) : GOp P [] s ⟨dst, .assign x, ty, pos, af, gd⟩ (.ptr id n) := g_assign h
theorem mv4 {x : Operand} {cs : List AV} (h : s.ev x = .agg cs) : GOp P [] s ⟨dst, .move x, ty, pos, af, gd⟩ (.agg cs) := g_move h
theorem as4 {x : Operand} {cs : List AV} (h : s.ev x = .agg cs) : GOp P [] s ⟨dst, .assign x, ty, pos, af, gd⟩ (.agg cs) := g_assign h
theorem mv5 {x : Operand} {cs : List AV} (h : s.ev x = .tup cs) : GOp P [] s ⟨dst, .move x, ty, pos, af, gd⟩ (.tup cs) := g_move h
theorem as5 {x : Operand} {cs : List AV} (h : s.ev x = .tup cs) : GOp P [] s ⟨dst, .assign x, ty, pos, af, gd⟩ (.tup cs) := g_assign h
theorem mv6 {x : Operand} {f : FuncId} {cs : List AV} (h : s.ev x = .clo f cs) : GOp P [] s ⟨dst, .move x, ty, pos, af, gd⟩ (.clo f cs) := g_move h
theorem as6 {x : Operand} {f : FuncId} {cs : List AV} (h : s.ev x = .clo f cs) : GOp P [] s ⟨dst, .assign x, ty, pos, af, gd⟩ (.clo f cs) := g_assign h
theorem mv7 {x : Operand} {e sz : Nat} {els : List (List DV)} (h : s.ev x = .tight e sz els) : GOp P [] s ⟨dst, .move x, ty, pos, af, gd⟩ (.tight e sz els) := g_move h
theorem as7 {x : Operand} {e sz : Nat} {els : List (List DV)} (h : s.ev x = .tight e sz els) : GOp P [] s ⟨dst, .assign x, ty, pos, af, gd⟩ (.tight e sz els) := g_assign h
theorem mv8 {x : Operand}  (h : s.ev x = .und) : GOp P [] s ⟨dst, .move x, ty, pos, af, gd⟩ (.und) := g_move h
theorem as8 {x : Operand}  (h : s.ev x = .und) : GOp P [] s ⟨dst, .assign x, ty, pos, af, gd⟩ (.und) := g_assign h
theorem mv9 {x : Operand}  (h : s.ev x = .dead) : GOp P [] s ⟨dst, .move x, ty, pos, af, gd⟩ (.dead) := g_move h
theorem as9 {x : Operand}  (h : s.ev x = .dead) : GOp P [] s ⟨dst, .assign x, ty, pos, af, gd⟩ (.dead) := g_assign h

theorem ARep.val_eq {m : Nat → Option (Option Nat × Nat)} {F : Nat → Prop} {w : World} {u v : Value} (h : ARep m F w (.d (.val u)) v) : v = u ∧ okV u := by
  cases h with
  | d h => cases h with
    | val h => exact ⟨rfl, h⟩

theorem addr_add (b off n : Nat) : (⟨b, off, none⟩ : Addr).add n = ⟨b, off + n, none⟩ := by unfold Addr.add; split <;> simp_all

theorem cell_getD {w : World} {b i e : Nat} {arr : Array Value} {fz : Nat × Nat} (hb : w.heap[b]? = some (.cells arr e fz)) (hi : i < arr.size) : w.cell? ⟨b, i, none⟩ = some (arr.getD i undef) := by
  simp [World.cell?, hb, hi]
theorem run_load1 {t : Nat} {ts : TS} (ht : PT.ty P t = some ts) (hr : ts.kind.isRow = false) {w : World} {b i : Nat} {v : Value} (hc : w.cell? ⟨b, i, none⟩ = some v) :
    (Instr.loadAt t (.pointer (some ⟨b, i, none⟩))).run P w = .ok v w := by
  simp [Instr.loadAt, Instr.sureAddr, loadVar, PT.notRow ht hr w, load, Sem.run, hc]
theorem run_loadN {t : Nat} {ts : TS} (ht : PT.ty P t = some ts) (hr : ts.kind.isRow = true) {w : World} {b i : Nat} {cs : List Value} (hl : cs.length = ts.size) (hc : w.rangeAt b i cs) :
    (Instr.loadAt t (.pointer (some ⟨b, i, none⟩))).run P w = .ok (.agg cs.toArray) w := by
  obtain ⟨d, hd, hdr⟩ := PT.row ht hr
  exact run_loadAt_mid w b i t cs d hc hd hdr (by rw [PT.info ht, hl])

theorem g_load_ref {t : Nat} {x : Operand} {ts : TS} {c : DV} {cs : List DV} (ht : PT.ty P t = some ts) (hr : ts.kind.isRow = false) (h : s.ev x = .d (.ref (c :: cs))) : GOp P [] s ⟨dst, .load t x, ty, pos, af, gd⟩ (.d c) := by
  refine ⟨fun s' ha C U a w m hR => ?_⟩
  have hx := hR.ev x
  rw [ha.2.1 x (by simp [Op.operands]), h] at hx
  cases hx with
  | d hx =>
    generalize hv : a.eval x = v at hx
    cases hx with
    | ref hF hb hle hel =>
      rename_i b off e arr fz
      have h0 := hel 0 c rfl
      simp only [List.length_cons] at hle
      have hc := cell_getD (i := off) hb (by omega)
      refine ⟨arr.getD (off + 0) undef, ?_, .d h0⟩
      simp only [execOp, Sem.run_bind, hv, run_load1 ht hr hc, Result.andThen_ok, Sem.run_pure, Nat.add_zero]

theorem g_load_refN {t : Nat} {x : Operand} {ts : TS} {cs : List DV} (ht : PT.ty P t = some ts) (hr : ts.kind.isRow = true) (h : s.ev x = .d (.ref cs)) (hle : Nat.ble ts.size cs.length = true) : GOp P [] s ⟨dst, .load t x, ty, pos, af, gd⟩ (.agg ((cs.take ts.size).map .d)) := by
  refine ⟨fun s' ha C U a w m hR => ?_⟩
  have hx := hR.ev x
  rw [ha.2.1 x (by simp [Op.operands]), h] at hx
  have hle : ts.size ≤ cs.length := by simpa using hle
  cases hx with
  | d hx =>
    generalize hv : a.eval x = v at hx
    cases hx with
    | ref hF hb hle2 hel =>
      rename_i b off e arr fz
      have hA : ∀ i, i < ts.size → ((arr.toList.drop off).take ts.size).toArray.getD i undef = arr.getD (off + i) undef := by
        intro i hi
        simp [Array.getD_eq_getD_getElem?, List.getElem?_take, hi]
      have hrange : w.rangeAt b off ((arr.toList.drop off).take ts.size) := by
        intro j v hj
        rw [List.getElem?_take] at hj
        split at hj
        · simp only [List.getElem?_drop, Array.getElem?_toList] at hj
          simp [World.cell?, hb, hj]
        · cases hj
      have hlen : ((arr.toList.drop off).take ts.size).length = ts.size := by simp; omega
      refine ⟨_, ?_, .agg (vs := ((arr.toList.drop off).take ts.size).toArray) (by simp; omega) (fun i c hc => ?_) (fun i hi => ?_)⟩
      · simp only [execOp, Sem.run_bind, hv, run_loadN ht hr hlen hrange, Result.andThen_ok, Sem.run_pure]
      · simp only [List.getElem?_map, Option.map_eq_some_iff, List.getElem?_take] at hc
        obtain ⟨d, hd, rfl⟩ := hc
        split at hd
        · rename_i hi
          rw [hA i hi]
          exact .d (hel i d hd)
        · cases hd
      · have hi' : i < ts.size := by rw [← hlen]; simpa using hi
        rw [hA i hi']
        exact (hel i cs[i] (List.getElem?_eq_getElem (by omega))).one
end
end Go.Proofs.Ytochebmkfdfbhaa
