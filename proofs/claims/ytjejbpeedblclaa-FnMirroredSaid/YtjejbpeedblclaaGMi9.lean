/- Contracts of the functions of the program and of the reference, each proved by a walk through its code. -/
import Derived.WalkKit
import Derived.WalkSpells
import Derived.WalkLawsBesides
import Derived.Deep.Draws
import Derived.Lib.Hide
import Derived.Maps.AppendAt
import Derived.OwnWalk
import Derived.Deep.MidRow
import Derived.Laws.ResultCell
import Derived.Deep.Upon
import Derived.Great.FillDense
import Derived.Laws.Tables
import Derived.Laws.BytesArg
import Derived.Laws.MakeOwn
import Derived.Great.BuildSlice
import Derived.ArgAppend
import Derived.Deep.AppendSrc
import Derived.Test.YtjejbpeedblclaaProg
import Derived.KernelRfl
import Derived.Orders
import Derived.Laws.IdiomStrings
import Derived.Lib.AppendZerosOnto
import Derived.ProofKit
import Derived.OpenShut
import Derived.Lib.SliceRun
import Derived.Laws.StructEq
import Derived.ChangeKeysEq
import Derived.Sort.Grow
import Derived.Laws.RangeString
import Derived.Below
import Derived.Laws.Small
import Derived.Laws.IdiomCopy
import Derived.MapKept
import Derived.WideMake
import Derived.Test.YtjejbpeedblclaaGMi8
set_option linter.all false
set_option maxRecDepth 20000
namespace Go.Proofs.Ytjejbpeedblclaa
open Go.RowKit
set_option maxHeartbeats 4000000 in
theorem enabled_spec (N : Net) (m : List UInt8) (hB : NetB N) (hM : NetM N m) (hb : bitsB m N.places = true) : ASpec Try.prog 68 [netA N, aS (bstr m)] [] (Pure1 (.d (vI (readyL N m N.ts.length)))) := by
 have hl := hB.l
 refine ASpec.of Try.func68 rfl rfl fun C hC => ?_
 refine AC.seq (AC.region ?_)
 refine AL.q (by exact h_boxF rfl rfl) rfl ?_
 refine AL.p (by exact as1 rfl) rfl ?_
 refine AL.nil (th_n (AC.seq (AC.region ?_)))
 refine AL.q (by exact h_lit rfl rfl rfl rfl rfl rfl rfl rfl) rfl ?_
 refine AL.p (by exact as2 rfl) rfl ?_
 refine AL.nil (th_n (AC.seq (AC.seq (AC.region ?_))))
 refine AL.p (by exact g_fa_ref rfl rfl rfl rfl rfl rfl) rfl ?_
 refine AL.p (by exact g_load_ref rfl rfl rfl) rfl ?_
 refine AL.p (by exact g_len_view rfl rfl (by exact List.length_map _)) rfl ?_
 refine AL.p (by exact mv1 rfl) rfl ?_
 refine AL.nil (th_n (AC.block ?_))
 refine AC.loop (ι := Nat) (fun k => ⟨26, 108, [(1, aS (bstr m)), (5, .own 100 (readyL N m k).length), (10, .d (vTs N.ts)), (11, aI N.ts.length), (12, aI k)], [(100, some (.arr 3 1 (ints (readyL N m k))))]⟩) (fun k => k ≤ N.ts.length) (fun k => N.ts.length - k) (0) ?_ (Nat.zero_le _) ?_
 ·exact Weak.ren _ [(100, _)] hC rfl (by repeat (first | exact True.intro | refine And.intro ?_ ?_ | exact DLead.same | exact rfl | refine ⟨_, rfl, ?_⟩)) (by repeat (first | exact True.intro | refine And.intro ?_ ?_ | exact rfl | refine ⟨_, _, rfl, rfl, ?_⟩)) rfl rfl rfl
 ·intro k hk
  refine AC.seq (AC.region ?_)
  refine AL.p (by exact g_cmp rfl rfl rfl) rfl ?_
  refine AL.nil (th_n (AC.seq ?_))
  refine AC.condD rfl (fun h0 => ?_) (fun h0 => ?_)
  ·refine AC.skip (th_n (AC.seq (AC.block (AC.seq ?_))))
   have hk1 : k < N.ts.length := by omega
   have hget := tsL_get hk1
   have hl1 := (hB.t _ (List.getElem_mem hk1)).1
   have hp1 := (hM _ (List.getElem_mem hk1)).1
   have hre := ready_enabled hb hp1
   have hln := readyL_len N m k
   refine AC.region ?_
   refine AL.p (by exact mv1 rfl) rfl ?_
   refine AL.p (by exact g_ia_view rfl rfl rfl rfl rfl (by rfl) (by assumption)) rfl ?_
   refine AL.p (by exact g_load_refN rfl rfl rfl rfl) rfl ?_
   refine AL.q (by exact h_alloc rfl) rfl ?_
   refine AL.p (by exact as1 rfl) rfl ?_
   refine AL.q (by exact h_store rfl rfl rfl rfl rfl rfl) rfl ?_
   refine AL.nil (th_n (AC.seq (AC.region ?_)))
   refine AL.p (by exact g_load_ptrN rfl rfl rfl rfl rfl) rfl ?_
   refine AL.p (by exact mv1 rfl) rfl ?_
   refine AL.q (by exact h_pure en_isEnabled rfl rfl (by repeat (first | exact rfl | exact DLead.same | refine ⟨_, _, rfl, ?_, ?_⟩ | refine ⟨_, rfl, ?_⟩)) (isEnabled_spec _ _ (by assumption) (by assumption)) rfl) rfl ?_
   refine AL.nil (th_n ?_)
   refine AC.condB rfl (fun h1 => ?_) (fun h1 => ?_)
   ·refine AC.region ?_
    refine AL.p (by exact mv2 rfl) rfl ?_
    refine AL.p (by exact mv1 rfl) rfl ?_
    refine AL.q (by exact h_litF rfl rfl rfl rfl rfl rfl rfl rfl) rfl ?_
    refine AL.q (by exact h_appendI (readyL N m k) [(k : Int)] (.own rfl rfl (ints_len _).symm) (.view rfl) (by simp; omega) (by simp)) rfl ?_
    refine AL.p (by exact as2 rfl) rfl ?_
    refine AL.nil (ib_n (th_n (AC.region ?_)))
    refine AL.p (by exact g_arith rfl rfl rfl (by exact wrap_i64 (by omega))) rfl ?_
    refine AL.p (by exact mv1 rfl) rfl ?_
    refine AL.nil (th_n ?_)
    (have e := readyL_t (m := m) hk1 (by rw [hre]; exact h1); exact ⟨k + 1, by omega, by omega, Weak.ren _ [(100, _)] hC rfl (by rw [e]; repeat (first | exact True.intro | refine And.intro ?_ ?_ | exact DLead.same | exact rfl | refine ⟨_, rfl, ?_⟩)) (by rw [e]; repeat (first | exact True.intro | refine And.intro ?_ ?_ | exact rfl | refine ⟨_, _, rfl, rfl, ?_⟩)) rfl rfl rfl⟩)
   ·refine AC.skip (ib_n (th_n (AC.region ?_)))
    refine AL.p (by exact g_arith rfl rfl rfl (by exact wrap_i64 (by omega))) rfl ?_
    refine AL.p (by exact mv1 rfl) rfl ?_
    refine AL.nil (th_n ?_)
    (have e := readyL_f (m := m) hk1 (by rw [hre]; exact h1); exact ⟨k + 1, by omega, by omega, Weak.ren _ [(100, _)] hC rfl (by rw [e]; repeat (first | exact True.intro | refine And.intro ?_ ?_ | exact DLead.same | exact rfl | refine ⟨_, rfl, ?_⟩)) (by rw [e]; repeat (first | exact True.intro | refine And.intro ?_ ?_ | exact rfl | refine ⟨_, _, rfl, rfl, ?_⟩)) rfl rfl rfl⟩)
  ·refine AC.exit (th_e (th_e (ib_y (th_n (AC.seq ?_)))))
   have hkk : k = N.ts.length := by omega
   subst hkk
   refine AC.weak (Weak.freeze (i := 5) rfl rfl (Nat.le_of_eq (ints_len _).symm) (ints_all _)) ?_
   refine AC.region ?_
   refine AL.p (by exact mv1 rfl) rfl ?_
   refine AL.p (by exact as1 rfl) rfl ?_
   refine AL.nil (th_n (AC.ret (bq_r ?_)))
   exact ret1 rfl rfl
theorem en_enabled : Enters Try.prog 68 := enters_of Try.func68 rfl rfl
def posM (k : ByteArray) : List (ByteArray × Value) → Option (Nat × Value)
 | [] => none
 | (a, v) :: es => if k = a then some (0, v) else (posM k es).map fun p => (p.1 + 1, p.2)
def setM (k : ByteArray) (v : Value) : List (ByteArray × Value) → List (ByteArray × Value)
 | [] => [(k, v)]
 | (a, u) :: es => if k = a then (a, v) :: es else (a, u) :: setM k v es
def mkE (p : (ByteArray × Value) × Nat) : MapEntry := ⟨.string p.1.1, p.1.2, p.2⟩
theorem mapObj_eq (es : List (ByteArray × Value)) : mapObj es = .map (es.zipIdx.map mkE).toArray es.length := rfl
theorem findNow_pos (k : ByteArray) : ∀ (es : List (ByteArray × Value)) (n i : Nat), Instr.findNow .string (.string k) ((es.zipIdx n).map mkE) i = some ((posM k es).map fun p => (i + p.1, p.2))
 | [], n, i => rfl
 | (a, v) :: es, n, i => by
  rw [List.zipIdx_cons, List.map_cons, Instr.findNow]
  show (match (some (k == a) : Option Bool) with | some true => _ | some false => _ | none => _) = _
  rw [posM]
  by_cases h : k = a
  ·rw [if_pos h, show (k == a) = true from (MapKept.bytes_beq k a).2 h]; simp [mkE]
  ·rw [if_neg h, show (k == a) = false from Bool.eq_false_iff.2 fun q => h ((MapKept.bytes_beq k a).1 q)]
   show Instr.findNow _ _ _ (i + 1) = _
   rw [findNow_pos k es (n + 1) (i + 1)]
   cases posM k es <;> simp
   omega
theorem posM_lt {k : ByteArray} : ∀ {es : List (ByteArray × Value)} {i : Nat} {v : Value}, posM k es = some (i, v) → ∃ h : i < es.length, es[i] = (k, v)
 | [], i, v, h => by cases h
 | (a, u) :: es, i, v, h => by
  rw [posM] at h
  split at h
  ·rename_i e
   cases h
   exact ⟨by simp, by rw [e]; rfl⟩
  ·cases hp : posM k es with
   | none => rw [hp] at h; cases h
   | some p =>
    obtain ⟨j, u2⟩ := p
    rw [hp] at h
    cases h
    obtain ⟨h1, h2⟩ := posM_lt hp
    exact ⟨by simpa using h1, by simpa using h2⟩
theorem setM_some {k : ByteArray} {v : Value} : ∀ {es : List (ByteArray × Value)} {i : Nat} {u : Value}, posM k es = some (i, u) → setM k v es = es.set i (k, v)
 | [], i, u, h => by cases h
 | (a, x) :: es, i, u, h => by
  rw [posM] at h
  rw [setM]
  split at h
  ·rename_i e
   cases h
   rw [if_pos e, e]; rfl
  ·rename_i e
   rw [if_neg e]
   cases hp : posM k es with
   | none => rw [hp] at h; cases h
   | some p =>
    obtain ⟨j, u2⟩ := p
    rw [hp] at h
    cases h
    rw [setM_some hp]; rfl
theorem setM_none {k : ByteArray} {v : Value} : ∀ {es : List (ByteArray × Value)}, posM k es = none → setM k v es = es ++ [(k, v)]
 | [], h => rfl
 | (a, x) :: es, h => by
  rw [posM] at h
  rw [setM]
  split at h
  ·cases h
  ·rename_i e
   rw [if_neg e]
   cases hp : posM k es with
   | none => rw [setM_none hp]; rfl
   | some p => rw [hp] at h; cases h
theorem run_zero {P : Program} {w : World} {t : TypeId} {z : Value} (h : (P.info? t).bind (·.zero) = some z) : (zeroValue t).run P w = .ok z w := by
 cases hi : P.info? t with
 | none => simp [hi] at h
 | some i => simp [hi] at h; simp [zeroValue, typeInfo, hi, h]
theorem run_lookup_txt {P : Program} {w : World} {t kt et : TypeId} {es : List (ByteArray × Value)} {b : Nat} {k : ByteArray} {z : Value} (hu : P.underlying t = some (.map kt et)) (hk : P.underlying kt = some .string) (hz : (zeroValue et).run P w = .ok z w) (hb : w.heap[b]? = some (mapObj es)) :
  (Instr.lookup t (.map (some b)) (.string k) true).run P w = .ok (match posM k es with | some p => .tuple #[p.2, .bool true] | none => .tuple #[z, .bool false]) w := by
 have hc : ∀ e, (Instr.checkKey e 10000 kt (.string k)).run P w = .ok () w := fun e => MapKept.run_checkKey (k := .string k) hk (by simp [MapKept.IsKey]) e 9999
 have hf := MapKept.run_findKey (w := w) hk (findNow_pos k es 0 0)
 rw [mapObj_eq] at hb
 cases hp : posM k es with
 | none =>
  rw [hp] at hf
  simp [Instr.lookup, run_underlying hu, MapKept.run_getObj_map hb, hc, hf, hz, Result.andThen]
 | some p =>
  rw [hp] at hf
  simp [Instr.lookup, run_underlying hu, MapKept.run_getObj_map hb, hc, hf, Result.andThen]
theorem run_mapUpdate_txt {P : Program} {w : World} {t kt et : TypeId} {es : List (ByteArray × Value)} {b : Nat} {k : ByteArray} {v : Value} (hu : P.underlying t = some (.map kt et)) (hk : P.underlying kt = some .string) (hb : w.heap[b]? = some (mapObj es)) :
  (Instr.mapUpdate t (.map (some b)) (.string k) v).run P w = .ok () { w with heap := w.heap.setIfInBounds b (mapObj (setM k v es)) } := by
 have hc : (Instr.checkKey false 10000 kt (.string k)).run P w = .ok () w := MapKept.run_checkKey (k := .string k) hk (by simp [MapKept.IsKey]) false 9999
 have hf := MapKept.run_findKey (w := w) hk (findNow_pos k es 0 0)
 have hb' := hb
 rw [mapObj_eq] at hb'
 cases hp : posM k es with
 | none =>
  rw [hp] at hf
  have e : mapObj (setM k v es) = .map ((es.zipIdx.map mkE).toArray.push ⟨.string k, v, es.length⟩) (es.length + 1) := by
   rw [setM_none hp, mapObj_eq, List.zipIdx_append, List.map_append, List.length_append]
   simp [mkE]
  simp [Instr.mapUpdate, run_underlying hu, MapKept.run_getObj_map hb', hc, hf, MapKept.run_setObj_map _ hb', Result.andThen, e]
 | some p =>
  obtain ⟨i, u⟩ := p
  rw [hp] at hf
  obtain ⟨hi, he⟩ := posM_lt hp
  have hks : (Instr.keyThatStays (.string k) (.string k)).run P w = .ok (.string k) w := MapKept.run_keyThatStays (d := .string) (by simp [MapKept.IsKey])
  have hget : (es.zipIdx.map mkE).toArray[i]? = some ⟨.string k, u, i⟩ := by
   rw [List.getElem?_toArray, List.getElem?_map, List.getElem?_zipIdx, List.getElem?_eq_getElem hi, he]
   simp [mkE]
  have e : mapObj (setM k v es) = .map ((es.zipIdx.map mkE).toArray.modify i fun e => { e with key := .string k, val := v }) es.length := by
   rw [setM_some hp, mapObj_eq, List.length_set]
   congr 1
   apply Array.ext_getElem?
   intro j
   rw [Array.getElem?_modify, List.getElem?_toArray, List.getElem?_toArray, List.getElem?_map, List.getElem?_map, List.getElem?_zipIdx, List.getElem?_zipIdx, List.getElem?_set]
   by_cases hj : i = j
   ·subst hj
    rw [if_pos rfl, if_pos hi, List.getElem?_eq_getElem hi, if_pos rfl]
    simp [mkE]
   ·rw [if_neg hj, if_neg hj]
  have hei : es[i]? = some (k, u) := by rw [List.getElem?_eq_getElem hi, he]
  simp [Instr.mapUpdate, run_underlying hu, MapKept.run_getObj_map hb', hc, hf, hei, mkE, hks, MapKept.run_setObj_map _ hb', Result.andThen, e]
section
variable {P : Program} [PT P] {s : ASt} {dst : Option Nat} {ty : Nat} {pos : String} {af : Array Edge} {gd : Option (Nat × Bool)} {x y z : Operand} {f t : Nat}
theorem h_makeMap : NOp P [] s ⟨dst, .makeMap t none, ty, pos, af, gd⟩ f ⟨.mp f, [(f, some (.map []))]⟩ := by
 refine NOp.value fun s' ha C U U' a w m hR hU hU' hd => ?_
 refine ⟨.map (some w.heap.size), w.alloc (.map #[] 0), _, ?_, hR.new (cap := 0) hd _ (by simpa using hU 0 (by omega)) (fun j hj => by have := hU' j hj; exact ⟨this.1, by omega⟩) (fun F' hF => ⟨.mp (newM_self _ _ _), .map (heap_alloc_new w _)⟩)⟩
 simp only [execOp, Option.map_none]
 rw [Sem.run_bind, run_makeMap_plain]
 rfl
theorem g_lookup {id kt et : Nat} {es : List (ByteArray × Value)} {k : ByteArray} {z : Value} {v : Value} {b : Bool} (hu : P.underlying t = some (.map kt et)) (hk : P.underlying kt = some .string) (hz : (P.info? et).bind (·.zero) = some z) (hx : s.ev x = .mp id) (hc : s.chunk id = some (.map es)) (hy : s.ev y = aS k)
  (hv : (match posM k es with | some p => (p.2, true) | none => (z, false)) = (v, b)) (hok : okV v) : GOp P [id] s ⟨dst, .lookup t x y true, ty, pos, af, gd⟩ (.tup [.d (.val v), aT b]) := by
 refine ⟨fun s' ha C U a w m hR => ?_⟩
 have hxr := hR.ev x
 rw [ha.2.1 x (by simp [Op.operands]), hx] at hxr
 have hyr := hR.ev y
 rw [ha.2.1 y (by simp [Op.operands]), hy] at hyr
 have hc' : s'.chunk id = some (.map es) := by rw [ha.2.2 id (by simp)]; exact hc
 generalize hxv : a.eval x = xv at hxr
 cases hxr with
 | mp hp =>
  rename_i bk cap
  have hC := hR.chunkAt hc' hp
  cases hC with
  | map hbl =>
   have hrun := run_lookup_txt (k := k) hu hk (run_zero hz) hbl
   refine ⟨.tuple #[v, .bool b], ?_, .tup rfl fun i c hi => ?_⟩
   ·simp only [execOp, hxv, hyr.val_eq.1, Sem.run_bind, hrun]
    cases hp2 : posM k es with
    | none => rw [hp2] at hv; cases hv; rfl
    | some p => rw [hp2] at hv; cases hv; rfl
   ·match i with
    | 0 => cases hi; exact .d (.val hok)
    | 1 => cases hi; exact .d (.val trivial)
    | i + 2 => simp at hi
theorem h_mapUpdate {id kt et : Nat} {es : List (ByteArray × Value)} {k : ByteArray} {v : Value} (hu : P.underlying t = some (.map kt et)) (hk : P.underlying kt = some .string) (hx : s.ev x = .mp id) (hc : s.chunk id = some (.map es)) (hy : s.ev y = aS k) (hz : s.ev z = .d (.val v)) :
  NOp P [id] s ⟨dst, .mapUpdate t x y z, ty, pos, af, gd⟩ f ⟨.dead, [(id, some (.map (setM k v es)))]⟩ := by
 refine ⟨fun s' ha C U U' a w m hR hU hU' hd K Q hK => ?_⟩
 have hxr := hR.ev x
 rw [ha.2.1 x (by simp [Op.operands]), hx] at hxr
 have hyr := hR.ev y
 rw [ha.2.1 y (by simp [Op.operands]), hy] at hyr
 have hzr := hR.ev z
 rw [ha.2.1 z (by simp [Op.operands]), hz] at hzr
 have hc' : s'.chunk id = some (.map es) := by rw [ha.2.2 id (by simp)]; exact hc
 generalize hxv : a.eval x = xv at hxr
 cases hxr with
 | mp hp =>
  rename_i b cap
  have hC := hR.chunkAt hc' hp
  cases hC with
  | map hbl =>
   have hrun := run_mapUpdate_txt (k := k) (v := v) hu hk hbl
   have hR' := hR.turned (i := dst) (r := .dead) (v := undef) (w' := { w with heap := w.heap.setIfInBounds b (mapObj (setM k v es)) }) (c' := .map (setM k v es)) hd hc' hp (fr_iter w b _) (fun F' hF => ⟨.dead, .map (by show (w.heap.setIfInBounds b _)[b]? = _; rw [Array.getElem?_setIfInBounds_self_of_lt (Array.getElem?_eq_some_iff.1 hbl).1])⟩)
   unfold Oper.wp
   simp only [execOp, Sem.run_bind, hxv, hyr.val_eq.1, hzr.val_eq.1, hrun, Result.andThen_ok, Sem.run_pure, Oper.upon]
   exact hK _ _ m (hR'.weaken rfl (fun _ => .inr rfl) (fun _ _ h => h) (fun j hj => (hU' j hj).1))
theorem h_insert {id kt et : Nat} {es : List (ByteArray × Value)} {k : ByteArray} {v : Value} (hu : P.underlying t = some (.map kt et)) (hk : P.underlying kt = some .string) (hx : s.ev x = .mp id) (hc : s.chunk id = some (.map es)) (hy : s.ev y = aS k) (hz : s.ev z = .d (.val v)) :
  NOp P [id] s ⟨dst, .insert t x y z, ty, pos, af, gd⟩ f ⟨.dead, [(id, some (.map (setM k v es)))]⟩ := by
 refine ⟨fun s' ha C U U' a w m hR hU hU' hd K Q hK => ?_⟩
 have hxr := hR.ev x
 rw [ha.2.1 x (by simp [Op.operands]), hx] at hxr
 have hyr := hR.ev y
 rw [ha.2.1 y (by simp [Op.operands]), hy] at hyr
 have hzr := hR.ev z
 rw [ha.2.1 z (by simp [Op.operands]), hz] at hzr
 have hc' : s'.chunk id = some (.map es) := by rw [ha.2.2 id (by simp)]; exact hc
 generalize hxv : a.eval x = xv at hxr
 cases hxr with
 | mp hp =>
  rename_i b cap
  have hC := hR.chunkAt hc' hp
  cases hC with
  | map hbl =>
   have hrun := run_mapUpdate_txt (k := k) (v := v) hu hk hbl
   have hR' := hR.turned (i := dst) (r := .dead) (v := undef) (w' := { w with heap := w.heap.setIfInBounds b (mapObj (setM k v es)) }) (c' := .map (setM k v es)) hd hc' hp (fr_iter w b _) (fun F' hF => ⟨.dead, .map (by show (w.heap.setIfInBounds b _)[b]? = _; rw [Array.getElem?_setIfInBounds_self_of_lt (Array.getElem?_eq_some_iff.1 hbl).1])⟩)
   unfold Oper.wp
   simp only [execOp, Sem.run_bind, hxv, hyr.val_eq.1, hzr.val_eq.1, hrun, Result.andThen_ok, Sem.run_pure, Oper.upon]
   exact hK _ _ m (hR'.weaken rfl (fun _ => .inr rfl) (fun _ _ h => h) (fun j hj => (hU' j hj).1))
end
structure Mv where
 from_ : Int
 by_ : Int
 to_ : Int
abbrev mvD (d : Mv) : List DV := [dI d.from_, dI d.by_, dI d.to_]
abbrev mvL (l : List Mv) : List (List DV) := l.map mvD
abbrev vMvs (l : List Mv) : DV := .view 78 3 (mvL l)
theorem mvL_len (l : List Mv) : (mvL l).length = l.length := List.length_map _
theorem mvL_get {l : List Mv} {k : Nat} (h : k < l.length) : (mvL l)[k]? = some [dI l[k].from_, dI l[k].by_, dI l[k].to_] := by rw [List.getElem?_map, List.getElem?_eq_getElem h]; rfl
theorem h_appendMv (acc new : List Mv) {s : ASt} {dst : Option Nat} {ty : Nat} {pos : String} {af : Array Edge} {gd : Option (Nat × Bool)} {x y : Operand} {f : Nat} {ids ids2 : List Nat} {gone : List (Nat × Option Chunk)}
  (hto : AppTo s x 78 3 (mvL acc) ids gone) (harg : AppArg s y 3 (mvL new) ids2) (h : (acc ++ new).length ≤ 100000000) (hnew : gone = [] → 0 < new.length) :
  NOp Try.prog (ids ++ ids2) s ⟨dst, .call { callee := .builtin .append, args := #[x, y], argTypes := #[42, 42] }, ty, pos, af, gd⟩ f ⟨.own f (acc ++ new).length, (f, some (.arr 78 3 (mvL (acc ++ new)))) :: gone⟩ := by
 have := h_append (P := Try.prog) (s := s) (dst := dst) (ty := ty) (pos := pos) (af := af) (gd := gd) (x := x) (y := y) (f := f) (t := 42) (tx := 42) (k := (acc ++ new).length) rfl rfl rfl rfl rfl rfl hto harg (by simp) (by omega) (by show (acc ++ new).length * 24 ≤ _; omega) (fun h => by rw [mvL_len]; exact hnew h)
 rwa [← List.map_append] at this
abbrev tsX (l : List (List UInt8)) : List (List DV) := l.map (fun s => [dS (bstr s)])
theorem tsX_len (l : List (List UInt8)) : (tsX l).length = l.length := List.length_map _
theorem tsX_get {l : List (List UInt8)} {k : Nat} (h : k < l.length) : (tsX l)[k]? = some [dS (bstr l[k])] := by rw [List.getElem?_map, List.getElem?_eq_getElem h]; rfl
theorem h_appendX (acc new : List (List UInt8)) {s : ASt} {dst : Option Nat} {ty : Nat} {pos : String} {af : Array Edge} {gd : Option (Nat × Bool)} {x y : Operand} {f : Nat} {ids ids2 : List Nat} {gone : List (Nat × Option Chunk)}
  (hto : AppTo s x 9 1 (tsX acc) ids gone) (harg : AppArg s y 1 (tsX new) ids2) (h : (acc ++ new).length ≤ 100000000) (hnew : gone = [] → 0 < new.length) :
  NOp Try.prog (ids ++ ids2) s ⟨dst, .call { callee := .builtin .append, args := #[x, y], argTypes := #[41, 41] }, ty, pos, af, gd⟩ f ⟨.own f (acc ++ new).length, (f, some (.arr 9 1 (tsX (acc ++ new)))) :: gone⟩ := by
 have := h_append (P := Try.prog) (s := s) (dst := dst) (ty := ty) (pos := pos) (af := af) (gd := gd) (x := x) (y := y) (f := f) (t := 41) (tx := 41) (k := (acc ++ new).length) rfl rfl rfl rfl rfl rfl hto harg (by simp) (by omega) (by show (acc ++ new).length * 16 ≤ _; omega) (fun h => by rw [tsX_len]; exact hnew h)
 rwa [← List.map_append] at this
structure Ex where
 marks : List (List UInt8)
 moves : List Mv
def posL (m : List UInt8) : List (List UInt8) → Option Nat
 | [] => none
 | a :: l => if m = a then some 0 else (posL m l).map (· + 1)
theorem posL_lt {m : List UInt8} : ∀ {l : List (List UInt8)} {i : Nat}, posL m l = some i → i < l.length
 | [], i, h => by cases h
 | a :: l, i, h => by
  rw [posL] at h
  split at h
  ·cases h; simp
  ·cases hp : posL m l with
   | none => rw [hp] at h; cases h
   | some j =>
    rw [hp] at h
    cases h
    have := posL_lt hp
    simpa using this
def mapX (l : List (List UInt8)) : List (ByteArray × Value) := l.zipIdx.map fun p => (bstr p.1, .int .i64 (p.2 : Int))
theorem mapX_pos (m : List UInt8) (l : List (List UInt8)) : posM (bstr m) (mapX l) = (posL m l).map fun (i : Nat) => (i, Value.int .i64 (i : Int)) := by
 have key : ∀ (l : List (List UInt8)) (n : Nat), posM (bstr m) ((l.zipIdx n).map fun p => (bstr p.1, Value.int .i64 (p.2 : Int))) = (posL m l).map fun (i : Nat) => (i, Value.int .i64 ((n + i : Nat) : Int)) := by
  intro l
  induction l with
  | nil => intro n; rfl
  | cons a l ih =>
   intro n
   rw [List.zipIdx_cons, List.map_cons, posM, posL]
   by_cases h : m = a
   ·rw [if_pos (by rw [h]), if_pos h]; rfl
   ·rw [if_neg (fun e => h (bstr_inj e)), if_neg h, ih (n + 1)]
    cases posL m l with
    | none => rfl
    | some i => simp only [Option.map_some]; congr 3; omega
 have := key l 0
 unfold mapX
 simpa only [Nat.zero_add] using this
theorem mapX_push {m : List UInt8} {l : List (List UInt8)} (h : posL m l = none) : setM (bstr m) (.int .i64 (l.length : Int)) (mapX l) = mapX (l ++ [m]) := by
 rw [setM_none (by rw [mapX_pos, h]; rfl)]
 unfold mapX
 rw [List.zipIdx_append, List.map_append]
 simp
theorem lookX (m : List UInt8) (l : List (List UInt8)) (hl : l.length ≤ 1000000) : ∃ (v : Int) (b : Bool), (match posM (bstr m) (mapX l) with | some p => (p.2, true) | none => (Value.int .i64 0, false)) = (Value.int .i64 v, b) ∧ ((b = true ∧ ∃ i : Nat, posL m l = some i ∧ v = i) ∨ (b = false ∧ posL m l = none)) ∧ okV (.int .i64 v) := by
 rw [mapX_pos]
 cases hq : posL m l with
 | none => exact ⟨0, false, rfl, .inr ⟨rfl, rfl⟩, rfl⟩
 | some i =>
  have := posL_lt hq
  exact ⟨i, true, rfl, .inl ⟨rfl, i, rfl, rfl⟩, wrap_i64 (by omega)⟩
def mkAt (x : Ex) (k : Nat) : List UInt8 := x.marks.getD k []
theorem mkAt_nat {x : Ex} {k : Nat} (h : k < x.marks.length) : mkAt x k = x.marks[k] := by unfold mkAt; rw [List.getD_eq_getElem?_getD, List.getElem?_eq_getElem h]; rfl
def exIn (N : Net) (k : Nat) (m : List UInt8) : List Int → Ex → Ex × Option (Int × Int)
 | [], x => (x, none)
 | t :: ts, x =>
  if (fireI N m t).2 = true then
   match posL (fireI N m t).1 x.marks with
   | some i => exIn N k m ts ⟨x.marks, x.moves ++ [⟨k, t, i⟩]⟩
   | none => if x.marks.length = 300 then (x, some (-1, -1)) else exIn N k m ts ⟨x.marks ++ [(fireI N m t).1], x.moves ++ [⟨k, t, x.marks.length⟩]⟩
  else (x, some ((k : Int), t))
def exOut (N : Net) : Nat → Nat → Ex → Ex × Option (Int × Int)
 | 0, _, x => (x, none)
 | n + 1, k, x => if k < x.marks.length then
   (match exIn N k (mkAt x k) (readyL N (mkAt x k) N.ts.length) x with
   | (y, none) => exOut N n (k + 1) y
   | r => r) else (x, none)
theorem exOut_end {N : Net} {n k : Nat} {x : Ex} {F : Ex × Option (Int × Int)} (hn : 0 < n) (hk : ¬ k < x.marks.length) (h : exOut N n k x = F) : (x, none) = F := by
 obtain ⟨q, rfl⟩ : ∃ q, n = q + 1 := ⟨n - 1, by omega⟩
 rw [exOut, if_neg hk] at h
 exact h
def explR (N : Net) (start : List UInt8) : Ex × Option (Int × Int) := exOut N 301 0 ⟨[start], []⟩
def exK (r : Ex × Option (Int × Int)) : Int := match r.2 with | some p => p.1 | none => -1
def exT (r : Ex × Option (Int × Int)) : Int := match r.2 with | some p => p.2 | none => -1
def exB (r : Ex × Option (Int × Int)) : Bool := match r.2 with | some _ => false | none => true
abbrev rgA (x : Ex) : AV := .agg [.d (.view 9 1 (tsX x.marks)), .d (vMvs x.moves)]
abbrev rgD (x : Ex) : List DV := [.view 9 1 (tsX x.marks), vMvs x.moves]
abbrev zRG : List AV := [.d (.val (.slice none 0 0)), .d (.val (.slice none 0 0))]
structure ExI (N : Net) (x : Ex) (q : Nat) : Prop where
 n : x.marks.length ≤ 300
 b : ∀ m, m ∈ x.marks → bitsB m N.places = true
 l : x.moves.length ≤ q
theorem ExI.len {N : Net} {x : Ex} {q : Nat} (h : ExI N x q) (hp : N.places ≤ 30) : ∀ m, m ∈ x.marks → m.length ≤ 30 := fun m hm => by have := bits_len (h.b m hm); omega
set_option maxHeartbeats 16000000 in
theorem iExplored_spec (s : Stg) (hB : StgB s) (hg : goodS s = true) : ASpec Try.prog 40 [stgA s] [] (Pure1 (.tup [rgA (explR s.net s.start).1, aI (exK (explR s.net s.start)), aI (exT (explR s.net s.start)), aT (exB (explR s.net s.start))])) := by
 obtain ⟨hg1, hg2⟩ : goodN s.net = true ∧ bitsB s.start s.net.places = true := by
  simp only [goodS, Bool.and_eq_true] at hg
  exact hg.1
 have hpl := good_places hg1
 have hun : explR s.net s.start = exOut s.net 301 0 ⟨[s.start], []⟩ := rfl
 obtain ⟨F, hF⟩ : ∃ F, F = explR s.net s.start := ⟨_, rfl⟩
 rw [← hF] at hun ⊢
 have hI0 : ExI s.net ⟨[s.start], []⟩ 0 := ⟨by show 1 ≤ 300; omega, fun m hm => by rw [List.mem_singleton.1 hm]; exact hg2, Nat.le_refl _⟩
 have hst := bits_len hg2
 clear hF
 refine ASpec.of Try.func40 rfl rfl fun C hC => ?_
 refine AC.seq (AC.region ?_)
 refine AL.q (by exact h_boxF rfl rfl) rfl ?_
 refine AL.q (by exact h_alloc rfl) rfl ?_
 refine AL.p (by exact as1 rfl) rfl ?_
 refine AL.p (by exact as1 rfl) rfl ?_
 refine AL.p (by exact as1 rfl) rfl ?_
 refine AL.nil (th_n (AC.seq ?_))
 refine AC.drawn' mixed_ok [[], [0], [0,1], [0,1,2], [], [], [5], [4,5,6], [4,5,6,7], [], [0,1,2,3,9], [0,1,2,3,4,5,6,7,8,9,10]] (by decide) ?_
 refine DF.op 0 [] 12 rfl rfl rfl (.free rfl (NOp.of (by exact g_fa_ref rfl rfl rfl rfl rfl rfl))) rfl ?_
 refine DF.op 1 [0] 12 rfl rfl rfl (.free rfl (NOp.of (by exact g_load_ref rfl rfl rfl))) rfl ?_
 refine DF.op 2 [0,1] 12 rfl rfl rfl (.free rfl (by exact h_lit rfl rfl rfl rfl rfl rfl rfl rfl)) rfl ?_
 refine DF.op 3 [0,1,2] 12 rfl rfl rfl (.free rfl (NOp.of (by exact g_build rfl rfl rfl))) rfl ?_
 refine DF.op 4 [] 12 rfl rfl rfl (.free rfl (by exact h_makeMap)) rfl ?_
 refine DF.op 5 [] 12 rfl rfl rfl (.free rfl (NOp.of (by exact g_fa_ref rfl rfl rfl rfl rfl rfl))) rfl ?_
 refine DF.op 6 [5] 12 rfl rfl rfl (.free rfl (NOp.of (by exact g_load_ref rfl rfl rfl))) rfl ?_
 refine DF.op 7 [4,5,6] 12 rfl rfl rfl (.free rfl (by exact h_insert Try.underlying101 Try.underlying9 rfl rfl rfl rfl)) rfl ?_
 refine DF.op 8 [4,5,6,7] 12 rfl rfl rfl (.free rfl (NOp.of (by exact mv11 rfl))) rfl ?_
 refine DF.op 9 [] 12 rfl rfl rfl (.free rfl (by exact h_alloc rfl)) rfl ?_
 refine DF.op 10 [0,1,2,3,9] 12 rfl rfl rfl (.free rfl (by exact h_store rfl rfl rfl rfl rfl rfl)) rfl ?_
 refine DF.op 11 (List.range 11) 12 rfl rfl rfl (.free rfl (NOp.of (by exact as11 rfl))) rfl ?_
 refine DF.fin (ps := [(0,4),(0,5),(0,6),(0,7),(0,8),(0,9),(1,4),(1,5),(1,6),(1,7),(1,8),(1,9),(2,4),(2,5),(2,6),(2,7),(2,8),(2,9),(3,4),(3,5),(3,6),(3,7),(3,8),(3,9),(4,0),(4,1),(4,2),(4,3),(4,5),(4,6),(4,9),(4,10),(5,0),(5,1),(5,2),(5,3),(5,4),(5,9),(5,10),(6,0),(6,1),(6,2),(6,3),(6,4),(6,9),(6,10),(7,0),(7,1),(7,2),(7,3),(7,9),(7,10),(8,0),(8,1),(8,2),(8,3),(8,9),(8,10),(9,0),(9,1),(9,2),(9,3),(9,4),(9,5),(9,6),(9,7),(9,8),(10,4),(10,5),(10,6),(10,7),(10,8)]) 12 rfl (by decide +kernel) (by decide +kernel) (by rfl) ?_
 refine th_n (AC.seq (AC.seq (AC.region ?_)))
 refine AL.p (by exact as1 rfl) rfl ?_
 refine AL.nil (th_n (AC.block ?_))
 refine AC.loop (ι := Nat × Ex) (fun x => ⟨96, 300, [(1, .d (.ref (stgD s))), (2, .ptr 201 0), (6, .ptr 200 0), (7, .mp 203), (8, aI x.1)], [(200, some (.cells 44 [.own 101 x.2.marks.length, .own 102 x.2.moves.length])), (101, some (.arr 9 1 (tsX x.2.marks))), (102, some (.arr 78 3 (mvL x.2.moves))), (203, some (.map (mapX x.2.marks))), (201, some (.cells 44 zRG))]⟩) (fun x => x.1 ≤ x.2.marks.length ∧ ExI s.net x.2 (24 * x.1) ∧ exOut s.net (301 - x.1) x.1 x.2 = F) (fun x => 301 - x.1) ((0, ⟨[s.start], []⟩)) ?_ (⟨Nat.zero_le _, hI0, hun.symm⟩) ?_
 ·exact (Weak.nilOwnP 6 1 (e := 78) (sz := 3) rfl rfl rfl rfl rfl).trans (Weak.ren _ [(200, _), (101, _), (102, _), (203, _), (201, _)] hC rfl (by repeat (first | exact True.intro | refine And.intro ?_ ?_ | exact DLead.same | exact rfl | refine ⟨_, rfl, ?_⟩)) (by repeat (first | exact True.intro | refine And.intro ?_ ?_ | exact DLead.same | exact rfl | refine ⟨_, _, rfl, rfl, ?_⟩ | refine ⟨_, rfl, ?_⟩ | refine ⟨_, _, rfl, ?_, ?_⟩)) rfl rfl rfl)
 ·rintro ⟨k, x⟩ ⟨hk, hI, hrun⟩
  dsimp only at hk hI hrun ⊢
  have hxn := hI.n
  refine AC.seq (AC.seq (AC.region ?_))
  refine AL.p (by exact mv1 rfl) rfl ?_
  refine AL.p (by exact g_fa_ptr rfl rfl rfl rfl rfl) rfl ?_
  refine AL.p (by exact g_load_ptr rfl rfl rfl rfl rfl) rfl ?_
  refine AL.p (by exact g_len_own (sz := 1) (els := []) (e' := 0) rfl rfl (by simp only [maxLen]; omega)) rfl ?_
  refine AL.p (by exact g_cmp rfl rfl rfl) rfl ?_
  refine AL.nil (th_n ?_)
  refine AC.condD rfl (fun h0 => ?_) (fun h0 => ?_)
  ·refine AC.skip (th_n (AC.seq (AC.block (AC.seq ?_))))
   have hk1 : k < x.marks.length := by omega
   have hmk := mkAt_nat hk1
   have hbm := hI.b _ (List.getElem_mem hk1)
   rw [← hmk] at hbm
   have hrow : (tsX x.marks)[k]? = some [dS (bstr (mkAt x k))] := by rw [hmk]; exact tsX_get hk1
   obtain ⟨n, hn⟩ : ∃ n, 301 - k = n + 1 := ⟨300 - k, by omega⟩
   rw [hn, exOut, if_pos hk1] at hrun
   obtain ⟨m, hm⟩ : ∃ m, m = mkAt x k := ⟨_, rfl⟩
   rw [← hm] at hbm hrow hrun
   have hEn := enabled_spec s.net m hB.n (good_netM hg1 hbm) hbm
   have hLl := readyL_len s.net m s.net.ts.length
   obtain ⟨L, hL⟩ : ∃ L, L = readyL s.net m s.net.ts.length := ⟨_, rfl⟩
   rw [← hL] at hEn hLl hrun
   have hml := bits_len hbm
   have hmarks : x.marks[k]? = some m := by rw [List.getElem?_eq_getElem hk1, hm, hmk]
   obtain ⟨Z, hZ⟩ : ∃ Z, Z = exIn s.net k m L x := ⟨_, rfl⟩
   rw [← hZ] at hrun
   clear hL
   refine AC.drawn' mixed_ok [[], [0], [], [2], [], [2,3,4], [2,3,4,5], [0,1,2,3,4,5,6], [0,1,2,3,4,5,6,7], []] (by decide) ?_
   refine DF.op 0 [] 10 rfl rfl rfl (.free rfl (NOp.of (by exact g_fa_ref rfl rfl rfl rfl rfl rfl))) rfl ?_
   refine DF.op 1 [0] 10 rfl rfl rfl (.free rfl (NOp.of (by exact g_load_refN rfl rfl rfl rfl))) rfl ?_
   refine DF.op 2 [] 10 rfl rfl rfl (.free rfl (NOp.of (by exact g_fa_ptr rfl rfl rfl rfl rfl))) rfl ?_
   refine DF.op 3 [2] 10 rfl rfl rfl (.free rfl (NOp.of (by exact g_load_ptr rfl rfl rfl rfl rfl))) rfl ?_
   refine DF.op 4 [] 10 rfl rfl rfl (.free rfl (NOp.of (by exact mv1 rfl))) rfl ?_
   refine DF.op 5 [2,3,4] 10 rfl rfl rfl (.free rfl (NOp.of (by exact g_ia_own (i := k) (l := x.marks.length) rfl rfl rfl rfl rfl rfl hk1 rfl))) rfl ?_
   refine DF.op 6 [2,3,4,5] 10 rfl rfl rfl (.free rfl (NOp.of (by exact g_load_arr1 rfl rfl rfl rfl (by rw [Nat.mul_one]; exact hrow)))) rfl ?_
   refine DF.op 7 [0,1,2,3,4,5,6] 10 rfl rfl rfl (.free rfl (by exact h_pure en_enabled rfl rfl (by repeat (first | exact rfl | exact DLead.same | refine ⟨_, _, rfl, ?_, ?_⟩ | refine ⟨_, rfl, ?_⟩)) hEn rfl)) rfl ?_
   refine DF.op 8 [0,1,2,3,4,5,6,7] 10 rfl rfl rfl (.free rfl (NOp.of (by exact g_len_view (k := L.length) rfl rfl (ints_len _)))) rfl ?_
   refine DF.op 9 [] 10 rfl rfl rfl (.free rfl (NOp.of (by exact mv1 rfl))) rfl ?_
   refine DF.fin (ps := [(0,2),(0,3),(0,4),(0,5),(0,6),(0,9),(1,2),(1,3),(1,4),(1,5),(1,6),(1,9),(2,0),(2,1),(2,4),(2,9),(3,0),(3,1),(3,4),(3,9),(4,0),(4,1),(4,2),(4,3),(4,9),(5,0),(5,1),(5,9),(6,0),(6,1),(6,9),(7,9),(8,9),(9,0),(9,1),(9,2),(9,3),(9,4),(9,5),(9,6),(9,7),(9,8)]) 10 rfl (by decide +kernel) (by decide +kernel) (by rfl) ?_
   refine th_n (AC.block ?_)
   refine AC.loop (ι := Nat × Ex) (fun y => ⟨96, 900, [(1, .d (.ref (stgD s))), (2, .ptr 201 0), (6, .ptr 200 0), (7, .mp 203), (8, aI k), (37, .d (vI L)), (38, aI L.length), (39, aI y.1)], [(200, some (.cells 44 [.own 101 y.2.marks.length, .own 102 y.2.moves.length])), (101, some (.arr 9 1 (tsX y.2.marks))), (102, some (.arr 78 3 (mvL y.2.moves))), (203, some (.map (mapX y.2.marks))), (201, some (.cells 44 zRG))]⟩) (fun y => y.1 ≤ L.length ∧ k < y.2.marks.length ∧ y.2.marks[k]? = some m ∧ ExI s.net y.2 (24 * k + y.1) ∧ exIn s.net k m (L.drop y.1) y.2 = Z) (fun y => L.length - y.1) ((0, x)) ?_ (⟨Nat.zero_le _, hk1, hmarks, hI, hZ.symm⟩) ?_
   ·exact Weak.ren _ [(200, 200), (101, 101), (102, 102), (203, 203), (201, 201)] hC rfl (by repeat (first | exact True.intro | refine And.intro ?_ ?_ | exact DLead.same | exact rfl | refine ⟨_, rfl, ?_⟩)) (by repeat (first | exact True.intro | refine And.intro ?_ ?_ | exact DLead.same | exact rfl | refine ⟨_, _, rfl, rfl, ?_⟩ | refine ⟨_, rfl, ?_⟩ | refine ⟨_, _, rfl, ?_, ?_⟩)) rfl rfl rfl
   ·rintro ⟨j, y⟩ ⟨hj, hky, hym, hJ, hin⟩
    dsimp only at hj hky hym hJ hin ⊢
    have hyn := hJ.n
    have hyl := hJ.l
    refine AC.seq (AC.region ?_)
    refine AL.p (by exact g_cmp rfl rfl rfl) rfl ?_
    refine AL.nil (th_n (AC.seq ?_))
    refine AC.condD rfl (fun h1 => ?_) (fun h1 => ?_)
    ·refine AC.skip (th_n (AC.seq (AC.block (AC.seq ?_))))
     have hj1 : j < L.length := by omega
     have hget := ints_at hj1
     rw [List.drop_eq_getElem_cons hj1, exIn] at hin
     obtain ⟨t, ht⟩ : ∃ t, t = L[j] := ⟨_, rfl⟩
     rw [← ht] at hget hin
     clear ht
     have hrowy : (tsX y.marks)[k]? = some [dS (bstr m)] := by rw [List.getElem?_map, hym]; rfl
     have hFi := ifire_spec s.net m t hB.n (good_netM hg1 hbm) (by omega)
     have hfb := fireI_bits (N := s.net) (t := t) hbm
     obtain ⟨f, hf⟩ : ∃ f, f = fireI s.net m t := ⟨_, rfl⟩
     rw [← hf] at hFi hfb hin
     clear hf
     refine AC.region ?_
     refine AL.p (by exact g_ia_view rfl rfl rfl rfl rfl (by rfl) (by assumption)) rfl ?_
     refine AL.p (by exact g_load_ref rfl rfl rfl) rfl ?_
     refine AL.p (by exact as1 rfl) rfl ?_
     refine AL.nil (th_n (AC.seq ?_))
     refine AC.drawn' mixed_ok [[], [0], [], [2], [], [2,3,4], [2,3,4,5], [], [0,1,2,3,4,5,6,7], [0,1,2,3,4,5,6,7,8], [0,1,2,3,4,5,6,7,8,9], [0,1,2,3,4,5,6,7,8,9], [0,1,2,3,4,5,6,7,8,9,10], [0,1,2,3,4,5,6,7,8,9,10,11,12]] (by decide) ?_
     refine DF.op 0 [] 14 rfl rfl rfl (.free rfl (NOp.of (by exact g_fa_ref rfl rfl rfl rfl rfl rfl))) rfl ?_
     refine DF.op 1 [0] 14 rfl rfl rfl (.free rfl (NOp.of (by exact g_load_refN rfl rfl rfl rfl))) rfl ?_
     refine DF.op 2 [] 14 rfl rfl rfl (.free rfl (NOp.of (by exact g_fa_ptr rfl rfl rfl rfl rfl))) rfl ?_
     refine DF.op 3 [2] 14 rfl rfl rfl (.free rfl (NOp.of (by exact g_load_ptr rfl rfl rfl rfl rfl))) rfl ?_
     refine DF.op 4 [] 14 rfl rfl rfl (.free rfl (NOp.of (by exact mv1 rfl))) rfl ?_
     refine DF.op 5 [2,3,4] 14 rfl rfl rfl (.free rfl (NOp.of (by exact g_ia_own (i := k) (l := y.marks.length) rfl rfl rfl rfl rfl rfl hky rfl))) rfl ?_
     refine DF.op 6 [2,3,4,5] 14 rfl rfl rfl (.free rfl (NOp.of (by exact g_load_arr1 rfl rfl rfl rfl (by rw [Nat.mul_one]; exact hrowy)))) rfl ?_
     refine DF.op 7 [] 14 rfl rfl rfl (.free rfl (NOp.of (by exact mv1 rfl))) rfl ?_
     refine DF.op 8 [0,1,2,3,4,5,6,7] 14 rfl rfl rfl (.free rfl (by exact h_pure en_ifire rfl rfl (by repeat (first | exact rfl | exact DLead.same | refine ⟨_, _, rfl, ?_, ?_⟩ | refine ⟨_, rfl, ?_⟩)) hFi rfl)) rfl ?_
     refine DF.op 9 (List.range 9) 14 rfl rfl rfl (.free rfl (NOp.of (by exact mv5 rfl))) rfl ?_
     refine DF.op 10 (List.range 10) 14 rfl rfl rfl (.free rfl (NOp.of (by exact g_extract (r := .d _) rfl rfl))) rfl ?_
     refine DF.op 11 (List.range 10) 14 rfl rfl rfl (.free rfl (NOp.of (by exact g_extract (r := .d _) rfl rfl))) rfl ?_
     refine DF.op 12 (List.range 11) 14 rfl rfl rfl (.free rfl (NOp.of (by exact as1 rfl))) rfl ?_
     refine DF.op 13 (List.range 13) 14 rfl rfl rfl (.free rfl (NOp.of (by exact as1 rfl))) rfl ?_
     refine DF.fin (ps := [(0,2),(0,3),(0,4),(0,5),(0,6),(0,7),(1,2),(1,3),(1,4),(1,5),(1,6),(1,7),(2,0),(2,1),(2,4),(2,7),(3,0),(3,1),(3,4),(3,7),(4,0),(4,1),(4,2),(4,3),(4,7),(5,0),(5,1),(5,7),(6,0),(6,1),(6,7),(7,0),(7,1),(7,2),(7,3),(7,4),(7,5),(7,6),(10,11),(11,10),(11,12),(12,11)]) 14 rfl (by decide +kernel) (by decide +kernel) (by rfl) ?_
     refine th_n (AC.seq (AC.seq (AC.region ?_)))
     refine AL.p (by exact mv1 rfl) rfl ?_
     refine AL.p (by exact g_not rfl) rfl ?_
     refine AL.nil (th_n ?_)
     refine AC.condB rfl (fun h2 => ?_) (fun h2 => ?_)
     ·refine AC.seq ?_
      have qf : ¬ f.2 = true := by simpa using ‹(!f.2) = true›
      rw [if_neg qf] at hin
      have e : F = (y, some ((k : Int), t)) := by rw [← hrun, ← hin]
      refine AC.weak (Weak.freezeP (els' := tsX y.marks) 6 0 rfl rfl rfl rfl (by rw [tsX_len]; exact Nat.le_refl _) (List.take_of_length_le (by rw [tsX_len]; exact Nat.le_refl _)) rfl) ?_
      refine AC.weak (Weak.freezeP (els' := mvL y.moves) 6 1 rfl rfl rfl rfl (by rw [mvL_len]; exact Nat.le_refl _) (List.take_of_length_le (by rw [mvL_len]; exact Nat.le_refl _)) rfl) ?_
      refine AC.region ?_
      refine AL.p (by exact g_load_ptrN rfl rfl rfl rfl rfl) rfl ?_
      refine AL.p (by exact mv1 rfl) rfl ?_
      refine AL.p (by exact mv1 rfl) rfl ?_
      refine AL.q (by exact h_store rfl rfl rfl rfl rfl rfl) rfl ?_
      refine AL.p (by exact as1 rfl) rfl ?_
      refine AL.p (by exact as1 rfl) rfl ?_
      refine AL.p (by exact as1 rfl) rfl ?_
      refine AL.nil (th_n (AC.ret (th_r (ib_r (th_r (th_r (ib_r (ib_r (th_r (th_r (ib_r (th_r (bq_r ?_)))))))))))))
      exact ret0 rfl (by rw [e]; show AV.leads _ (.tup [rgA y, aI (k : Int), aI t, aT false]) _; repeat (first | exact DLead.same | exact rfl | refine ⟨_, rfl, ?_⟩ | refine ⟨_, _, rfl, ?_, ?_⟩))
     ·refine AC.skip (th_n (AC.seq ?_))
      have qf : f.2 = true := by simpa using ‹(!f.2) = false›
      rw [if_pos qf] at hin
      have hfbb := hfb qf
      have hpm := mapX_pos f.1 y.marks
      obtain ⟨v, b, hvb, hvok, hvr⟩ := lookX f.1 y.marks (by omega)
      refine AC.region ?_
      refine AL.p (by exact mv11 rfl) rfl ?_
      refine AL.p (by exact mv1 rfl) rfl ?_
      refine AL.p (by exact g_lookup (z := .int .i64 0) Try.underlying101 Try.underlying9 (by kernel_rfl) rfl rfl rfl hvb hvr) rfl ?_
      refine AL.p (by exact mv5 rfl) rfl ?_
      refine AL.p (by exact g_extract (r := .d _) rfl rfl) rfl ?_
      refine AL.p (by exact g_extract (r := .d _) rfl rfl) rfl ?_
      refine AL.p (by exact as1 rfl) rfl ?_
      refine AL.p (by exact as1 rfl) rfl ?_
      refine AL.nil (th_n ?_)
      refine AC.cut (fun (z : List (List UInt8) × Int) => ⟨96, 1500, [(1, .d (.ref (stgD s))), (2, .ptr 201 0), (6, .ptr 200 0), (7, .mp 203), (8, aI k), (10, aI t), (13, aI z.2), (37, .d (vI L)), (38, aI L.length), (39, aI j)], [(200, some (.cells 44 [.own 101 z.1.length, .own 102 y.moves.length])), (101, some (.arr 9 1 (tsX z.1))), (102, some (.arr 78 3 (mvL y.moves))), (203, some (.map (mapX z.1))), (201, some (.cells 44 zRG))]⟩) (fun z => exIn s.net k m (L.drop (j + 1)) ⟨z.1, y.moves ++ [⟨k, t, z.2⟩]⟩ = Z ∧ k < z.1.length ∧ z.1[k]? = some m ∧ z.1.length ≤ 300 ∧ ∀ a, a ∈ z.1 → bitsB a s.net.places = true) ?_ ?_
      ·refine AC.seq (AC.region ?_)
       refine AL.p (by exact mv1 rfl) rfl ?_
       refine AL.p (by exact g_not rfl) rfl ?_
       refine AL.nil (th_n ?_)
       refine AC.condB rfl (fun h3 => ?_) (fun h3 => ?_)
       ·refine AC.seq (AC.seq (AC.region ?_))
        refine AL.p (by exact g_fa_ptr rfl rfl rfl rfl rfl) rfl ?_
        refine AL.p (by exact g_load_ptr rfl rfl rfl rfl rfl) rfl ?_
        refine AL.p (by exact g_len_own (sz := 1) (els := []) (e' := 0) rfl rfl (by simp only [maxLen]; omega)) rfl ?_
        refine AL.p (by exact g_cmp rfl rfl rfl) rfl ?_
        refine AL.nil (th_n ?_)
        refine AC.condD rfl (fun h4 => ?_) (fun h4 => ?_)
        ·refine AC.seq ?_
         have hpn : posL f.1 y.marks = none := by rcases hvok with ⟨hb, _⟩ | ⟨_, h⟩; (rw [hb] at h3; exact absurd h3 (by decide)); exact h
         have hlen : y.marks.length = 300 := by omega
         rw [hpn] at hin
         dsimp only at hin
         rw [if_pos hlen] at hin
         have e : F = (y, some ((-1 : Int), (-1 : Int))) := by rw [← hrun, ← hin]
         refine AC.weak (Weak.freezeP (els' := tsX y.marks) 6 0 rfl rfl rfl rfl (by rw [tsX_len]; exact Nat.le_refl _) (List.take_of_length_le (by rw [tsX_len]; exact Nat.le_refl _)) rfl) ?_
         refine AC.weak (Weak.freezeP (els' := mvL y.moves) 6 1 rfl rfl rfl rfl (by rw [mvL_len]; exact Nat.le_refl _) (List.take_of_length_le (by rw [mvL_len]; exact Nat.le_refl _)) rfl) ?_
         refine AC.region ?_
         refine AL.p (by exact g_load_ptrN rfl rfl rfl rfl rfl) rfl ?_
         refine AL.q (by exact h_store rfl rfl rfl rfl rfl rfl) rfl ?_
         refine AL.p (by exact as1 rfl) rfl ?_
         refine AL.p (by exact as1 rfl) rfl ?_
         refine AL.p (by exact as1 rfl) rfl ?_
         refine AL.nil (th_n (AC.ret (th_r (th_r (ib_r (th_r (th_r (ib_r (ib_r (th_r (th_r (ib_r (th_r (bq_r ?_))))))))))))))
         exact ret0 rfl (by rw [e]; show AV.leads _ (.tup [rgA y, aI (-1 : Int), aI (-1 : Int), aT false]) _; repeat (first | exact DLead.same | exact rfl | refine ⟨_, rfl, ?_⟩ | refine ⟨_, _, rfl, ?_, ?_⟩))
        ·refine AC.skip (th_n (AC.seq ?_))
         have hpn : posL f.1 y.marks = none := by rcases hvok with ⟨hb, _⟩ | ⟨_, h⟩; (rw [hb] at h3; exact absurd h3 (by decide)); exact h
         have hlen : ¬ y.marks.length = 300 := by omega
         rw [hpn] at hin
         dsimp only at hin
         rw [if_neg hlen] at hin
         have hpush := mapX_push hpn
         refine AC.region ?_
         refine AL.p (by exact g_fa_ptr rfl rfl rfl rfl rfl) rfl ?_
         refine AL.p (by exact g_load_ptr rfl rfl rfl rfl rfl) rfl ?_
         refine AL.p (by exact g_len_own (sz := 1) (els := []) (e' := 0) rfl rfl (by simp only [maxLen]; omega)) rfl ?_
         refine AL.p (by exact as1 rfl) rfl ?_
         refine AL.nil (th_n (AC.seq (AC.region ?_)))
         refine AL.p (by exact mv11 rfl) rfl ?_
         refine AL.p (by exact mv1 rfl) rfl ?_
         refine AL.p (by exact mv1 rfl) rfl ?_
         refine AL.q (by exact h_mapUpdate Try.underlying101 Try.underlying9 rfl rfl rfl rfl) rfl ?_
         refine AL.nil (th_n (AC.region ?_))
         refine AL.p (by exact g_fa_ptr rfl rfl rfl rfl rfl) rfl ?_
         refine AL.p (by exact g_load_ptr rfl rfl rfl rfl rfl) rfl ?_
         refine AL.p (by exact mv1 rfl) rfl ?_
         refine AL.q (by exact h_litF rfl rfl rfl rfl rfl rfl rfl rfl) rfl ?_
         refine AL.q (by exact h_appendX y.marks [f.1] (.own rfl rfl (tsX_len _).symm) (.view rfl) (by rw [List.length_append]; simp only [List.length_cons, List.length_nil]; omega) (by simp)) rfl ?_
         refine AL.p (by exact g_fa_ptr rfl rfl rfl rfl rfl) rfl ?_
         refine AL.q (by exact h_store rfl rfl rfl rfl rfl rfl) rfl ?_
         refine AL.nil (th_n ?_)
         (have hpn : posL f.1 y.marks = none := (by rcases hvok with ⟨hb, _⟩ | ⟨_, h⟩; (rw [hb] at h3; exact absurd h3 (by decide)); exact h); exact ⟨(y.marks ++ [f.1], (y.marks.length : Int)), ⟨hin, by rw [List.length_append]; omega, by rw [List.getElem?_append_left hky]; exact hym, by rw [List.length_append]; simp only [List.length_cons, List.length_nil]; omega, fun a ha => (List.mem_append.1 ha).elim (hJ.b a) (fun h => by rw [List.mem_singleton.1 h]; exact hfbb)⟩, Weak.ren _ [(200, 200), (101, _), (102, 102), (203, 203), (201, 201)] hC rfl (by repeat (first | exact True.intro | refine And.intro ?_ ?_ | exact DLead.same | exact rfl | refine ⟨_, rfl, ?_⟩)) (by rw [← hpush]; repeat (first | exact True.intro | refine And.intro ?_ ?_ | exact DLead.same | exact rfl | refine ⟨_, _, rfl, rfl, ?_⟩ | refine ⟨_, rfl, ?_⟩ | refine ⟨_, _, rfl, ?_, ?_⟩)) rfl rfl rfl⟩)
       ·refine AC.skip (th_n ?_)
        (obtain ⟨i, hi, hiv⟩ : ∃ i : Nat, posL f.1 y.marks = some i ∧ v = i := (by rcases hvok with ⟨_, h⟩ | ⟨hb, _⟩; exact h; (rw [hb] at h3; exact absurd h3 (by decide))); (rw [hi] at hin); exact ⟨(y.marks, v), ⟨by rw [hiv]; exact hin, hky, hym, hyn, hJ.b⟩, Weak.ren _ [(200, 200), (101, 101), (102, 102), (203, 203), (201, 201)] hC rfl (by repeat (first | exact True.intro | refine And.intro ?_ ?_ | exact DLead.same | exact rfl | refine ⟨_, rfl, ?_⟩)) (by repeat (first | exact True.intro | refine And.intro ?_ ?_ | exact DLead.same | exact rfl | refine ⟨_, _, rfl, rfl, ?_⟩ | refine ⟨_, rfl, ?_⟩ | refine ⟨_, _, rfl, ?_, ?_⟩)) rfl rfl rfl⟩)
      ·rintro ⟨M, v2⟩ ⟨hz1, hz2, hz3, hz4, hz5⟩
       dsimp only at hz1 hz2 hz3 hz4 hz5 ⊢
       refine AC.region ?_
       refine AL.p (by exact g_fa_ptr rfl rfl rfl rfl rfl) rfl ?_
       refine AL.p (by exact g_load_ptr rfl rfl rfl rfl rfl) rfl ?_
       refine AL.p (by exact mv1 rfl) rfl ?_
       refine AL.p (by exact mv1 rfl) rfl ?_
       refine AL.p (by exact mv1 rfl) rfl ?_
       refine AL.p (by exact g_build rfl rfl rfl) rfl ?_
       refine AL.q (by exact h_litF rfl rfl rfl rfl rfl rfl rfl rfl) rfl ?_
       refine AL.q (by exact h_appendMv y.moves [⟨k, t, v2⟩] (.own rfl rfl (mvL_len _).symm) (.view rfl) (by rw [List.length_append]; simp only [List.length_cons, List.length_nil]; omega) (by simp)) rfl ?_
       refine AL.p (by exact g_fa_ptr rfl rfl rfl rfl rfl) rfl ?_
       refine AL.q (by exact h_store rfl rfl rfl rfl rfl rfl) rfl ?_
       refine AL.nil (ib_n (th_n (AC.region ?_)))
       refine AL.p (by exact g_arith rfl rfl rfl (by exact wrap_i64 (by omega))) rfl ?_
       refine AL.p (by exact mv1 rfl) rfl ?_
       refine AL.nil (th_n ?_)
       exact ⟨(j + 1, ⟨M, y.moves ++ [⟨k, t, v2⟩]⟩), ⟨by omega, hz2, hz3, ⟨hz4, hz5, by rw [List.length_append]; simp only [List.length_cons, List.length_nil]; omega⟩, hz1⟩, by dsimp only; omega, Weak.ren _ [(200, 200), (101, 101), (102, _), (203, 203), (201, 201)] hC rfl (by repeat (first | exact True.intro | refine And.intro ?_ ?_ | exact DLead.same | exact rfl | refine ⟨_, rfl, ?_⟩)) (by repeat (first | exact True.intro | refine And.intro ?_ ?_ | exact DLead.same | exact rfl | refine ⟨_, _, rfl, rfl, ?_⟩ | refine ⟨_, rfl, ?_⟩ | refine ⟨_, _, rfl, ?_, ?_⟩)) rfl rfl rfl⟩
    ·refine AC.exit (th_e (th_e (ib_y (ib_n (th_n (AC.region ?_))))))
     refine AL.p (by exact mv1 rfl) rfl ?_
     refine AL.p (by exact g_arith rfl rfl rfl (by exact wrap_i64 (by omega))) rfl ?_
     refine AL.p (by exact as1 rfl) rfl ?_
     refine AL.nil (th_n ?_)
     have hjj : j = L.length := by omega
     rw [hjj, List.drop_length, exIn] at hin
     rw [← hin] at hrun
     dsimp only at hrun
     exact ⟨(k + 1, y), ⟨by dsimp only; omega, ⟨hyn, hJ.b, by dsimp only; omega⟩, by rw [show 301 - (k + 1) = n by omega]; exact hrun⟩, by dsimp only; omega, Weak.ren _ [(200, 200), (101, 101), (102, 102), (203, 203), (201, 201)] hC rfl (by repeat (first | exact True.intro | refine And.intro ?_ ?_ | exact DLead.same | exact rfl | refine ⟨_, rfl, ?_⟩)) (by repeat (first | exact True.intro | refine And.intro ?_ ?_ | exact DLead.same | exact rfl | refine ⟨_, _, rfl, rfl, ?_⟩ | refine ⟨_, rfl, ?_⟩ | refine ⟨_, _, rfl, ?_, ?_⟩)) rfl rfl rfl⟩
  ·refine AC.exit (th_e (th_e (ib_y (th_n (AC.seq ?_)))))
   have e : F = (x, none) := (exOut_end (by omega) (by omega) hrun).symm
   refine AC.weak (Weak.freezeP (els' := tsX x.marks) 6 0 rfl rfl rfl rfl (by rw [tsX_len]; exact Nat.le_refl _) (List.take_of_length_le (by rw [tsX_len]; exact Nat.le_refl _)) rfl) ?_
   refine AC.weak (Weak.freezeP (els' := mvL x.moves) 6 1 rfl rfl rfl rfl (by rw [mvL_len]; exact Nat.le_refl _) (List.take_of_length_le (by rw [mvL_len]; exact Nat.le_refl _)) rfl) ?_
   refine AC.region ?_
   refine AL.p (by exact g_load_ptrN rfl rfl rfl rfl rfl) rfl ?_
   refine AL.q (by exact h_store rfl rfl rfl rfl rfl rfl) rfl ?_
   refine AL.p (by exact as1 rfl) rfl ?_
   refine AL.p (by exact as1 rfl) rfl ?_
   refine AL.p (by exact as1 rfl) rfl ?_
   refine AL.nil (th_n (AC.ret (bq_r ?_)))
   exact ret0 rfl (by rw [e]; show AV.leads _ (.tup [rgA x, aI (-1 : Int), aI (-1 : Int), aT true]) _; repeat (first | exact DLead.same | exact rfl | refine ⟨_, rfl, ?_⟩ | refine ⟨_, _, rfl, ?_, ?_⟩))
theorem en_iExplored : Enters Try.prog 40 := enters_of Try.func40 rfl rfl
theorem exIn_I {N : Net} {k : Nat} {m : List UInt8} (hm : bitsB m N.places = true) : ∀ (L : List Int) {x : Ex} {q : Nat}, ExI N x q → ExI N (exIn N k m L x).1 (q + L.length)
 | [], x, q, h => h
 | t :: ts, x, q, h => by
  rw [exIn]
  split
  ·rename_i hf
   have hb := fireI_bits (N := N) hm hf
   split
   ·rename_i i he
    have := exIn_I (k := k) hm ts (x := ⟨x.marks, x.moves ++ [⟨k, t, (i : Int)⟩]⟩) (q := q + 1) ⟨h.n, h.b, by show (x.moves ++ _).length ≤ _; rw [List.length_append]; have := h.l; simp only [List.length_cons, List.length_nil]; omega⟩
    rw [List.length_cons, show q + (ts.length + 1) = q + 1 + ts.length by omega]
    exact this
   ·split
    ·exact ⟨h.n, h.b, by have := h.l; dsimp only; omega⟩
    ·rename_i hn
     have := exIn_I (k := k) hm ts (x := ⟨x.marks ++ [(fireI N m t).1], x.moves ++ [⟨k, t, x.marks.length⟩]⟩) (q := q + 1) ⟨by show (x.marks ++ _).length ≤ _; rw [List.length_append]; have := h.n; simp only [List.length_cons, List.length_nil]; omega, fun a ha => (List.mem_append.1 ha).elim (h.b a) (fun h => by rw [List.mem_singleton.1 h]; exact hb), by show (x.moves ++ _).length ≤ _; rw [List.length_append]; have := h.l; simp only [List.length_cons, List.length_nil]; omega⟩
     rw [List.length_cons, show q + (ts.length + 1) = q + 1 + ts.length by omega]
     exact this
  ·exact ⟨h.n, h.b, by have := h.l; dsimp only; omega⟩
theorem exOut_I {N : Net} (hN : N.ts.length ≤ 24) : ∀ (n k : Nat) {x : Ex} {q : Nat}, ExI N x q → ExI N (exOut N n k x).1 (q + 24 * n)
 | 0, k, x, q, h => h
 | n + 1, k, x, q, h => by
  rw [exOut]
  split
  ·rename_i hk
   have hm := h.b _ (List.getElem_mem hk)
   rw [← mkAt_nat hk] at hm
   have hL := readyL_len N (mkAt x k) N.ts.length
   have h1 := exIn_I (k := k) hm (readyL N (mkAt x k) N.ts.length) h
   split
   ·rename_i y e
    rw [e] at h1
    have := exOut_I hN n (k + 1) (x := y) (q := q + 24) ⟨h1.n, h1.b, by have := h1.l; dsimp only at this; omega⟩
    rw [show q + 24 * (n + 1) = q + 24 + 24 * n by omega]
    exact this
   ·exact ⟨h1.n, h1.b, by have := h1.l; omega⟩
  ·exact ⟨h.n, h.b, by have := h.l; dsimp only; omega⟩
def explS (s : Stg) : Ex × Bool := if (goodS s && exB (explR s.net s.start)) = true then ((explR s.net s.start).1, true) else (⟨[], []⟩, false)
theorem explS_in (s : Stg) : (explS s).1.marks.length ≤ 300 ∧ (explS s).1.moves.length ≤ 10000 := by
 unfold explS
 split
 ·rename_i h
  have hg := (Bool.and_eq_true_iff.1 h).1
  have h1 : goodN s.net = true ∧ bitsB s.start s.net.places = true := by
   simp only [goodS, Bool.and_eq_true] at hg
   exact hg.1
  have := exOut_I (good_places h1.1).2.2 301 0 (x := ⟨[s.start], []⟩) (q := 0) ⟨by show 1 ≤ 300; omega, fun m hm => by rw [List.mem_singleton.1 hm]; exact h1.2, Nat.le_refl _⟩
  exact ⟨this.n, Nat.le_trans this.l (by omega)⟩
 ·exact ⟨Nat.zero_le _, Nat.zero_le _⟩
set_option maxHeartbeats 2000000 in
theorem iExplore_spec (s : Stg) (hB : StgB s) : ASpec Try.prog 15 [stgA s] [] (Pure1 (.tup [rgA (explS s).1, aT (explS s).2])) := by
 have hV := iIsValidSTG_spec s hB.L
 have hX := iExplored_spec s hB
 have hR : explS s = if (goodS s && exB (explR s.net s.start)) = true then ((explR s.net s.start).1, true) else (⟨[], []⟩, false) := rfl
 obtain ⟨b, hb⟩ : ∃ b, b = goodS s := ⟨_, rfl⟩
 rw [← hb] at hV hX hR
 obtain ⟨c, hc⟩ : ∃ c, c = exB (explR s.net s.start) := ⟨_, rfl⟩
 rw [← hc] at hX hR
 obtain ⟨x, hx⟩ : ∃ x, x = (explR s.net s.start).1 := ⟨_, rfl⟩
 obtain ⟨k, hk⟩ : ∃ k, k = exK (explR s.net s.start) := ⟨_, rfl⟩
 obtain ⟨t, ht⟩ : ∃ t, t = exT (explR s.net s.start) := ⟨_, rfl⟩
 rw [← hx, ← hk, ← ht] at hX
 rw [← hx] at hR
 obtain ⟨G, hG⟩ : ∃ G, G = explS s := ⟨_, rfl⟩
 rw [← hG] at hR ⊢
 have hN1 : b = false → G = (⟨[], []⟩, false) := fun q => hR.trans (if_neg (by rw [q]; simp))
 have hN2 : c = false → G = (⟨[], []⟩, false) := fun q => hR.trans (if_neg (by rw [q]; simp))
 clear hG hb hc hx hk ht
 refine ASpec.of Try.func15 rfl rfl fun C hC => ?_
 refine AC.seq (AC.region ?_)
 refine AL.q (by exact h_boxF rfl rfl) rfl ?_
 refine AL.q (by exact h_alloc rfl) rfl ?_
 refine AL.p (by exact as1 rfl) rfl ?_
 refine AL.nil (th_n (AC.seq (AC.seq (AC.region ?_))))
 refine AL.p (by exact g_load_refN rfl rfl rfl rfl) rfl ?_
 refine AL.q (by exact h_pure en_iIsValidSTG rfl rfl (by repeat (first | exact rfl | exact DLead.same | refine ⟨_, _, rfl, ?_, ?_⟩ | refine ⟨_, rfl, ?_⟩)) hV rfl) rfl ?_
 refine AL.p (by exact g_not rfl) rfl ?_
 refine AL.nil (th_n ?_)
 refine AC.condB rfl (fun h0 => ?_) (fun h0 => ?_)
 ·refine AC.seq (AC.region ?_)
  refine AL.p (by exact g_build rfl rfl rfl) rfl ?_
  refine AL.q (by exact h_store rfl rfl rfl rfl rfl rfl) rfl ?_
  refine AL.p (by exact as1 rfl) rfl ?_
  refine AL.nil (th_n (AC.ret (th_r (bq_r ?_))))
  have e := hN1 (by simpa using h0)
  exact ret0 rfl (by rw [e]; show AV.leads _ (.tup [rgA ⟨[], []⟩, aT false]) _; repeat (first | exact DLead.same | exact DLead.nil | exact rfl | refine ⟨_, rfl, ?_⟩ | refine ⟨_, _, rfl, ?_, ?_⟩))
 ·refine AC.skip (th_n (AC.seq ?_))
  have q1 : b = true := by simpa using h0
  have hX2 := hX q1
  refine AC.region ?_
  refine AL.p (by exact g_load_refN rfl rfl rfl rfl) rfl ?_
  refine AL.q (by exact h_pure en_iExplored rfl rfl (by repeat (first | exact rfl | exact DLead.same | refine ⟨_, _, rfl, ?_, ?_⟩ | refine ⟨_, rfl, ?_⟩)) hX2 rfl) rfl ?_
  refine AL.p (by exact mv5 rfl) rfl ?_
  refine AL.p (by exact g_extract (r := .agg _) rfl rfl) rfl ?_
  refine AL.p (by exact g_extract (r := .d _) rfl rfl) rfl ?_
  refine AL.p (by exact g_extract (r := .d _) rfl rfl) rfl ?_
  refine AL.p (by exact g_extract (r := .d _) rfl rfl) rfl ?_
  refine AL.q (by exact h_alloc rfl) rfl ?_
  refine AL.q (by exact h_store rfl rfl rfl rfl rfl rfl) rfl ?_
  refine AL.p (by exact as1 rfl) rfl ?_
  refine AL.p (by exact as1 rfl) rfl ?_
  refine AL.p (by exact as1 rfl) rfl ?_
  refine AL.nil (th_n (AC.seq (AC.seq (AC.region ?_))))
  refine AL.p (by exact mv1 rfl) rfl ?_
  refine AL.p (by exact g_not rfl) rfl ?_
  refine AL.nil (th_n ?_)
  refine AC.condB rfl (fun h1 => ?_) (fun h1 => ?_)
  ·refine AC.seq (AC.region ?_)
   refine AL.p (by exact g_build rfl rfl rfl) rfl ?_
   refine AL.q (by exact h_store rfl rfl rfl rfl rfl rfl) rfl ?_
   refine AL.p (by exact as1 rfl) rfl ?_
   refine AL.nil (th_n (AC.ret (th_r (bq_r ?_))))
   have e := hN2 (by simpa using h1)
   exact ret0 rfl (by rw [e]; show AV.leads _ (.tup [rgA ⟨[], []⟩, aT false]) _; repeat (first | exact DLead.same | exact DLead.nil | exact rfl | refine ⟨_, rfl, ?_⟩ | refine ⟨_, _, rfl, ?_, ?_⟩))
  ·refine AC.skip (th_n (AC.seq (AC.region ?_)))
   refine AL.p (by exact g_load_ptrN rfl rfl rfl rfl rfl) rfl ?_
   refine AL.q (by exact h_store rfl rfl rfl rfl rfl rfl) rfl ?_
   refine AL.p (by exact as1 rfl) rfl ?_
   refine AL.nil (th_n (AC.ret (bq_r ?_)))
   have q2 : c = true := by simpa using h1
   have e : G = (x, true) := hR.trans (if_pos (by rw [q1, q2]; rfl))
   exact ret0 rfl (by rw [e]; show AV.leads _ (.tup [rgA x, aT true]) _; repeat (first | exact DLead.same | exact rfl | refine ⟨_, rfl, ?_⟩ | refine ⟨_, _, rfl, ?_, ?_⟩))
theorem en_iExplore : Enters Try.prog 15 := enters_of Try.func15 rfl rfl
theorem sameTexts_spec (a : List (List UInt8)) (ha : a.length ≤ 1000000) : ASpec Try.prog 41 [.d (.view 9 1 (tsX a)), .d (.view 9 1 (tsX a))] [] (Pure1 (aT true)) := by
 refine ASpec.of Try.func41 rfl rfl fun C hC => ?_
 refine AC.seq (AC.region ?_)
 refine AL.p (by exact as1 rfl) rfl ?_
 refine AL.nil (th_n (AC.seq (AC.seq (AC.region ?_))))
 refine AL.p (by exact mv1 rfl) rfl ?_
 refine AL.p (by exact g_len_view (k := a.length) rfl rfl (tsX_len _)) rfl ?_
 refine AL.p (by exact mv1 rfl) rfl ?_
 refine AL.p (by exact g_len_view (k := a.length) rfl rfl (tsX_len _)) rfl ?_
 refine AL.p (by exact g_neIr rfl rfl rfl) rfl ?_
 refine AL.nil (th_n ?_)
 refine AC.condF rfl ?_
 refine AC.skip (th_n (AC.seq (AC.seq (AC.region ?_))))
 refine AL.p (by exact mv1 rfl) rfl ?_
 refine AL.p (by exact g_len_view (k := a.length) rfl rfl (tsX_len _)) rfl ?_
 refine AL.p (by exact mv1 rfl) rfl ?_
 refine AL.nil (th_n (AC.block ?_))
 refine AC.loop (ι := Nat) (fun k => ⟨26, 0, [(0, .d (.view 9 1 (tsX a))), (1, .d (.view 9 1 (tsX a))), (12, aI a.length), (13, aI k)], []⟩) (fun k => k ≤ a.length) (fun k => a.length - k) (0) ?_ (Nat.zero_le _) ?_
 ·refine Weak.ren _ [] hC rfl ?_ ?_ rfl rfl rfl <;> repeat (first | exact True.intro | refine And.intro ?_ ?_ | exact DLead.same)
 ·intro k hk
  refine AC.seq (AC.region ?_)
  refine AL.p (by exact g_cmp rfl rfl rfl) rfl ?_
  refine AL.nil (th_n (AC.seq ?_))
  refine AC.condD rfl (fun h0 => ?_) (fun h0 => ?_)
  ·refine AC.skip (th_n (AC.seq (AC.block (AC.seq ?_))))
   have hk1 : k < a.length := by omega
   have hget := tsX_get hk1
   refine AC.region ?_
   refine AL.p (by exact mv1 rfl) rfl ?_
   refine AL.p (by exact as1 rfl) rfl ?_
   refine AL.nil (th_n (AC.seq ?_))
   refine AC.drawn' mixed_ok [[], [], [0,1], [0,1,2], [], [], [4,5], [4,5,6], [0,1,2,3,4,5,6,7]] (by decide) ?_
   refine DF.op 0 [] 9 rfl rfl rfl (.free rfl (NOp.of (by exact mv1 rfl))) rfl ?_
   refine DF.op 1 [] 9 rfl rfl rfl (.free rfl (NOp.of (by exact mv1 rfl))) rfl ?_
   refine DF.op 2 [0,1] 9 rfl rfl rfl (.free rfl (NOp.of (by exact g_ia_view rfl rfl rfl rfl rfl (by rfl) (by assumption)))) rfl ?_
   refine DF.op 3 [0,1,2] 9 rfl rfl rfl (.free rfl (NOp.of (by exact g_load_ref rfl rfl rfl))) rfl ?_
   refine DF.op 4 [] 9 rfl rfl rfl (.free rfl (NOp.of (by exact mv1 rfl))) rfl ?_
   refine DF.op 5 [] 9 rfl rfl rfl (.free rfl (NOp.of (by exact mv1 rfl))) rfl ?_
   refine DF.op 6 [4,5] 9 rfl rfl rfl (.free rfl (NOp.of (by exact g_ia_view rfl rfl rfl rfl rfl (by rfl) (by assumption)))) rfl ?_
   refine DF.op 7 [4,5,6] 9 rfl rfl rfl (.free rfl (NOp.of (by exact g_load_ref rfl rfl rfl))) rfl ?_
   refine DF.op 8 [0,1,2,3,4,5,6,7] 9 rfl rfl rfl (.free rfl (NOp.of (by exact g_neSr rfl rfl rfl))) rfl ?_
   refine DF.fin (ps := [(0,1),(0,4),(0,5),(0,6),(0,7),(1,0),(1,4),(1,5),(1,6),(1,7),(2,4),(2,5),(2,6),(2,7),(3,4),(3,5),(3,6),(3,7),(4,0),(4,1),(4,2),(4,3),(4,5),(5,0),(5,1),(5,2),(5,3),(5,4),(6,0),(6,1),(6,2),(6,3),(7,0),(7,1),(7,2),(7,3)]) 9 rfl (by decide +kernel) (by decide +kernel) (by rfl) ?_
   refine th_n ?_
   refine AC.condF rfl ?_
   refine AC.skip (ib_n (th_n (AC.region ?_)))
   refine AL.p (by exact g_arith rfl rfl rfl (by exact wrap_i64 (by omega))) rfl ?_
   refine AL.p (by exact mv1 rfl) rfl ?_
   refine AL.nil (th_n ?_)
   exact ⟨k + 1, by omega, by omega, Weak.ren _ [] hC rfl (by repeat (first | exact True.intro | refine And.intro ?_ ?_ | exact DLead.same)) (by repeat (exact True.intro)) rfl rfl rfl⟩
  ·refine AC.exit (th_e (th_e (ib_y (th_n (AC.seq (AC.region ?_))))))
   refine AL.p (by exact as1 rfl) rfl ?_
   refine AL.nil (th_n (AC.ret (bq_r ?_)))
   exact ret1 rfl rfl
theorem en_sameTexts : Enters Try.prog 41 := enters_of Try.func41 rfl rfl
set_option maxHeartbeats 1000000 in
theorem pSameReach_spec (x : Ex) (h1l : x.marks.length ≤ 1000000) (h2l : x.moves.length ≤ 1000000) : ASpec Try.prog 16 [rgA x, rgA x] [] (Pure1 (aT true)) := by
 have hT := sameTexts_spec x.marks h1l
 refine ASpec.of Try.func16 rfl rfl fun C hC => ?_
 refine AC.seq (AC.region ?_)
 refine AL.q (by exact h_boxF rfl rfl) rfl ?_
 refine AL.q (by exact h_boxF rfl rfl) rfl ?_
 refine AL.p (by exact as1 rfl) rfl ?_
 refine AL.nil (th_n (AC.seq (AC.seq (AC.region ?_))))
 refine AL.p (by exact g_fa_ref rfl rfl rfl rfl rfl rfl) rfl ?_
 refine AL.p (by exact g_load_ref rfl rfl rfl) rfl ?_
 refine AL.p (by exact g_fa_ref rfl rfl rfl rfl rfl rfl) rfl ?_
 refine AL.p (by exact g_load_ref rfl rfl rfl) rfl ?_
 refine AL.q (by exact h_pure en_sameTexts rfl rfl (by repeat (first | exact rfl | exact DLead.same | refine ⟨_, _, rfl, ?_, ?_⟩)) hT rfl) rfl ?_
 refine AL.p (by exact g_not rfl) rfl ?_
 refine AL.p (by exact mv1 rfl) rfl ?_
 refine AL.yes rfl rfl rfl ?_
 refine AL.p (by exact g_fa_ref rfl rfl rfl rfl rfl rfl) rfl ?_
 refine AL.yes rfl rfl rfl ?_
 refine AL.p (by exact g_load_ref rfl rfl rfl) rfl ?_
 refine AL.yes rfl rfl rfl ?_
 refine AL.p (by exact g_len_view (k := x.moves.length) rfl rfl (mvL_len _)) rfl ?_
 refine AL.yes rfl rfl rfl ?_
 refine AL.p (by exact g_fa_ref rfl rfl rfl rfl rfl rfl) rfl ?_
 refine AL.yes rfl rfl rfl ?_
 refine AL.p (by exact g_load_ref rfl rfl rfl) rfl ?_
 refine AL.yes rfl rfl rfl ?_
 refine AL.p (by exact g_len_view (k := x.moves.length) rfl rfl (mvL_len _)) rfl ?_
 refine AL.yes rfl rfl rfl ?_
 refine AL.p (by exact g_neIr rfl rfl rfl) rfl ?_
 refine AL.p (by exact g_pickF (r := .d _) rfl rfl) rfl ?_
 refine AL.nil (th_n ?_)
 refine AC.condF rfl ?_
 refine AC.skip (th_n (AC.seq (AC.seq (AC.region ?_))))
 refine AL.p (by exact g_fa_ref rfl rfl rfl rfl rfl rfl) rfl ?_
 refine AL.p (by exact g_load_ref rfl rfl rfl) rfl ?_
 refine AL.p (by exact g_len_view (k := x.moves.length) rfl rfl (mvL_len _)) rfl ?_
 refine AL.p (by exact mv1 rfl) rfl ?_
 refine AL.nil (th_n (AC.block ?_))
 refine AC.loop (ι := Nat) (fun k => ⟨39, 0, [(2, .d (.ref (rgD x))), (3, .d (.ref (rgD x))), (23, aI x.moves.length), (24, aI k)], []⟩) (fun k => k ≤ x.moves.length) (fun k => x.moves.length - k) (0) ?_ (Nat.zero_le _) ?_
 ·refine Weak.ren _ [] hC rfl ?_ ?_ rfl rfl rfl <;> repeat (first | exact True.intro | refine And.intro ?_ ?_ | exact DLead.same)
 ·intro k hk
  refine AC.seq (AC.region ?_)
  refine AL.p (by exact g_cmp rfl rfl rfl) rfl ?_
  refine AL.nil (th_n (AC.seq ?_))
  refine AC.condD rfl (fun h0 => ?_) (fun h0 => ?_)
  ·refine AC.skip (th_n (AC.seq (AC.block (AC.seq ?_))))
   have hk1 : k < x.moves.length := by omega
   have hget := mvL_get hk1
   refine AC.region ?_
   refine AL.p (by exact mv1 rfl) rfl ?_
   refine AL.p (by exact as1 rfl) rfl ?_
   refine AL.nil (th_n (AC.seq ?_))
   refine AC.drawn' mixed_ok [[], [0], [], [0,1,2], [0,1,2,3], [], [5], [], [5,6,7], [5,6,7,8], [0,1,2,3,4,5,6,7,8,9]] (by decide) ?_
   refine DF.op 0 [] 11 rfl rfl rfl (.free rfl (NOp.of (by exact g_fa_ref rfl rfl rfl rfl rfl rfl))) rfl ?_
   refine DF.op 1 [0] 11 rfl rfl rfl (.free rfl (NOp.of (by exact g_load_ref rfl rfl rfl))) rfl ?_
   refine DF.op 2 [] 11 rfl rfl rfl (.free rfl (NOp.of (by exact mv1 rfl))) rfl ?_
   refine DF.op 3 [0,1,2] 11 rfl rfl rfl (.free rfl (NOp.of (by exact g_ia_view rfl rfl rfl rfl rfl (by rfl) (by assumption)))) rfl ?_
   refine DF.op 4 [0,1,2,3] 11 rfl rfl rfl (.free rfl (NOp.of (by exact g_load_refN rfl rfl rfl rfl))) rfl ?_
   refine DF.op 5 [] 11 rfl rfl rfl (.free rfl (NOp.of (by exact g_fa_ref rfl rfl rfl rfl rfl rfl))) rfl ?_
   refine DF.op 6 [5] 11 rfl rfl rfl (.free rfl (NOp.of (by exact g_load_ref rfl rfl rfl))) rfl ?_
   refine DF.op 7 [] 11 rfl rfl rfl (.free rfl (NOp.of (by exact mv1 rfl))) rfl ?_
   refine DF.op 8 [5,6,7] 11 rfl rfl rfl (.free rfl (NOp.of (by exact g_ia_view rfl rfl rfl rfl rfl (by rfl) (by assumption)))) rfl ?_
   refine DF.op 9 [5,6,7,8] 11 rfl rfl rfl (.free rfl (NOp.of (by exact g_load_refN rfl rfl rfl rfl))) rfl ?_
   refine DF.op 10 (List.range 10) 11 rfl rfl rfl (.free rfl (NOp.of (by exact g_eq3 (r := false) (by decide +kernel) rfl rfl (by simp [eqOf])))) rfl ?_
   refine DF.fin (ps := [(0,2),(0,5),(0,6),(0,7),(0,8),(0,9),(1,2),(1,5),(1,6),(1,7),(1,8),(1,9),(2,0),(2,1),(2,5),(2,6),(2,7),(2,8),(2,9),(3,5),(3,6),(3,7),(3,8),(3,9),(4,5),(4,6),(4,7),(4,8),(4,9),(5,0),(5,1),(5,2),(5,3),(5,4),(5,7),(6,0),(6,1),(6,2),(6,3),(6,4),(6,7),(7,0),(7,1),(7,2),(7,3),(7,4),(7,5),(7,6),(8,0),(8,1),(8,2),(8,3),(8,4),(9,0),(9,1),(9,2),(9,3),(9,4)]) 11 rfl (by decide +kernel) (by decide +kernel) (by rfl) ?_
   refine th_n ?_
   refine AC.condF rfl ?_
   refine AC.skip (ib_n (th_n (AC.region ?_)))
   refine AL.p (by exact g_arith rfl rfl rfl (by exact wrap_i64 (by omega))) rfl ?_
   refine AL.p (by exact mv1 rfl) rfl ?_
   refine AL.nil (th_n ?_)
   exact ⟨k + 1, by omega, by omega, Weak.ren _ [] hC rfl (by repeat (first | exact True.intro | refine And.intro ?_ ?_ | exact DLead.same)) (by repeat (exact True.intro)) rfl rfl rfl⟩
  ·refine AC.exit (th_e (th_e (ib_y (th_n (AC.seq (AC.region ?_))))))
   refine AL.p (by exact as1 rfl) rfl ?_
   refine AL.nil (th_n (AC.ret (bq_r ?_)))
   exact ret1 rfl rfl
theorem en_pSameReach : Enters Try.prog 16 := enters_of Try.func16 rfl rfl
theorem pSameStg_spec (a b : Stg) (ha : StgB a) (hb : StgB b) : ASpec Try.prog 8 [stgA a, stgA b] [] (Pure1 (aT (sameS a b))) := by
 have hE := sEqSTG_spec a b ha hb
 refine ASpec.of Try.func8 rfl rfl fun C hC => ?_
 refine AC.seq (AC.region ?_)
 refine AL.q (by exact h_boxF rfl rfl) rfl ?_
 refine AL.q (by exact h_boxF rfl rfl) rfl ?_
 refine AL.p (by exact as1 rfl) rfl ?_
 refine AL.nil (th_n (AC.seq (AC.region ?_)))
 refine AL.p (by exact g_load_refN rfl rfl rfl rfl) rfl ?_
 refine AL.p (by exact g_load_refN rfl rfl rfl rfl) rfl ?_
 refine AL.q (by exact h_pure en_sEqSTG rfl rfl (by repeat (first | exact rfl | exact DLead.same | refine ⟨_, _, rfl, ?_, ?_⟩ | refine ⟨_, rfl, ?_⟩)) hE rfl) rfl ?_
 refine AL.p (by exact as1 rfl) rfl ?_
 refine AL.nil (th_n (AC.ret (bq_r ?_)))
 exact ret1 rfl rfl
theorem en_pSameStg : Enters Try.prog 8 := enters_of Try.func8 rfl rfl
theorem sigsB_iff {l : List Sig} : sigsB l = true ↔ (1 ≤ l.length ∧ l.length ≤ 8) ∧ (∀ x, x ∈ l → nameB x.name = true ∧ 1 ≤ x.kind ∧ x.kind ≤ 3) ∧ l.Pairwise fun x y => x.name ≠ y.name := by
 have key : allK (sigK l) l.length = true ↔ (∀ x, x ∈ l → nameB x.name = true ∧ 1 ≤ x.kind ∧ x.kind ≤ 3) ∧ l.Pairwise fun x y => x.name ≠ y.name := by
  rw [allK_iff, List.pairwise_iff_getElem]
  constructor
  ·intro h
   refine ⟨fun x hx => ?_, fun i j hi hj hij e => ?_⟩
   ·obtain ⟨k, hk, rfl⟩ := List.getElem_of_mem hx
    have := h k hk
    unfold sigK at this
    rw [sAt_nat hk, Bool.and_eq_true, Bool.and_eq_true] at this
    have h2 := inI_iff.1 this.2.1
    exact ⟨this.1, by omega, by omega⟩
   ·have := h j hj
    unfold sigK at this
    rw [sAt_nat hj, Bool.and_eq_true, Bool.and_eq_true, Bool.not_eq_true'] at this
    have h3 := List.any_eq_false.1 this.2.2 l[i] (by rw [List.mem_take_iff_getElem]; exact ⟨i, by omega, rfl⟩)
    exact h3 (by simpa using e)
  ·rintro ⟨h1, h2⟩ k hk
   have h3 := h1 _ (List.getElem_mem hk)
   unfold sigK
   rw [sAt_nat hk, Bool.and_eq_true, Bool.and_eq_true, Bool.not_eq_true']
   refine ⟨h3.1, inI_iff.2 (by omega), List.any_eq_false.2 fun x hx => ?_⟩
   obtain ⟨i, hi, rfl⟩ := List.mem_take_iff_getElem.1 hx
   have := h2 i k (by omega) hk (by omega)
   simpa using this
 unfold sigsB
 rw [Bool.and_eq_true, key, inI_iff]
 constructor
 ·rintro ⟨h1, h2⟩; exact ⟨by omega, h1⟩
 ·rintro ⟨h1, h2⟩; exact ⟨h2, by omega⟩
theorem goodS_iff {s : Stg} : goodS s = true ↔ (goodN s.net = true ∧ bitsB s.start s.net.places = true) ∧ sigsB s.sigs = true ∧ (s.labs.length : Int) = s.net.ts.length ∧ ∀ x, x ∈ s.labs → labOk x s.sigs.length = true := by
 unfold goodS
 simp only [Bool.and_eq_true, decide_eq_true_eq, List.all_eq_true]
theorem mirK_mirK (x : Sig) : mirK (mirK x) = x := by
 unfold mirK
 cases x
 dsimp only
 congr 1
 omega
theorem mirT_mirT (s : Stg) : mirT (mirT s) = s := by
 unfold mirT
 cases s
 dsimp only
 rw [List.map_map, show (mirK ∘ mirK) = id from funext mirK_mirK, List.map_id]
theorem mirR_law {s : Stg} (h : (mirR s).2 = true) : (mirR s).1 = mirT s ∧ mirR (mirT s) = (s, true) := by
 unfold mirR at h ⊢
 split at h
 ·rename_i hc
  rw [if_pos hc]
  rw [Bool.and_eq_true, Bool.not_eq_true', List.any_eq_false] at hc
  obtain ⟨hg, hk⟩ := hc
  refine ⟨rfl, ?_⟩
  rw [if_pos, mirT_mirT]
  have h1 := goodS_iff.1 hg
  have h2 := sigsB_iff.1 h1.2.1
  have h3 : ∀ x, x ∈ s.sigs → 1 ≤ x.kind ∧ x.kind ≤ 2 := fun x hx => by have := (h2.2.1 x hx).2; have := hk x hx; simp at this; omega
  rw [Bool.and_eq_true, Bool.not_eq_true', List.any_eq_false]
  refine ⟨goodS_iff.2 ⟨h1.1, sigsB_iff.2 ⟨by show 1 ≤ (s.sigs.map mirK).length ∧ (s.sigs.map mirK).length ≤ 8; rw [List.length_map]; exact h2.1, fun x hx => ?_, ?_⟩, h1.2.2.1, fun x hx => ?_⟩, fun x hx => ?_⟩
  ·obtain ⟨y, hy, rfl⟩ := List.mem_map.1 hx
   have := h3 y hy
   exact ⟨(h2.2.1 y hy).1, by show 1 ≤ 3 - y.kind; omega, by show 3 - y.kind ≤ 3; omega⟩
  ·show (s.sigs.map mirK).Pairwise _
   rw [List.pairwise_map]
   exact h2.2.2
  ·show labOk x (s.sigs.map mirK).length = true
   rw [List.length_map]
   exact h1.2.2.2 x hx
  ·obtain ⟨y, hy, rfl⟩ := List.mem_map.1 hx
   have := h3 y hy
   show ¬ decide (3 - y.kind = 3) = true
   simp; omega
 ·cases h
theorem delL_sub {α : Type} (l : List α) (i : Nat) : (delL l i).Sublist l := by
 unfold delL
 conv => rhs; rw [← List.take_append_drop i l]
 exact List.Sublist.append (List.Sublist.refl _) (by rw [List.drop_add_one_eq_tail_drop]; exact List.tail_sublist _)
theorem hidR_law {s : Stg} {g : Int} (h : (hidR s g).2 = true) : explS (hidR s g).1 = explS s := by
 unfold hidR at h ⊢
 split at h
 ·rename_i hc
  rw [if_pos hc]
  simp only [Bool.and_eq_true, Bool.not_eq_true', decide_eq_true_eq, decide_eq_false_iff_not] at hc
  obtain ⟨hg, ⟨hg0, hg1⟩, hg2⟩ := hc
  have h1 := goodS_iff.1 hg
  have h2 := sigsB_iff.1 h1.2.1
  obtain ⟨i, rfl⟩ : ∃ i : Nat, g = i := ⟨g.toNat, by omega⟩
  have hi : i < s.sigs.length := by omega
  have hdl := delL_len hi
  rw [Int.toNat_natCast]
  have hgd : goodS (hidT s i) = true := by
   refine goodS_iff.2 ⟨h1.1, sigsB_iff.2 ⟨by show 1 ≤ (delL s.sigs i).length ∧ (delL s.sigs i).length ≤ 8; omega, fun x hx => h2.2.1 x ((delL_sub _ _).subset hx), h2.2.2.sublist (delL_sub _ _)⟩, by show ((s.labs.map (hidL i)).length : Int) = _; rw [List.length_map]; exact h1.2.2.1, fun x hx => ?_⟩
   obtain ⟨y, hy, rfl⟩ := List.mem_map.1 hx
   have hk := h1.2.2.2 y hy
   show labOk (hidL i y) (delL s.sigs i).length = true
   rw [hdl]
   unfold labOk at hk ⊢
   unfold hidL
   simp only [Bool.or_eq_true, Bool.and_eq_true, decide_eq_true_eq, Bool.not_eq_true'] at hk ⊢
   split
   ·right; exact ⟨rfl, rfl⟩
   ·split
    ·left; dsimp only; omega
    ·rcases hk with hk | hk
     ·left; omega
     ·right; exact hk
  unfold explS
  rw [hgd, hg]
  rfl
 ·cases h
theorem mirR_B {s : Stg} (h : StgB s) : StgB (mirR s).1 := by
 unfold mirR
 split
 ·refine ⟨h.n, by show (s.sigs.map mirK).length ≤ _; rw [List.length_map]; exact h.sg, fun t ht => ?_, h.l, h.lb, h.st⟩
  obtain ⟨y, hy, rfl⟩ := List.mem_map.1 ht
  exact h.sn y hy
 ·exact ⟨⟨by decide, Nat.zero_le _, fun t ht => absurd ht List.not_mem_nil⟩, Nat.zero_le _, fun t ht => absurd ht List.not_mem_nil, Nat.zero_le _, fun t ht => absurd ht List.not_mem_nil, Nat.zero_le _⟩
theorem zS_B : StgB zS := ⟨⟨by decide, Nat.zero_le _, fun t ht => absurd ht List.not_mem_nil⟩, Nat.zero_le _, fun t ht => absurd ht List.not_mem_nil, Nat.zero_le _, fun t ht => absurd ht List.not_mem_nil, Nat.zero_le _⟩
theorem hidR_B {s : Stg} {g : Int} (h : StgB s) : StgB (hidR s g).1 := by
 unfold hidR
 split
 ·refine ⟨h.n, Nat.le_trans (delL_sub _ _).length_le h.sg, fun t ht => h.sn t ((delL_sub _ _).subset ht), by show (s.labs.map (hidL _)).length ≤ _; rw [List.length_map]; exact h.l, fun x hx => ?_, h.st⟩
  obtain ⟨y, hy, rfl⟩ := List.mem_map.1 hx
  have := h.lb y hy
  rename_i hc
  simp only [Bool.and_eq_true, Bool.not_eq_true', decide_eq_true_eq] at hc
  unfold hidL
  split
  ·exact ⟨by decide, by decide⟩
  ·split
   ·dsimp only; omega
   ·exact this
 ·exact zS_B
theorem unionNS_B {a b : Stg} (ha : StgS a) (hb : StgS b) : NetB (unionN a.net b.net) := by
 have h1 := ha.p
 have h2 := hb.p
 have h3 := ha.tl
 have h4 := hb.tl
 refine ⟨by show _ ≤ a.net.places + b.net.places ∧ a.net.places + b.net.places ≤ _; omega, by show (a.net.ts ++ b.net.ts.map _).length ≤ _; rw [List.length_append, List.length_map]; omega, fun t ht => ?_⟩
 rcases List.mem_append.1 ht with h | h
 ·have := ha.t t h; omega
 ·obtain ⟨u, hu, rfl⟩ := List.mem_map.1 h
  have := hb.t u hu
  simp only [shT, mapI, List.length_map]; omega
theorem unionR_B {a b : Stg} (ha : StgS a) (hb : StgS b) : NetB (unionR a.net b.net).1 := by
 unfold unionR
 split
 ·show NetB (netOf _)
  unfold netOf
  split
  ·exact unionNS_B ha hb
  ·exact ⟨by decide, Nat.zero_le _, fun t ht => by cases ht⟩
 ·exact ⟨by decide, Nat.zero_le _, fun t ht => by cases ht⟩
theorem unionS_B {a b : Stg} (ha : StgS a) (hb : StgS b) : StgB (unionS a b).1 := by
 unfold unionS
 split
 ·have h1 := ha.sl
  have h2 := hb.sl
  have h3 := ha.ll
  have h4 := hb.ll
  have h5 := ha.st
  have h6 := hb.st
  refine ⟨unionR_B ha hb, by show (a.sigs ++ b.sigs).length ≤ _; rw [List.length_append]; omega, fun t ht => ?_, by show (a.labs ++ b.labs.map _).length ≤ _; rw [List.length_append, List.length_map]; omega, fun x hx => ?_, by show (a.start ++ b.start).length ≤ _; rw [List.length_append]; omega⟩
  ·rcases List.mem_append.1 ht with h | h
   ·have := ha.sn t h; omega
   ·have := hb.sn t h; omega
  ·rcases List.mem_append.1 hx with h | h
   ·have := ha.lb x h; omega
   ·obtain ⟨y, hy, rfl⟩ := List.mem_map.1 h
    have := hb.lb y hy
    unfold shLab
    split
    ·dsimp only; omega
    ·omega
 ·exact zS_B
abbrev stgC (s : Stg) : List AV := [aI s.net.places, .d (vTs s.net.ts), .d (vSigs s.sigs), .d (vLabs s.labs), aS (bstr s.start)]
set_option maxHeartbeats 32000000 in
theorem FnMirrored_gen (code more : List UInt8) (s a b c d e f : Stg) (sg : Int) (l : List Int) (hc : code.length ≤ 9223372036854775807) (hm : more.length ≤ 9223372036854775807)
  (hs : StgS s) (ha : StgS a) (hb : StgS b) (hcS : StgS c) (hd : StgS d) (hl : l.length ≤ 10) (he : StgB e) (hf : StgB f)
  (hD1 : ASpec Try.prog 5 [.d (vB code)] [] (Pure1 (stgA s))) (hD2 : ASpec Try.prog 9 [.d (vB more)] [] (Pure1 (.tup [stgA a, aI sg])))
  (hD3 : ASpec Try.prog 12 [.d (vB more)] [] (Pure1 (.tup [stgA b, stgA c]))) (hD4 : ASpec Try.prog 17 [.d (vB more)] [] (Pure1 (.tup [stgA d, .d (vI l)])))
  (hD5 : ASpec Try.prog 20 [.d (vB more)] [] (Pure1 (.tup [stgA e, stgA f]))) : ASpec Try.prog 3 [.d (vB code), .d (vB more)] [] (Pure1 (aT true)) := by
 have hBig := big_spec code more hc hm
 have hM1 := iMirror_spec s hs.B
 have hM2 := sMirror_spec s hs.B
 have hMl := mirR_law (s := s)
 have hMB := mirR_B hs.B
 obtain ⟨M, hM⟩ : ∃ M, M = mirR s := ⟨_, rfl⟩
 rw [← hM] at hM1 hM2 hMl hMB
 have hM3 := iMirror_spec M.1 hMB
 have hP1 := pSameStg_spec M.1 M.1 hMB hMB
 have hP2 := pSameStg_spec s s hs.B hs.B
 rw [sameS_self] at hP1 hP2
 have hH1 := iHide_spec a sg ha.B
 have hH2 := sHide_spec a sg ha.B
 have hHl := hidR_law (s := a) (g := sg)
 have hHB := hidR_B (g := sg) ha.B
 obtain ⟨H, hH⟩ : ∃ H, H = hidR a sg := ⟨_, rfl⟩
 rw [← hH] at hH1 hH2 hHl hHB
 have hP3 := pSameStg_spec H.1 H.1 hHB hHB
 rw [sameS_self] at hP3
 have hU1 := iUnionS_spec b c hb.B hcS.B
 have hU2 := sUnionSTGs_spec b c hb.B hcS.B (unionR_B hb hcS).L
 have hUB := unionS_B hb hcS
 obtain ⟨U, hU⟩ : ∃ U, U = unionS b c := ⟨_, rfl⟩
 rw [← hU] at hU1 hU2 hUB
 have hP4 := pSameStg_spec U.1 U.1 hUB hUB
 rw [sameS_self] at hP4
 have hX1 := iExplore_spec a ha.B
 have hX2 := iExplore_spec H.1 hHB
 have hXl := explS_in a
 obtain ⟨X, hX⟩ : ∃ X, X = explS a := ⟨_, rfl⟩
 rw [← hX] at hX1 hXl hHl
 have hPR := pSameReach_spec X.1 (by omega) (by omega)
 have hL1 := iVisL_spec d l hd.B (by omega)
 have hL2 := sVisL_spec d l hd.B (by omega)
 have hLl : (visLR d l).1.length ≤ 10 := by
  unfold visLR
  split
  ·exact Nat.le_trans (visLL_len d l) hl
  ·exact Nat.zero_le _
 obtain ⟨V, hV⟩ : ∃ V, V = visLR d l := ⟨_, rfl⟩
 rw [← hV] at hL1 hL2 hLl
 have hE1 := iEqSTG_spec e f he hf
 have hE2 := sEqSTG_spec e f he hf
 obtain ⟨E, hE⟩ : ∃ E, E = sameS e f := ⟨_, rfl⟩
 rw [← hE] at hE1 hE2
 clear hM hH hU hX hV hE
 refine ASpec.of Try.func3 rfl rfl fun C hC => ?_
 refine AC.seq (AC.region ?_)
 refine AL.p (by exact as1 rfl) rfl ?_
 refine AL.nil (th_n (AC.seq (AC.seq (AC.region ?_))))
 refine AL.p (by exact mv1 rfl) rfl ?_
 refine AL.p (by exact mv1 rfl) rfl ?_
 refine AL.q (by exact h_pure en_big rfl rfl (by repeat (first | exact rfl | exact DLead.same | refine ⟨_, _, rfl, ?_, ?_⟩)) hBig rfl) rfl ?_
 refine AL.nil (th_n ?_)
 refine AC.condB rfl (fun h0 => ?_) (fun h0 => ?_)
 ·refine AC.seq (AC.region ?_)
  refine AL.p (by exact as1 rfl) rfl ?_
  refine AL.nil (th_n (AC.ret (th_r (bq_r ?_))))
  exact ret1 rfl rfl
 ·refine AC.skip (th_n (AC.seq (AC.region ?_)))
  refine AL.p (by exact mv1 rfl) rfl ?_
  refine AL.q (by exact h_pure en_sDrawMirror rfl rfl (by repeat (first | exact rfl | exact DLead.same | refine ⟨_, _, rfl, ?_, ?_⟩)) hD1 rfl) rfl ?_
  refine AL.q (by exact h_alloc rfl) rfl ?_
  refine AL.q (by exact h_store rfl rfl rfl rfl rfl rfl) rfl ?_
  refine AL.nil (th_n (AC.seq (AC.region ?_)))
  refine AL.p (by exact g_load_ptrN rfl rfl rfl rfl rfl) rfl ?_
  refine AL.q (by exact h_pure en_iMirror rfl rfl (by repeat (first | exact rfl | exact DLead.same | refine ⟨_, _, rfl, ?_, ?_⟩ | refine ⟨_, rfl, ?_⟩)) hM1 rfl) rfl ?_
  refine AL.p (by exact mv5 rfl) rfl ?_
  refine AL.p (by exact g_extract (r := .agg _) rfl rfl) rfl ?_
  refine AL.p (by exact g_extract (r := .d _) rfl rfl) rfl ?_
  refine AL.q (by exact h_alloc rfl) rfl ?_
  refine AL.q (by exact h_store rfl rfl rfl rfl rfl rfl) rfl ?_
  refine AL.p (by exact as1 rfl) rfl ?_
  refine AL.nil (th_n (AC.seq (AC.region ?_)))
  refine AL.p (by exact g_load_ptrN rfl rfl rfl rfl rfl) rfl ?_
  refine AL.q (by exact h_pure en_sMirror rfl rfl (by repeat (first | exact rfl | exact DLead.same | refine ⟨_, _, rfl, ?_, ?_⟩ | refine ⟨_, rfl, ?_⟩)) hM2 rfl) rfl ?_
  refine AL.p (by exact mv5 rfl) rfl ?_
  refine AL.p (by exact g_extract (r := .agg _) rfl rfl) rfl ?_
  refine AL.p (by exact g_extract (r := .d _) rfl rfl) rfl ?_
  refine AL.q (by exact h_alloc rfl) rfl ?_
  refine AL.q (by exact h_store rfl rfl rfl rfl rfl rfl) rfl ?_
  refine AL.p (by exact as1 rfl) rfl ?_
  refine AL.nil (th_n (AC.seq (AC.seq ?_)))
  refine AC.weak (t := ⟨205, 300, [(1, .d (vB more)), (5, .ptr 200 0), (6, .ptr 201 0), (7, aT M.2), (8, .ptr 202 0), (9, aT M.2)], [(200, some (.cells 30 (stgC s))), (201, some (.cells 30 (stgC M.1))), (202, some (.cells 30 (stgC M.1)))]⟩) (Weak.ren _ [(200, _), (201, _), (202, _)] hC rfl (by repeat (first | exact True.intro | refine And.intro ?_ ?_ | exact DLead.same | exact rfl | refine ⟨_, rfl, ?_⟩)) (by repeat (first | exact True.intro | refine And.intro ?_ ?_ | exact DLead.same | exact rfl | refine ⟨_, _, rfl, rfl, ?_⟩ | refine ⟨_, rfl, ?_⟩ | refine ⟨_, _, rfl, ?_, ?_⟩)) rfl rfl rfl) ?_
  refine AC.region ?_
  refine AL.p (by exact mv1 rfl) rfl ?_
  refine AL.p (by exact mv1 rfl) rfl ?_
  refine AL.p (by exact g_neBr rfl rfl rfl) rfl ?_
  refine AL.p (by exact mv1 rfl) rfl ?_
  refine AL.yes rfl rfl rfl ?_
  refine AL.p (by exact g_load_ptrN rfl rfl rfl rfl rfl) rfl ?_
  refine AL.yes rfl rfl rfl ?_
  refine AL.p (by exact g_load_ptrN rfl rfl rfl rfl rfl) rfl ?_
  refine AL.yes rfl rfl rfl ?_
  refine AL.q (by exact h_pure en_pSameStg rfl rfl (by repeat (first | exact rfl | exact DLead.same | refine ⟨_, _, rfl, ?_, ?_⟩ | refine ⟨_, rfl, ?_⟩)) hP1 rfl) rfl ?_
  refine AL.yes rfl rfl rfl ?_
  refine AL.p (by exact g_not rfl) rfl ?_
  refine AL.p (by exact g_pickF (r := .d _) rfl rfl) rfl ?_
  refine AL.nil (th_n ?_)
  refine AC.condF rfl ?_
  refine AC.skip (th_n ?_)
  refine AC.cut (fun (_ : Unit) => ⟨205, 600, [(1, .d (vB more))], []⟩) (fun _ => True) ?_ ?_
  ·refine AC.seq (AC.region ?_)
   refine AL.p (by exact mv1 rfl) rfl ?_
   refine AL.nil (th_n ?_)
   refine AC.condB rfl (fun h1 => ?_) (fun h1 => ?_)
   ·refine AC.seq ?_
    have hM2t : M.2 = true := by assumption
    obtain ⟨hMe, hMm⟩ := hMl hM2t
    rw [hMe, hMm] at hM3
    rw [hMe]
    refine AC.region ?_
    refine AL.p (by exact g_load_ptrN rfl rfl rfl rfl rfl) rfl ?_
    refine AL.q (by exact h_pure en_iMirror rfl rfl (by repeat (first | exact rfl | exact DLead.same | refine ⟨_, _, rfl, ?_, ?_⟩ | refine ⟨_, rfl, ?_⟩)) hM3 rfl) rfl ?_
    refine AL.p (by exact mv5 rfl) rfl ?_
    refine AL.p (by exact g_extract (r := .agg _) rfl rfl) rfl ?_
    refine AL.p (by exact g_extract (r := .d _) rfl rfl) rfl ?_
    refine AL.q (by exact h_alloc rfl) rfl ?_
    refine AL.q (by exact h_store rfl rfl rfl rfl rfl rfl) rfl ?_
    refine AL.p (by exact as1 rfl) rfl ?_
    refine AL.nil (th_n (AC.seq (AC.region ?_)))
    refine AL.p (by exact mv1 rfl) rfl ?_
    refine AL.p (by exact g_not rfl) rfl ?_
    refine AL.p (by exact mv1 rfl) rfl ?_
    refine AL.yes rfl rfl rfl ?_
    refine AL.p (by exact g_load_ptrN rfl rfl rfl rfl rfl) rfl ?_
    refine AL.yes rfl rfl rfl ?_
    refine AL.p (by exact g_load_ptrN rfl rfl rfl rfl rfl) rfl ?_
    refine AL.yes rfl rfl rfl ?_
    refine AL.q (by exact h_pure en_pSameStg rfl rfl (by repeat (first | exact rfl | exact DLead.same | refine ⟨_, _, rfl, ?_, ?_⟩ | refine ⟨_, rfl, ?_⟩)) hP2 rfl) rfl ?_
    refine AL.yes rfl rfl rfl ?_
    refine AL.p (by exact g_not rfl) rfl ?_
    refine AL.p (by exact g_pickF (r := .d _) rfl rfl) rfl ?_
    refine AL.nil (th_n ?_)
    refine AC.condF rfl ?_
    refine AC.skip (th_n ?_)
    exact ⟨(), trivial, Weak.ren _ [] hC rfl (by repeat (first | exact True.intro | refine And.intro ?_ ?_ | exact DLead.same)) (by repeat (exact True.intro)) rfl rfl rfl⟩
   ·refine AC.skip (th_n ?_)
    exact ⟨(), trivial, Weak.ren _ [] hC rfl (by repeat (first | exact True.intro | refine And.intro ?_ ?_ | exact DLead.same)) (by repeat (exact True.intro)) rfl rfl rfl⟩
  ·intro _ _
   refine AC.seq (AC.region ?_)
   refine AL.p (by exact mv1 rfl) rfl ?_
   refine AL.q (by exact h_pure en_sDrawHide rfl rfl (by repeat (first | exact rfl | exact DLead.same | refine ⟨_, _, rfl, ?_, ?_⟩)) hD2 rfl) rfl ?_
   refine AL.p (by exact mv5 rfl) rfl ?_
   refine AL.p (by exact g_extract (r := .agg _) rfl rfl) rfl ?_
   refine AL.p (by exact g_extract (r := .d _) rfl rfl) rfl ?_
   refine AL.q (by exact h_alloc rfl) rfl ?_
   refine AL.q (by exact h_store rfl rfl rfl rfl rfl rfl) rfl ?_
   refine AL.p (by exact as1 rfl) rfl ?_
   refine AL.nil (th_n (AC.seq (AC.region ?_)))
   refine AL.p (by exact g_load_ptrN rfl rfl rfl rfl rfl) rfl ?_
   refine AL.p (by exact mv1 rfl) rfl ?_
   refine AL.q (by exact h_pure en_iHide rfl rfl (by repeat (first | exact rfl | exact DLead.same | refine ⟨_, _, rfl, ?_, ?_⟩ | refine ⟨_, rfl, ?_⟩)) hH1 rfl) rfl ?_
   refine AL.p (by exact mv5 rfl) rfl ?_
   refine AL.p (by exact g_extract (r := .agg _) rfl rfl) rfl ?_
   refine AL.p (by exact g_extract (r := .d _) rfl rfl) rfl ?_
   refine AL.q (by exact h_alloc rfl) rfl ?_
   refine AL.q (by exact h_store rfl rfl rfl rfl rfl rfl) rfl ?_
   refine AL.p (by exact as1 rfl) rfl ?_
   refine AL.nil (th_n (AC.seq (AC.region ?_)))
   refine AL.p (by exact g_load_ptrN rfl rfl rfl rfl rfl) rfl ?_
   refine AL.p (by exact mv1 rfl) rfl ?_
   refine AL.q (by exact h_pure en_sHide rfl rfl (by repeat (first | exact rfl | exact DLead.same | refine ⟨_, _, rfl, ?_, ?_⟩ | refine ⟨_, rfl, ?_⟩)) hH2 rfl) rfl ?_
   refine AL.p (by exact mv5 rfl) rfl ?_
   refine AL.p (by exact g_extract (r := .agg _) rfl rfl) rfl ?_
   refine AL.p (by exact g_extract (r := .d _) rfl rfl) rfl ?_
   refine AL.q (by exact h_alloc rfl) rfl ?_
   refine AL.q (by exact h_store rfl rfl rfl rfl rfl rfl) rfl ?_
   refine AL.p (by exact as1 rfl) rfl ?_
   refine AL.nil (th_n (AC.seq ?_))
   refine AC.weak (t := ⟨205, 900, [(1, .d (vB more)), (12, .ptr 200 0), (14, .ptr 201 0), (15, aT H.2), (16, .ptr 202 0), (17, aT H.2)], [(200, some (.cells 30 (stgC a))), (201, some (.cells 30 (stgC H.1))), (202, some (.cells 30 (stgC H.1)))]⟩) (Weak.ren _ [(200, _), (201, _), (202, _)] hC rfl (by repeat (first | exact True.intro | refine And.intro ?_ ?_ | exact DLead.same | exact rfl | refine ⟨_, rfl, ?_⟩)) (by repeat (first | exact True.intro | refine And.intro ?_ ?_ | exact DLead.same | exact rfl | refine ⟨_, _, rfl, rfl, ?_⟩ | refine ⟨_, rfl, ?_⟩ | refine ⟨_, _, rfl, ?_, ?_⟩)) rfl rfl rfl) ?_
   refine AC.region ?_
   refine AL.p (by exact mv1 rfl) rfl ?_
   refine AL.q (by exact h_pure en_sDrawUnionS rfl rfl (by repeat (first | exact rfl | exact DLead.same | refine ⟨_, _, rfl, ?_, ?_⟩)) hD3 rfl) rfl ?_
   refine AL.p (by exact mv5 rfl) rfl ?_
   refine AL.p (by exact g_extract (r := .agg _) rfl rfl) rfl ?_
   refine AL.p (by exact g_extract (r := .agg _) rfl rfl) rfl ?_
   refine AL.q (by exact h_alloc rfl) rfl ?_
   refine AL.q (by exact h_alloc rfl) rfl ?_
   refine AL.q (by exact h_store rfl rfl rfl rfl rfl rfl) rfl ?_
   refine AL.q (by exact h_store rfl rfl rfl rfl rfl rfl) rfl ?_
   refine AL.nil (th_n (AC.seq (AC.region ?_)))
   refine AL.p (by exact g_load_ptrN rfl rfl rfl rfl rfl) rfl ?_
   refine AL.p (by exact g_load_ptrN rfl rfl rfl rfl rfl) rfl ?_
   refine AL.q (by exact h_pure en_iUnionS rfl rfl (by repeat (first | exact rfl | exact DLead.same | refine ⟨_, _, rfl, ?_, ?_⟩ | refine ⟨_, rfl, ?_⟩)) hU1 rfl) rfl ?_
   refine AL.p (by exact mv5 rfl) rfl ?_
   refine AL.p (by exact g_extract (r := .agg _) rfl rfl) rfl ?_
   refine AL.p (by exact g_extract (r := .d _) rfl rfl) rfl ?_
   refine AL.q (by exact h_alloc rfl) rfl ?_
   refine AL.q (by exact h_store rfl rfl rfl rfl rfl rfl) rfl ?_
   refine AL.p (by exact as1 rfl) rfl ?_
   refine AL.nil (th_n (AC.seq (AC.region ?_)))
   refine AL.p (by exact g_load_ptrN rfl rfl rfl rfl rfl) rfl ?_
   refine AL.p (by exact g_load_ptrN rfl rfl rfl rfl rfl) rfl ?_
   refine AL.q (by exact h_pure en_sUnionSTGs rfl rfl (by repeat (first | exact rfl | exact DLead.same | refine ⟨_, _, rfl, ?_, ?_⟩ | refine ⟨_, rfl, ?_⟩)) hU2 rfl) rfl ?_
   refine AL.p (by exact mv5 rfl) rfl ?_
   refine AL.p (by exact g_extract (r := .agg _) rfl rfl) rfl ?_
   refine AL.p (by exact g_extract (r := .d _) rfl rfl) rfl ?_
   refine AL.q (by exact h_alloc rfl) rfl ?_
   refine AL.q (by exact h_store rfl rfl rfl rfl rfl rfl) rfl ?_
   refine AL.p (by exact as1 rfl) rfl ?_
   refine AL.nil (th_n (AC.seq (AC.seq ?_)))
   refine AC.weak (t := ⟨205, 1200, [(1, .d (vB more)), (12, .ptr 200 0), (14, .ptr 201 0), (15, aT H.2), (16, .ptr 202 0), (17, aT H.2), (20, .ptr 203 0), (21, aT U.2), (22, .ptr 204 0), (23, aT U.2)], [(200, some (.cells 30 (stgC a))), (201, some (.cells 30 (stgC H.1))), (202, some (.cells 30 (stgC H.1))), (203, some (.cells 30 (stgC U.1))), (204, some (.cells 30 (stgC U.1)))]⟩) (Weak.ren _ [(200, 200), (201, 201), (202, 202), (203, _), (204, _)] hC rfl (by repeat (first | exact True.intro | refine And.intro ?_ ?_ | exact DLead.same | exact rfl | refine ⟨_, rfl, ?_⟩)) (by repeat (first | exact True.intro | refine And.intro ?_ ?_ | exact DLead.same | exact rfl | refine ⟨_, _, rfl, rfl, ?_⟩ | refine ⟨_, rfl, ?_⟩ | refine ⟨_, _, rfl, ?_, ?_⟩)) rfl rfl rfl) ?_
   refine AC.region ?_
   refine AL.p (by exact mv1 rfl) rfl ?_
   refine AL.p (by exact mv1 rfl) rfl ?_
   refine AL.p (by exact g_neBr rfl rfl rfl) rfl ?_
   refine AL.p (by exact mv1 rfl) rfl ?_
   refine AL.yes rfl rfl rfl ?_
   refine AL.p (by exact g_load_ptrN rfl rfl rfl rfl rfl) rfl ?_
   refine AL.yes rfl rfl rfl ?_
   refine AL.p (by exact g_load_ptrN rfl rfl rfl rfl rfl) rfl ?_
   refine AL.yes rfl rfl rfl ?_
   refine AL.q (by exact h_pure en_pSameStg rfl rfl (by repeat (first | exact rfl | exact DLead.same | refine ⟨_, _, rfl, ?_, ?_⟩ | refine ⟨_, rfl, ?_⟩)) hP3 rfl) rfl ?_
   refine AL.yes rfl rfl rfl ?_
   refine AL.p (by exact g_not rfl) rfl ?_
   refine AL.p (by exact g_pickF (r := .d _) rfl rfl) rfl ?_
   refine AL.p (by exact mv1 rfl) rfl ?_
   refine AL.yes rfl rfl rfl ?_
   refine AL.p (by exact mv1 rfl) rfl ?_
   refine AL.yes rfl rfl rfl ?_
   refine AL.p (by exact mv1 rfl) rfl ?_
   refine AL.yes rfl rfl rfl ?_
   refine AL.p (by exact g_neBr rfl rfl rfl) rfl ?_
   refine AL.p (by exact g_pickF (r := .d _) rfl rfl) rfl ?_
   refine AL.p (by exact mv1 rfl) rfl ?_
   refine AL.yes rfl rfl rfl ?_
   refine AL.p (by exact g_load_ptrN rfl rfl rfl rfl rfl) rfl ?_
   refine AL.yes rfl rfl rfl ?_
   refine AL.p (by exact g_load_ptrN rfl rfl rfl rfl rfl) rfl ?_
   refine AL.yes rfl rfl rfl ?_
   refine AL.q (by exact h_pure en_pSameStg rfl rfl (by repeat (first | exact rfl | exact DLead.same | refine ⟨_, _, rfl, ?_, ?_⟩ | refine ⟨_, rfl, ?_⟩)) hP4 rfl) rfl ?_
   refine AL.yes rfl rfl rfl ?_
   refine AL.p (by exact g_not rfl) rfl ?_
   refine AL.p (by exact g_pickF (r := .d _) rfl rfl) rfl ?_
   refine AL.nil (th_n ?_)
   refine AC.condF rfl ?_
   refine AC.skip (th_n ?_)
   refine AC.cut (fun (_ : Unit) => ⟨205, 1800, [(1, .d (vB more))], []⟩) (fun _ => True) ?_ ?_
   ·refine AC.seq ?_
    refine AC.weak (t := ⟨205, 1500, [(1, .d (vB more)), (12, .ptr 200 0), (14, .ptr 201 0), (15, aT H.2)], [(200, some (.cells 30 (stgC a))), (201, some (.cells 30 (stgC H.1)))]⟩) (Weak.ren _ [(200, 200), (201, 201)] hC rfl (by repeat (first | exact True.intro | refine And.intro ?_ ?_ | exact DLead.same | exact rfl | refine ⟨_, rfl, ?_⟩)) (by repeat (first | exact True.intro | refine And.intro ?_ ?_ | exact DLead.same | exact rfl | refine ⟨_, _, rfl, rfl, ?_⟩ | refine ⟨_, rfl, ?_⟩ | refine ⟨_, _, rfl, ?_, ?_⟩)) rfl rfl rfl) ?_
    refine AC.region ?_
    refine AL.p (by exact mv1 rfl) rfl ?_
    refine AL.nil (th_n ?_)
    refine AC.condB rfl (fun h1 => ?_) (fun h1 => ?_)
    ·refine AC.seq ?_
     have hH2t : H.2 = true := by assumption
     have hHe := hHl hH2t
     rw [hHe] at hX2
     refine AC.region ?_
     refine AL.p (by exact g_load_ptrN rfl rfl rfl rfl rfl) rfl ?_
     refine AL.q (by exact h_pure en_iExplore rfl rfl (by repeat (first | exact rfl | exact DLead.same | refine ⟨_, _, rfl, ?_, ?_⟩ | refine ⟨_, rfl, ?_⟩)) hX1 rfl) rfl ?_
     refine AL.p (by exact mv5 rfl) rfl ?_
     refine AL.p (by exact g_extract (r := .agg _) rfl rfl) rfl ?_
     refine AL.p (by exact g_extract (r := .d _) rfl rfl) rfl ?_
     refine AL.q (by exact h_alloc rfl) rfl ?_
     refine AL.q (by exact h_store rfl rfl rfl rfl rfl rfl) rfl ?_
     refine AL.p (by exact as1 rfl) rfl ?_
     refine AL.nil (th_n (AC.seq (AC.region ?_)))
     refine AL.p (by exact g_load_ptrN rfl rfl rfl rfl rfl) rfl ?_
     refine AL.q (by exact h_pure en_iExplore rfl rfl (by repeat (first | exact rfl | exact DLead.same | refine ⟨_, _, rfl, ?_, ?_⟩ | refine ⟨_, rfl, ?_⟩)) hX2 rfl) rfl ?_
     refine AL.p (by exact mv5 rfl) rfl ?_
     refine AL.p (by exact g_extract (r := .agg _) rfl rfl) rfl ?_
     refine AL.p (by exact g_extract (r := .d _) rfl rfl) rfl ?_
     refine AL.q (by exact h_alloc rfl) rfl ?_
     refine AL.q (by exact h_store rfl rfl rfl rfl rfl rfl) rfl ?_
     refine AL.p (by exact as1 rfl) rfl ?_
     refine AL.nil (th_n (AC.seq ?_))
     refine AC.weak (t := ⟨205, 1600, [(1, .d (vB more)), (24, .ptr 203 0), (25, aT X.2), (26, .ptr 204 0), (27, aT X.2)], [(203, some (.cells 44 [.d (.view 9 1 (tsX X.1.marks)), .d (vMvs X.1.moves)])), (204, some (.cells 44 [.d (.view 9 1 (tsX X.1.marks)), .d (vMvs X.1.moves)]))]⟩) (Weak.ren _ [(203, _), (204, _)] hC rfl (by repeat (first | exact True.intro | refine And.intro ?_ ?_ | exact DLead.same | exact rfl | refine ⟨_, rfl, ?_⟩)) (by repeat (first | exact True.intro | refine And.intro ?_ ?_ | exact DLead.same | exact rfl | refine ⟨_, _, rfl, rfl, ?_⟩ | refine ⟨_, rfl, ?_⟩ | refine ⟨_, _, rfl, ?_, ?_⟩)) rfl rfl rfl) ?_
     refine AC.region ?_
     refine AL.p (by exact mv1 rfl) rfl ?_
     refine AL.p (by exact mv1 rfl) rfl ?_
     refine AL.p (by exact g_neBr rfl rfl rfl) rfl ?_
     refine AL.p (by exact mv1 rfl) rfl ?_
     refine AL.yes rfl rfl rfl ?_
     refine AL.p (by exact g_load_ptrN rfl rfl rfl rfl rfl) rfl ?_
     refine AL.yes rfl rfl rfl ?_
     refine AL.p (by exact g_load_ptrN rfl rfl rfl rfl rfl) rfl ?_
     refine AL.yes rfl rfl rfl ?_
     refine AL.q (by exact h_pure en_pSameReach rfl rfl (by repeat (first | exact rfl | exact DLead.same | refine ⟨_, _, rfl, ?_, ?_⟩ | refine ⟨_, rfl, ?_⟩)) hPR rfl) rfl ?_
     refine AL.yes rfl rfl rfl ?_
     refine AL.p (by exact g_not rfl) rfl ?_
     refine AL.p (by exact g_pickF (r := .d _) rfl rfl) rfl ?_
     refine AL.nil (th_n ?_)
     refine AC.condF rfl ?_
     refine AC.skip (th_n ?_)
     exact ⟨(), trivial, Weak.ren _ [] hC rfl (by repeat (first | exact True.intro | refine And.intro ?_ ?_ | exact DLead.same)) (by repeat (exact True.intro)) rfl rfl rfl⟩
    ·refine AC.skip (th_n ?_)
     exact ⟨(), trivial, Weak.ren _ [] hC rfl (by repeat (first | exact True.intro | refine And.intro ?_ ?_ | exact DLead.same)) (by repeat (exact True.intro)) rfl rfl rfl⟩
   ·intro _ _
    refine AC.seq (AC.region ?_)
    refine AL.p (by exact mv1 rfl) rfl ?_
    refine AL.q (by exact h_pure en_sDrawVisL rfl rfl (by repeat (first | exact rfl | exact DLead.same | refine ⟨_, _, rfl, ?_, ?_⟩)) hD4 rfl) rfl ?_
    refine AL.p (by exact mv5 rfl) rfl ?_
    refine AL.p (by exact g_extract (r := .agg _) rfl rfl) rfl ?_
    refine AL.p (by exact g_extract (r := .d _) rfl rfl) rfl ?_
    refine AL.q (by exact h_alloc rfl) rfl ?_
    refine AL.q (by exact h_store rfl rfl rfl rfl rfl rfl) rfl ?_
    refine AL.p (by exact as1 rfl) rfl ?_
    refine AL.nil (th_n (AC.seq (AC.region ?_)))
    refine AL.p (by exact g_load_ptrN rfl rfl rfl rfl rfl) rfl ?_
    refine AL.p (by exact mv1 rfl) rfl ?_
    refine AL.q (by exact h_pure en_iVisL rfl rfl (by repeat (first | exact rfl | exact DLead.same | refine ⟨_, _, rfl, ?_, ?_⟩ | refine ⟨_, rfl, ?_⟩)) hL1 rfl) rfl ?_
    refine AL.p (by exact mv5 rfl) rfl ?_
    refine AL.p (by exact g_extract (r := .d _) rfl rfl) rfl ?_
    refine AL.p (by exact g_extract (r := .d _) rfl rfl) rfl ?_
    refine AL.p (by exact as1 rfl) rfl ?_
    refine AL.p (by exact as1 rfl) rfl ?_
    refine AL.nil (th_n (AC.seq (AC.region ?_)))
    refine AL.p (by exact g_load_ptrN rfl rfl rfl rfl rfl) rfl ?_
    refine AL.p (by exact mv1 rfl) rfl ?_
    refine AL.q (by exact h_pure en_sVisL rfl rfl (by repeat (first | exact rfl | exact DLead.same | refine ⟨_, _, rfl, ?_, ?_⟩ | refine ⟨_, rfl, ?_⟩)) hL2 rfl) rfl ?_
    refine AL.p (by exact mv5 rfl) rfl ?_
    refine AL.p (by exact g_extract (r := .d _) rfl rfl) rfl ?_
    refine AL.p (by exact g_extract (r := .d _) rfl rfl) rfl ?_
    refine AL.p (by exact as1 rfl) rfl ?_
    refine AL.p (by exact as1 rfl) rfl ?_
    refine AL.nil (th_n (AC.seq (AC.region ?_)))
    refine AL.p (by exact mv1 rfl) rfl ?_
    refine AL.q (by exact h_pure en_sDrawEqS rfl rfl (by repeat (first | exact rfl | exact DLead.same | refine ⟨_, _, rfl, ?_, ?_⟩)) hD5 rfl) rfl ?_
    refine AL.p (by exact mv5 rfl) rfl ?_
    refine AL.p (by exact g_extract (r := .agg _) rfl rfl) rfl ?_
    refine AL.p (by exact g_extract (r := .agg _) rfl rfl) rfl ?_
    refine AL.q (by exact h_alloc rfl) rfl ?_
    refine AL.q (by exact h_alloc rfl) rfl ?_
    refine AL.q (by exact h_store rfl rfl rfl rfl rfl rfl) rfl ?_
    refine AL.q (by exact h_store rfl rfl rfl rfl rfl rfl) rfl ?_
    refine AL.nil (th_n (AC.seq (AC.seq ?_)))
    refine AC.weak (t := ⟨205, 2100, [(30, .d (vLabs V.1)), (31, aT V.2), (32, .d (vLabs V.1)), (33, aT V.2), (34, .ptr 200 0), (35, .ptr 201 0)], [(200, some (.cells 30 (stgC e))), (201, some (.cells 30 (stgC f)))]⟩) (Weak.ren _ [(200, _), (201, _)] hC rfl (by repeat (first | exact True.intro | refine And.intro ?_ ?_ | exact DLead.same | exact rfl | refine ⟨_, rfl, ?_⟩)) (by repeat (first | exact True.intro | refine And.intro ?_ ?_ | exact DLead.same | exact rfl | refine ⟨_, _, rfl, rfl, ?_⟩ | refine ⟨_, rfl, ?_⟩ | refine ⟨_, _, rfl, ?_, ?_⟩)) rfl rfl rfl) ?_
    refine AC.drawn' mixed_ok [[], [], [0,1], [0,1,2], [0,1,2,3], [0,1,2,3,4], [0,1,2,3], [0,1,2,3,6], [0,1,2,3,4,5,6,7], [0,1,2,3,4,5,6,7,8], [0,1,2,3,4,5,6,7,8,9], [0,1,2,3,4,5,6,7,8,9,10], [0,1,2,3,4,5,6,7,8,9,10], [0,1,2,3,4,5,6,7,8,9,10,11,12], [0,1,2,3,4,5,6,7,8,9,10], [0,1,2,3,4,5,6,7,8,9,10], [0,1,2,3,4,5,6,7,8,9,10,11,12,13,14,15], [0,1,2,3,4,5,6,7,8,9,10,11,12,13,14,15,16], [0,1,2,3,4,5,6,7,8,9,10,11,12,13,14,15,16,17]] (by decide) ?_
    refine DF.op 0 [] 19 rfl rfl rfl (.free rfl (NOp.of (by exact mv1 rfl))) rfl ?_
    refine DF.op 1 [] 19 rfl rfl rfl (.free rfl (NOp.of (by exact mv1 rfl))) rfl ?_
    refine DF.op 2 [0,1] 19 rfl rfl rfl (.free rfl (NOp.of (by exact g_neBr rfl rfl rfl))) rfl ?_
    refine DF.op 3 [0,1,2] 19 rfl rfl rfl (.free rfl (NOp.of (by exact mv1 rfl))) rfl ?_
    refine DF.op 4 [0,1,2,3] 19 rfl rfl rfl (.yes rfl rfl rfl rfl (NOp.of (by exact mv1 rfl))) rfl ?_
    refine DF.op 5 [0,1,2,3,4] 19 rfl rfl rfl (.yes rfl rfl rfl rfl (NOp.of (by exact g_len_view (k := V.1.length) rfl rfl (labsL_len _)))) rfl ?_
    refine DF.op 6 [0,1,2,3] 19 rfl rfl rfl (.yes rfl rfl rfl rfl (NOp.of (by exact mv1 rfl))) rfl ?_
    refine DF.op 7 [0,1,2,3,6] 19 rfl rfl rfl (.yes rfl rfl rfl rfl (NOp.of (by exact g_len_view (k := V.1.length) rfl rfl (labsL_len _)))) rfl ?_
    refine DF.op 8 [0,1,2,3,4,5,6,7] 19 rfl rfl rfl (.yes rfl rfl rfl rfl (NOp.of (by exact g_neIr rfl rfl rfl))) rfl ?_
    refine DF.op 9 (List.range 9) 19 rfl rfl rfl (.free rfl (NOp.of (by exact g_pickF (r := .d _) rfl rfl))) rfl ?_
    refine DF.op 10 (List.range 10) 19 rfl rfl rfl (.free rfl (NOp.of (by exact mv1 rfl))) rfl ?_
    refine DF.op 11 (List.range 11) 19 rfl rfl rfl (.yes rfl rfl rfl rfl (NOp.of (by exact g_load_ptrN rfl rfl rfl rfl rfl))) rfl ?_
    refine DF.op 12 (List.range 11) 19 rfl rfl rfl (.yes rfl rfl rfl rfl (NOp.of (by exact g_load_ptrN rfl rfl rfl rfl rfl))) rfl ?_
    refine DF.op 13 (List.range 13) 19 rfl rfl rfl (.yes rfl rfl rfl rfl (by exact h_pure en_iEqSTG rfl rfl (by repeat (first | exact rfl | exact DLead.same | refine ⟨_, _, rfl, ?_, ?_⟩ | refine ⟨_, rfl, ?_⟩)) hE1 rfl)) rfl ?_
    refine DF.op 14 (List.range 11) 19 rfl rfl rfl (.yes rfl rfl rfl rfl (NOp.of (by exact g_load_ptrN rfl rfl rfl rfl rfl))) rfl ?_
    refine DF.op 15 (List.range 11) 19 rfl rfl rfl (.yes rfl rfl rfl rfl (NOp.of (by exact g_load_ptrN rfl rfl rfl rfl rfl))) rfl ?_
    refine DF.op 16 (List.range 16) 19 rfl rfl rfl (.yes rfl rfl rfl rfl (by exact h_pure en_sEqSTG rfl rfl (by repeat (first | exact rfl | exact DLead.same | refine ⟨_, _, rfl, ?_, ?_⟩ | refine ⟨_, rfl, ?_⟩)) hE2 rfl)) rfl ?_
    refine DF.op 17 (List.range 17) 19 rfl rfl rfl (.yes rfl rfl rfl rfl (NOp.of (by exact g_neBr rfl rfl rfl))) rfl ?_
    refine DF.op 18 (List.range 18) 19 rfl rfl rfl (.free rfl (NOp.of (by exact g_pickF (r := .d _) rfl rfl))) rfl ?_
    refine DF.fin (ps := [(0,1),(1,0),(4,6),(4,7),(5,6),(5,7),(6,4),(6,5),(7,4),(7,5),(11,12),(11,14),(11,15),(12,11),(12,14),(12,15),(13,14),(13,15),(14,11),(14,12),(14,13),(14,15),(15,11),(15,12),(15,13),(15,14)]) 19 rfl (by decide +kernel) (by decide +kernel) (by rfl) ?_
    refine th_n ?_
    refine AC.condF rfl ?_
    refine AC.skip (th_n (AC.seq (AC.seq ?_)))
    refine AC.weak (t := ⟨205, 2400, [(30, .d (vLabs V.1)), (32, .d (vLabs V.1))], []⟩) (Weak.ren _ [] hC rfl (by repeat (first | exact True.intro | refine And.intro ?_ ?_ | exact DLead.same)) (by repeat (exact True.intro)) rfl rfl rfl) ?_
    refine AC.region ?_
    refine AL.p (by exact mv1 rfl) rfl ?_
    refine AL.p (by exact g_len_view (k := V.1.length) rfl rfl (labsL_len _)) rfl ?_
    refine AL.p (by exact mv1 rfl) rfl ?_
    refine AL.nil (th_n (AC.block ?_))
    refine AC.loop (ι := Nat) (fun k => ⟨205, 2500, [(30, .d (vLabs V.1)), (32, .d (vLabs V.1)), (191, aI V.1.length), (192, aI k)], []⟩) (fun k => k ≤ V.1.length) (fun k => V.1.length - k) (0) ?_ (Nat.zero_le _) ?_
    ·refine Weak.ren _ [] hC rfl ?_ ?_ rfl rfl rfl <;> repeat (first | exact True.intro | refine And.intro ?_ ?_ | exact DLead.same)
    ·intro k hk
     refine AC.seq (AC.region ?_)
     refine AL.p (by exact g_cmp rfl rfl rfl) rfl ?_
     refine AL.nil (th_n (AC.seq ?_))
     refine AC.condD rfl (fun h1 => ?_) (fun h1 => ?_)
     ·refine AC.skip (th_n (AC.seq (AC.block (AC.seq ?_))))
      have hk1 : k < V.1.length := by omega
      have hget := labsL_get hk1
      refine AC.region ?_
      refine AL.p (by exact mv1 rfl) rfl ?_
      refine AL.p (by exact as1 rfl) rfl ?_
      refine AL.nil (th_n (AC.seq ?_))
      refine AC.drawn' mixed_ok [[], [], [0,1], [0,1,2], [], [], [4,5], [4,5,6], [0,1,2,3,4,5,6,7]] (by decide) ?_
      refine DF.op 0 [] 9 rfl rfl rfl (.free rfl (NOp.of (by exact mv1 rfl))) rfl ?_
      refine DF.op 1 [] 9 rfl rfl rfl (.free rfl (NOp.of (by exact mv1 rfl))) rfl ?_
      refine DF.op 2 [0,1] 9 rfl rfl rfl (.free rfl (NOp.of (by exact g_ia_view rfl rfl rfl rfl rfl (by rfl) (by assumption)))) rfl ?_
      refine DF.op 3 [0,1,2] 9 rfl rfl rfl (.free rfl (NOp.of (by exact g_load_refN rfl rfl rfl rfl))) rfl ?_
      refine DF.op 4 [] 9 rfl rfl rfl (.free rfl (NOp.of (by exact mv1 rfl))) rfl ?_
      refine DF.op 5 [] 9 rfl rfl rfl (.free rfl (NOp.of (by exact mv1 rfl))) rfl ?_
      refine DF.op 6 [4,5] 9 rfl rfl rfl (.free rfl (NOp.of (by exact g_ia_view rfl rfl rfl rfl rfl (by rfl) (by assumption)))) rfl ?_
      refine DF.op 7 [4,5,6] 9 rfl rfl rfl (.free rfl (NOp.of (by exact g_load_refN rfl rfl rfl rfl))) rfl ?_
      refine DF.op 8 [0,1,2,3,4,5,6,7] 9 rfl rfl rfl (.free rfl (NOp.of (by exact g_eqIB (r := false) (by decide +kernel) rfl rfl (by simp [eqOf])))) rfl ?_
      refine DF.fin (ps := [(0,1),(0,4),(0,5),(0,6),(0,7),(1,0),(1,4),(1,5),(1,6),(1,7),(2,4),(2,5),(2,6),(2,7),(3,4),(3,5),(3,6),(3,7),(4,0),(4,1),(4,2),(4,3),(4,5),(5,0),(5,1),(5,2),(5,3),(5,4),(6,0),(6,1),(6,2),(6,3),(7,0),(7,1),(7,2),(7,3)]) 9 rfl (by decide +kernel) (by decide +kernel) (by rfl) ?_
      refine th_n ?_
      refine AC.condF rfl ?_
      refine AC.skip (ib_n (th_n (AC.region ?_)))
      refine AL.p (by exact g_arith rfl rfl rfl (by exact wrap_i64 (by omega))) rfl ?_
      refine AL.p (by exact mv1 rfl) rfl ?_
      refine AL.nil (th_n ?_)
      exact ⟨k + 1, by omega, by omega, Weak.ren _ [] hC rfl (by repeat (first | exact True.intro | refine And.intro ?_ ?_ | exact DLead.same)) (by repeat (exact True.intro)) rfl rfl rfl⟩
     ·refine AC.exit (th_e (th_e (ib_y (th_n (AC.seq (AC.region ?_))))))
      refine AL.p (by exact as1 rfl) rfl ?_
      refine AL.nil (th_n (AC.ret (bq_r ?_)))
      exact ret1 rfl rfl
theorem FnMirrored_spec (code more : List UInt8) (hc : code.length ≤ 9223372036854775807) (hm : more.length ≤ 9223372036854775807) : ASpec Try.prog 3 [.d (vB code), .d (vB more)] [] (Pure1 (aT true)) := by
 obtain ⟨s, hs, hD1⟩ := sDrawMirror_ex code
 obtain ⟨a, sg, ha, hD2⟩ := sDrawHide_ex more
 obtain ⟨b, c, hb, hcS, hD3⟩ := sDrawUnionS_ex more
 obtain ⟨d, l, hd, hl, hD4⟩ := sDrawVisL_ex more
 obtain ⟨e, f, he, hf, hD5⟩ := sDrawEqS_ex more
 exact FnMirrored_gen code more s a b c d e f sg l hc hm hs ha hb hcS hd hl he hf hD1 hD2 hD3 hD4 hD5
end Go.Proofs.Ytjejbpeedblclaa
