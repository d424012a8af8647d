/- Iterators over strings; a library function's contract as one of this framework. No program is named here. -/
import Derived.Test.YtochebmkfdfbhaaC5
import Derived.Laws.RangeString
set_option linter.all false
namespace Go.Proofs.Ytochebmkfdfbhaa
open Go.RowKit

theorem run_next_yes {P : Program} (w : World) (st : ByteArray) (pos b : Nat) (ty : TypeId) (hb : w.heap[b]? = some (.stringIter st pos)) (h : pos < st.size) (ha : (st[pos]'h).toNat < 128) :
    (Instr.next (.pointer (some ⟨b, 0, none⟩)) true ty).run P w = .ok (.tuple #[.bool true, .int .i64 pos, .int .i32 (st[pos]'h).toNat]) { w with heap := w.heap.setIfInBounds b (.stringIter st (pos + 1)) } := by
  simp only [Instr.next, getObj, setObj, Sem.run_bind, Sem.run, hb, Result.andThen, h, if_true, decode_ascii st pos h ha]
  simp [goInt, Sem.run, hb]
theorem run_next_no {P : Program} (w : World) (st : ByteArray) (pos b : Nat) (ty : TypeId) (hb : w.heap[b]? = some (.stringIter st pos)) (h : ¬ pos < st.size) :
    (Instr.next (.pointer (some ⟨b, 0, none⟩)) true ty).run P w = .ok (.tuple #[.bool false]) w := by
  simp [Instr.next, getObj, Sem.run, hb, h]
section
variable {P : Program} [PT P] {s : ASt} {dst : Option Nat} {ty : Nat} {pos : String} {af : Array Edge} {gd : Option (Nat × Bool)} {x : Operand} {f t : Nat}
theorem h_range {n bt : Nat} {zs : List ZK} {st : ByteArray} (ht : PT.ty P t = some ⟨.string, n, bt, zs⟩) (hx : s.ev x = aS st) : NOp P [] s ⟨dst, .range t x, ty, pos, af, gd⟩ f ⟨.ptr f 0, [(f, some (.iter st 0))]⟩ := by
  refine NOp.value fun s' ha C U U' a w m hR hU hU' hd => ?_
  have hv := hR.ev x
  rw [ha.2.1 x (by simp [Op.operands]), hx] at hv
  obtain ⟨i, d, z, _, hdd, hk, _⟩ := PT.facts ht
  have hu : P.underlying t = some .string := by rw [hdd]; cases d <;> simp [tkOf] at hk; rfl
  have hrun := run_range_string (P := P) w t st hu
  refine ⟨.pointer (some ⟨w.heap.size, 0, none⟩), w.alloc (.stringIter st 0), _, ?_, hR.new (cap := 0) hd _ (by simpa using hU 0 (by omega)) (fun j hj => by have := hU' j hj; exact ⟨this.1, by omega⟩) (fun F' hF => ⟨.ptr (newM_self _ _ _), .iter (heap_alloc_new w _)⟩)⟩
  simp only [execOp, hv.val_eq.1]
  rw [Sem.run_bind, hrun]
  rfl
theorem fr_iter (w : World) (b : Nat) (o : Obj) : Fr [b] w { w with heap := w.heap.setIfInBounds b o } :=
  ⟨rfl, rfl, rfl, by simp, fun k hk hn => by
    show (w.heap.setIfInBounds b o)[k]? = _
    rw [Array.getElem?_setIfInBounds_ne (by simpa [eq_comm] using hn)]⟩
theorem h_next_yes {id k : Nat} {st : ByteArray} {bv : UInt8} (hx : s.ev x = .ptr id 0) (hc : s.chunk id = some (.iter st k)) (hb : st.data.toList[k]? = some bv) (hasc : bv.toNat < 128) (hk : k ≤ 9223372036854775807) :
    NOp P [id] s ⟨dst, .next x true, ty, pos, af, gd⟩ f ⟨.tup [aT true, aI k, .d (.val (.int .i32 (bv.toNat : Int)))], [(id, some (.iter st (k + 1)))]⟩ := by
  refine ⟨fun s' ha C U U' a w m hR hU hU' hd K Q hK => ?_⟩
  have hxr := hR.ev x
  rw [ha.2.1 x (by simp [Op.operands]), hx] at hxr
  have hc' : s'.chunk id = some (.iter st k) := by rw [ha.2.2 id (by simp)]; exact hc
  have hlt : k < st.size := by have := (List.getElem?_eq_some_iff.1 hb).1; simpa using this
  have hbv : st[k]'hlt = bv := by
    have := (List.getElem?_eq_some_iff.1 hb).2
    show st.data[k] = bv
    simpa using this
  generalize hxv : a.eval x = xv at hxr
  cases hxr with
  | ptr hp =>
    rename_i b cap
    have hC := hR.chunkAt hc' hp
    cases hC with
    | iter hbl =>
      have hrun := run_next_yes (P := P) w st k b ty hbl hlt (by rw [hbv]; exact hasc)
      rw [hbv] at hrun
      have hR' := hR.turned (i := dst) (r := .tup [aT true, aI k, .d (.val (.int .i32 (bv.toNat : Int)))]) (v := .tuple #[.bool true, .int .i64 k, .int .i32 bv.toNat]) (w' := { w with heap := w.heap.setIfInBounds b (.stringIter st (k + 1)) }) (c' := .iter st (k + 1)) hd hc' hp (fr_iter w b _) (fun F' hF => ⟨?_, .iter (by show (w.heap.setIfInBounds b _)[b]? = _; rw [Array.getElem?_setIfInBounds_self_of_lt (Array.getElem?_eq_some_iff.1 hbl).1])⟩)
      · unfold Oper.wp
        simp only [execOp, Sem.run_bind, hxv, hrun, Result.andThen_ok, Sem.run_pure, Oper.upon]
        exact hK _ _ m (hR'.weaken rfl (fun _ => .inr rfl) (fun _ _ h => h) (fun j hj => (hU' j hj).1))
      · refine .tup rfl fun i c hi => ?_
        match i with
        | 0 => cases hi; exact .d (.val trivial)
        | 1 => cases hi; exact .d (.val (by show IntKind.i64.wrap _ = _; rw [wrap_ok]; exact ⟨by show (-9223372036854775808 : Int) ≤ _; omega, by show _ ≤ (9223372036854775807 : Int); omega⟩))
        | 2 => cases hi; exact .d (.val (by show IntKind.i32.wrap _ = _; rw [wrap_ok]; exact ⟨by show (-2147483648 : Int) ≤ _; omega, by show _ ≤ (2147483647 : Int); omega⟩))
        | i + 3 => simp at hi
theorem g_next_no {id k : Nat} {st : ByteArray} (hx : s.ev x = .ptr id 0) (hc : s.chunk id = some (.iter st k)) (hk : st.size ≤ k) : GOp P [id] s ⟨dst, .next x true, ty, pos, af, gd⟩ (.tup [aT false]) := by
  refine ⟨fun s' ha C U a w m hR => ?_⟩
  have hxr := hR.ev x
  rw [ha.2.1 x (by simp [Op.operands]), hx] at hxr
  have hc' : s'.chunk id = some (.iter st k) := by rw [ha.2.2 id (by simp)]; exact hc
  generalize hxv : a.eval x = xv at hxr
  cases hxr with
  | ptr hp =>
    rename_i b cap
    have hC := hR.chunkAt hc' hp
    cases hC with
    | iter hbl =>
      have hrun := run_next_no (P := P) w st k b ty hbl (by omega)
      refine ⟨.tuple #[.bool false], ?_, .tup rfl fun i c hi => ?_⟩
      · simp only [execOp, hxv, Sem.run_bind, hrun]; rfl
      · match i with
        | 0 => cases hi; exact .d (.val trivial)
        | i + 1 => simp at hi
end
/-- A library function's contract on values of one cell, as a contract of this framework. -/
theorem ASpec.ofLib2 {P : Program} {g : FuncId} {x y : ByteArray} {b : Bool} (h : ∀ w, Calls P g #[.string x, .string y] w fun e w' => e = .returned (.bool b) ∧ w' = w) : ASpec P g [aS x, aS y] [] (Pure1 (aT b)) := by
  intro w m Fin vs hfin hn ha hch hinj hm
  have h0 := ha 0 _ rfl
  have h1 := ha 1 _ rfl
  have hv : vs = #[.string x, .string y] := by
    apply Array.ext
    · rw [hn]; rfl
    · intro i hi1 hi2
      match i with
      | 0 => have := h0.val_eq.1; rw [Array.getD_eq_getD_getElem?, Array.getElem?_eq_getElem hi1] at this; simpa using this
      | 1 => have := h1.val_eq.1; rw [Array.getD_eq_getD_getElem?, Array.getElem?_eq_getElem hi1] at this; simpa using this
      | i + 2 => simp at hi2; omega
  subst hv
  refine (h w).mono ?_
  rintro e w' ⟨rfl, rfl⟩
  refine ⟨_, _, [], m, Fin, rfl, ⟨rfl, rfl⟩, fun _ _ _ h => h, fun id hid => hm id (by simp only [List.length_nil] at hid ⊢; omega), fun k => ?_, ⟨rfl, rfl, rfl, Nat.le_refl _, fun _ _ _ => rfl⟩, .d (.val trivial), fun id c hc => by simp [getL] at hc, fun id id' c c' p p' b hc => by simp [getL] at hc⟩
  constructor
  · intro hk
    exact ⟨.inl hk, (hfin k hk).1, fun id c p hc => by simp [getL] at hc⟩
  · rintro ⟨h | ⟨id, c, p, hc, _⟩ | h, hlt, _⟩
    · exact h
    · simp [getL] at hc
    · omega
end Go.Proofs.Ytochebmkfdfbhaa
