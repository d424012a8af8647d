/- Contracts of the functions of the program and of the reference, each proved by a walk through its code. -/
import Derived.WalkKit
import Derived.WalkSpells
import Derived.WalkLawsBesides
import Derived.Deep.Draws
import Derived.Lib.Hide
import Derived.Maps.AppendAt
import Derived.OwnWalk
import Derived.Deep.MidRow
import Derived.Laws.ResultCell
import Derived.Deep.Upon
import Derived.Great.FillDense
import Derived.Laws.Tables
import Derived.Laws.BytesArg
import Derived.Laws.MakeOwn
import Derived.Great.BuildSlice
import Derived.ArgAppend
import Derived.Deep.AppendSrc
import Derived.Test.YtgikfbfagdhopaaGreatDoorProg
import Derived.KernelRfl
import Derived.Orders
import Derived.Laws.IdiomStrings
import Derived.Lib.AppendZerosOnto
import Derived.ProofKit
import Derived.OpenShut
import Derived.Laws.StructEq
import Derived.ChangeKeysEq
import Derived.Sort.Grow
import Derived.Shelf.Strings.Builder1
import Derived.Shelf.Strings.Builder2
import Derived.Shelf.Strings.OnBuilder
import Derived.Shelf.Small.Bits
import Derived.Shelf.Strconv.Itoa0
import Derived.Shelf.Strconv.Itoa1
import Derived.Shelf.LaysM
import Derived.Shelf.Strconv.Itoa2
import Derived.Shelf.Strconv.Itoa3
import Derived.Shelf.Sort.Plain
import Derived.Ground.Names2Prog
import Derived.Shelf.Slices.SearchI
import Derived.Shelf.Slices.In.SortNone
import Derived.Test.YtgikfbfagdhopaaGreatDoorRows
import Derived.Test.YtgikfbfagdhopaaGreatDoorChecked
import Derived.Below
import Derived.Lib.LaidTab
import Derived.Test.YtgikfbfagdhopaaGreatDoorGFe5
set_option linter.all false
set_option maxRecDepth 20000
namespace Go.Proofs.YtgikfbfagdhopaaGreatDoor
open Go.RowKit

theorem own_le {α : Type} (l : List α) (f : α → List DV) : l.length ≤ (l.map f).length := Nat.le_of_eq (List.length_map _).symm
theorem own_take {α : Type} (l : List α) (f : α → List DV) : (l.map f).take l.length = l.map f := List.take_of_length_le (Nat.le_of_eq (List.length_map _))
theorem br_lent {s : ASt} {N : Net} {u : Unf} {L A : List ES} (ids : List Nat) (i0 i1 i2 i3 i4 : Nat) {xs ys : List AV} (hi0 : ids.contains i0 = true) (hi1 : ids.contains i1 = true) (hi2 : ids.contains i2 = true) (hi3 : ids.contains i3 = true) (hi4 : ids.contains i4 = true) (h0 : s.chunk i0 = some (brC N i1 u.cs.length i2 u.es.length i3 L.length i4 A.length)) (h1 : s.chunk i1 = some (.arr 71 2 (condsL u.cs))) (h2 : s.chunk i2 = some (.arr 67 2 (evsL u.es))) (h3 : s.chunk i3 = some (.arr 118 1 (esL L))) (h4 : s.chunk i4 = some (.arr 118 1 (esL A))) (hr : BAs ids s xs ys) : BAs ids s (.d (.ref (brD N u L A)) :: xs) (.ptr i0 0 :: ys) :=
  .cons (.ptr hi0 h0 (.cons .d (.cons .d (.cons (.own hi1 h1 (own_le _ _) (own_take _ _)) (.cons (.own hi2 h2 (own_le _ _) (own_take _ _)) (.cons (.own hi3 h3 (own_le _ _) (own_take _ _)) (.cons (.own hi4 h4 (own_le _ _) (own_take _ _)) .nil))))))) hr
def agK (u : Unf) (h : Ev) : Nat → ES
  | 0 => 0
  | k + 1 => if shareI (evAt u (k : Int)) h.pre = true then agK u h k ||| bitU k else agK u h k
def agA (u : Unf) (h : Ev) (A : List ES) : Nat → List ES
  | 0 => A
  | k + 1 => if shareI (evAt u (k : Int)) h.pre = true then (agA u h A k).set k (A.getD k 0 ||| bitU u.es.length) else agA u h A k
theorem agA_len (u : Unf) (h : Ev) (A : List ES) : ∀ k, (agA u h A k).length = A.length
  | 0 => rfl
  | k + 1 => by rw [agA]; split; rw [List.length_set, agA_len u h A k]; exact agA_len u h A k
theorem agA_get (u : Unf) (h : Ev) (A : List ES) : ∀ k i, k ≤ i → (agA u h A k)[i]? = A[i]?
  | 0, i, _ => rfl
  | k + 1, i, hi => by
    rw [agA]
    split
    · rw [List.getElem?_set_ne (by omega)]; exact agA_get u h A k i (by omega)
    · exact agA_get u h A k i (by omega)
def addL (u : Unf) (L : List ES) (h : Ev) : List ES := L ++ [allB u L h.pre ||| bitU u.es.length]
def addA (u : Unf) (A : List ES) (h : Ev) : List ES := agA u h A u.es.length ++ [agK u h u.es.length]
theorem vES_getI {l : List ES} {k : Nat} {x : ES} (h : l[k]? = some x) : (esL l)[k]? = some [dU x] := by rw [List.getElem?_map, h]; rfl
theorem esL_set (l : List ES) (i : Nat) (b : ES) : (esL l).set i [dU b] = esL (l.set i b) := by simp [esL, List.map_set]
theorem h_appendS (acc new : List ES) {s : ASt} {dst : Option Nat} {ty : Nat} {pos : String} {af : Array Edge} {gd : Option (Nat × Bool)} {x y : Operand} {f : Nat} {ids ids2 : List Nat} {gone : List (Nat × Option Chunk)}
    (hto : AppTo s x 118 1 (esL acc) ids gone) (harg : AppArg s y 1 (esL new) ids2) (h : (acc ++ new).length ≤ 100000000) (hnew : gone = [] → 0 < new.length) :
    NOp Tryz.prog (ids ++ ids2) s ⟨dst, .call { callee := .builtin .append, args := #[x, y], argTypes := #[100, 100] }, ty, pos, af, gd⟩ f ⟨.own f (acc ++ new).length, (f, some (.arr 118 1 (esL (acc ++ new)))) :: gone⟩ := by
  have := h_append (P := Tryz.prog) (s := s) (dst := dst) (ty := ty) (pos := pos) (af := af) (gd := gd) (x := x) (y := y) (f := f) (t := 100) (tx := 100) (k := (acc ++ new).length) rfl rfl rfl rfl rfl rfl hto harg (by simp) (by omega) (by show (acc ++ new).length * 8 ≤ _; omega) (fun h => by rw [esL_len]; exact hnew h)
  rwa [← List.map_append] at this
theorem bne_t {b : Bool} (h : b = false) : ¬ b = true := by rw [h]; exact Bool.false_ne_true
set_option maxRecDepth 20000 in
set_option maxHeartbeats 8000000 in
theorem brAdd_spec (N : Net) (u : Unf) (L A : List ES) (h : Ev) (hB : NetB N) (hW : WB u L A) (he : u.es.length < 64) (hh : h.pre.length ≤ 1000000) (hr : inR N h.t = true) (hin : ∀ c, c ∈ h.pre → 0 ≤ c ∧ c < u.cs.length) : ASpec Tryz.prog 57 [.ptr 0 0, evA h] (brChs N u L A) (Fun1 (.tup []) [(0, brC N 5 (withI N u h).cs.length 6 (withI N u h).es.length 7 (addL u L h).length 8 (addA u A h).length), (5, .arr 71 2 (condsL (withI N u h).cs)), (6, .arr 67 2 (evsL (withI N u h).es)), (7, .arr 118 1 (esL (addL u L h))), (8, .arr 118 1 (esL (addA u A h)))]) := by
  have hcl := hW.w.c
  have hll := hW.l
  have hal := hW.a
  obtain ⟨i, hi, hin2⟩ := inR_nat hr
  have hgetT := tsL_get hin2
  have hpl := (hB.t _ (List.getElem_mem hin2)).2
  have hwi : withI N u h = ⟨withC u N.ts[i].post, u.es ++ [h]⟩ := by unfold withI; rw [hi, tAt_nat hin2]
  refine ASpec.of Tryz.func57 rfl rfl fun C hC => ?_
  refine AC.seq ?_
  refine AC.region ?_
  refine AL.q (by exact h_boxF rfl rfl) rfl ?_
  refine AL.nil ?_
  refine th_n ?_
  refine AC.seq ?_
  refine AC.region ?_
  refine AL.p (by exact mv3 rfl) rfl ?_
  refine AL.p (by exact g_nilP rfl) rfl ?_
  refine AL.p (by exact g_fa_ptr rfl rfl rfl rfl rfl) rfl ?_
  refine AL.p (by exact g_fa_ptr rfl rfl rfl rfl rfl) rfl ?_
  refine AL.p (by exact g_load_ptr rfl rfl rfl rfl rfl) rfl ?_
  refine AL.p (by exact g_len_own (sz := 1) (els := []) (e' := 0) rfl rfl (by simp only [maxLen]; omega)) rfl ?_
  refine AL.p (by exact as1 rfl) rfl ?_
  refine AL.p (by exact as1 rfl) rfl ?_
  refine AL.p (by exact as1 rfl) rfl ?_
  refine AL.nil ?_
  refine th_n ?_
  refine AC.seq ?_
  refine AC.seq ?_
  refine AC.region ?_
  refine AL.p (by exact g_fa_ref rfl rfl rfl rfl rfl rfl) rfl ?_
  refine AL.p (by exact g_load_ref rfl rfl rfl) rfl ?_
  refine AL.p (by exact g_len_view rfl rfl (by exact List.length_map _)) rfl ?_
  refine AL.p (by exact mv1 rfl) rfl ?_
  refine AL.nil ?_
  refine th_n ?_
  refine AC.block ?_
  refine AC.loop (ι := Nat) (fun k => ⟨135, 136, [(0, .ptr 0 0), (3, .d (.ref (evD h))), (4, aI u.es.length), (5, aU (allB u L (h.pre.take k))), (6, aU 0), (20, .d (vI h.pre)), (21, aI h.pre.length), (22, aI k)], chL (brChs N u L A)⟩) (fun k => k ≤ h.pre.length) (fun k => h.pre.length - k) (0) ?_ (Nat.zero_le _) ?_
  · exact Weak.ren _ [] hC rfl (by repeat (first | exact True.intro | refine And.intro ?_ ?_ | exact DLead.same | exact rfl | refine ⟨_, rfl, ?_⟩)) (by repeat (first | exact True.intro | refine And.intro ?_ ?_ | exact DLead.same | exact rfl | refine ⟨_, _, rfl, rfl, ?_⟩ | refine ⟨_, rfl, ?_⟩ | refine ⟨_, _, rfl, ?_, ?_⟩)) rfl rfl rfl
  · intro k hk
    refine AC.seq ?_
    refine AC.region ?_
    refine AL.p (by exact g_cmp rfl rfl rfl) rfl ?_
    refine AL.nil ?_
    refine th_n ?_
    refine AC.seq ?_
    refine AC.condD rfl (fun h0 => ?_) (fun h0 => ?_)
    · refine AC.skip ?_
      refine th_n ?_
      refine AC.seq ?_
      refine AC.block ?_
      refine AC.seq ?_
      have hk1 : k < h.pre.length := by omega
      have hget := ints_at hk1
      have hinc := hin _ (List.getElem_mem hk1)
      have hP := brProducer_spec N u L A h.pre[k] hW hinc.1 hinc.2
      have hat := allB_take (u := u) (L := L) hk1
      refine AC.region ?_
      refine AL.p (by exact g_ia_view rfl rfl rfl rfl rfl (by rfl) (by assumption)) rfl ?_
      refine AL.p (by exact g_load_ref rfl rfl rfl) rfl ?_
      refine AL.p (by exact as1 rfl) rfl ?_
      refine AL.nil ?_
      refine th_n ?_
      refine AC.region ?_
      refine AL.p (by exact mv1 rfl) rfl ?_
      refine AL.p (by exact mv3 rfl) rfl ?_
      refine AL.p (by exact mv1 rfl) rfl ?_
      refine AL.q (by exact h_borrow [0, 1, 2, 3, 4] en_brProducer rfl rfl hP (br_lent [0, 1, 2, 3, 4] 0 1 2 3 4 rfl rfl rfl rfl rfl rfl rfl rfl rfl rfl (.cons (.of .d) .nil)) rfl) rfl ?_
      refine AL.p (by exact g_or64 rfl rfl) rfl ?_
      refine AL.p (by exact as1 rfl) rfl ?_
      refine AL.nil ?_
      refine ib_n ?_
      refine th_n ?_
      refine AC.region ?_
      refine AL.p (by exact g_arith rfl rfl rfl (by exact wrap_i64 (by omega))) rfl ?_
      refine AL.p (by exact mv1 rfl) rfl ?_
      refine AL.nil ?_
      refine th_n ?_
      exact ⟨k + 1, by omega, by omega, Weak.ren _ [] hC rfl (by rw [hat]; repeat (first | exact True.intro | refine And.intro ?_ ?_ | exact DLead.same | exact rfl | refine ⟨_, rfl, ?_⟩)) (by repeat (first | exact True.intro | refine And.intro ?_ ?_ | exact DLead.same | exact rfl | refine ⟨_, _, rfl, rfl, ?_⟩ | refine ⟨_, rfl, ?_⟩ | refine ⟨_, _, rfl, ?_, ?_⟩)) rfl rfl rfl⟩
    · refine AC.exit ?_
      refine th_e ?_
      refine th_e ?_
      refine ib_y ?_
      refine th_n ?_
      refine AC.seq ?_
      refine AC.seq ?_
      have hkk : k = h.pre.length := by omega
      subst hkk
      rw [List.take_length]
      refine AC.region ?_
      refine AL.p (by exact mv3 rfl) rfl ?_
      refine AL.p (by exact g_nilP rfl) rfl ?_
      refine AL.p (by exact g_fa_ptr rfl rfl rfl rfl rfl) rfl ?_
      refine AL.p (by exact g_fa_ptr rfl rfl rfl rfl rfl) rfl ?_
      refine AL.p (by exact g_load_ptr rfl rfl rfl rfl rfl) rfl ?_
      refine AL.p (by exact g_len_own (sz := 1) (els := []) (e' := 0) rfl rfl (by simp only [maxLen]; omega)) rfl ?_
      refine AL.p (by exact mv1 rfl) rfl ?_
      refine AL.nil ?_
      refine th_n ?_
      refine AC.block ?_
      refine AC.loop (ι := Nat) (fun k => ⟨135, 136, [(0, .ptr 0 0), (3, .d (.ref (evD h))), (4, aI u.es.length), (5, aU (allB u L h.pre)), (6, aU (agK u h k)), (36, .own 2 u.es.length), (37, aI u.es.length), (38, aI k)], chL [(0, brC N 1 u.cs.length 2 u.es.length 3 L.length 4 A.length), (1, .arr 71 2 (condsL u.cs)), (2, .arr 67 2 (evsL u.es)), (3, .arr 118 1 (esL L)), (4, .arr 118 1 (esL (agA u h A k)))]⟩) (fun k => k ≤ u.es.length) (fun k => u.es.length - k) (0) ?_ (Nat.zero_le _) ?_
      · exact Weak.ren _ [] hC rfl (by repeat (first | exact True.intro | refine And.intro ?_ ?_ | exact DLead.same | exact rfl | refine ⟨_, rfl, ?_⟩)) (by repeat (first | exact True.intro | refine And.intro ?_ ?_ | exact DLead.same | exact rfl | refine ⟨_, _, rfl, rfl, ?_⟩ | refine ⟨_, rfl, ?_⟩ | refine ⟨_, _, rfl, ?_, ?_⟩)) rfl rfl rfl
      · intro k hk
        refine AC.seq ?_
        refine AC.region ?_
        refine AL.p (by exact g_cmp rfl rfl rfl) rfl ?_
        refine AL.nil ?_
        refine th_n ?_
        refine AC.seq ?_
        refine AC.condD rfl (fun h1 => ?_) (fun h1 => ?_)
        · refine AC.skip ?_
          refine th_n ?_
          refine AC.seq ?_
          refine AC.block ?_
          refine AC.seq ?_
          have hk1 : k < u.es.length := by omega
          have hgete := evsL_get hk1
          have hel := hW.w.l _ (List.getElem_mem hk1)
          have hev : evAt u (k : Int) = u.es[k].pre := evAt_nat hk1
          have hSh := share_spec u.es[k].pre h.pre hel hh
          have hka : k < A.length := by omega
          have hgA : (agA u h A k)[k]? = some A[k] := by rw [agA_get u h A k k (Nat.le_refl _), List.getElem?_eq_getElem hka]
          have hgetA := vES_getI hgA
          have hAd : A.getD k 0 = A[k] := by rw [List.getD_eq_getElem?_getD, List.getElem?_eq_getElem hka]; rfl
          have hKs : agK u h (k + 1) = if shareI u.es[k].pre h.pre = true then agK u h k ||| bitU k else agK u h k := by rw [agK, hev]
          have hAs : agA u h A (k + 1) = if shareI u.es[k].pre h.pre = true then (agA u h A k).set k (A[k] ||| bitU u.es.length) else agA u h A k := by rw [agA, hev, hAd]
          obtain ⟨sh, hsh⟩ : ∃ b, b = shareI u.es[k].pre h.pre := ⟨_, rfl⟩
          rw [← hsh] at hSh hKs hAs
          refine AC.region ?_
          refine AL.p (by exact mv1 rfl) rfl ?_
          refine AL.p (by exact g_ia_own rfl rfl rfl rfl rfl (by rfl) (by omega) (by rfl)) rfl ?_
          refine AL.p (by exact g_load_arrN rfl rfl rfl rfl rfl rfl hgete) rfl ?_
          refine AL.q (by exact h_alloc rfl) rfl ?_
          refine AL.p (by exact as1 rfl) rfl ?_
          refine AL.q (by exact h_store rfl rfl rfl rfl rfl rfl) rfl ?_
          refine AL.nil ?_
          refine th_n ?_
          refine AC.seq ?_
          refine AC.region ?_
          refine AL.p (by exact g_fa_ptr rfl rfl rfl rfl rfl) rfl ?_
          refine AL.p (by exact g_load_ptr rfl rfl rfl rfl rfl) rfl ?_
          refine AL.p (by exact g_fa_ref rfl rfl rfl rfl rfl rfl) rfl ?_
          refine AL.p (by exact g_load_ref rfl rfl rfl) rfl ?_
          refine AL.q (by exact h_pure en_share rfl rfl (by repeat (first | exact rfl | exact DLead.same | refine ⟨_, _, rfl, ?_, ?_⟩)) hSh rfl) rfl ?_
          refine AL.nil ?_
          refine th_n ?_
          refine AC.condB rfl (fun h2 => ?_) (fun h2 => ?_)
          · refine AC.seq ?_
            refine AC.region ?_
            refine AL.p (by exact mv1 rfl) rfl ?_
            refine AL.p (by exact mv1 rfl) rfl ?_
            refine AL.p (by exact g_shl64 rfl rfl (by omega)) rfl ?_
            refine AL.p (by exact g_or64 rfl rfl) rfl ?_
            refine AL.p (by exact as1 rfl) rfl ?_
            refine AL.nil ?_
            refine th_n ?_
            refine AC.drawn' mixed_ok [[], [0], [0,1], [0,1,2], [], [0,1,2,3,4], [0,1,2,3,4,5], [], [7], [0,1,2,3,4,5,6,7,8], [0,1,2,3,4,5,6,7,8,9], [0,1,2,3,4,5,6,7,8,9,10]] (by decide) ?_
            refine DF.op 0 [] 12 rfl rfl rfl (.free rfl (NOp.of (by exact mv3 rfl))) rfl ?_
            refine DF.op 1 [0] 12 rfl rfl rfl (.free rfl (NOp.of (by exact g_nilP rfl))) rfl ?_
            refine DF.op 2 [0,1] 12 rfl rfl rfl (.free rfl (NOp.of (by exact g_fa_ptr rfl rfl rfl rfl rfl))) rfl ?_
            refine DF.op 3 [0,1,2] 12 rfl rfl rfl (.free rfl (NOp.of (by exact g_load_ptr rfl rfl rfl rfl rfl))) rfl ?_
            refine DF.op 4 [] 12 rfl rfl rfl (.free rfl (NOp.of (by exact mv1 rfl))) rfl ?_
            refine DF.op 5 [0,1,2,3,4] 12 rfl rfl rfl (.free rfl (NOp.of (by exact g_ia_own rfl rfl rfl rfl rfl (by rfl) (by omega) (by exact Nat.mul_one _)))) rfl ?_
            refine DF.op 6 [0,1,2,3,4,5] 12 rfl rfl rfl (.free rfl (NOp.of (by exact g_load_arr1 rfl rfl rfl rfl (by assumption)))) rfl ?_
            refine DF.op 7 [] 12 rfl rfl rfl (.free rfl (NOp.of (by exact mv1 rfl))) rfl ?_
            refine DF.op 8 [7] 12 rfl rfl rfl (.free rfl (NOp.of (by exact g_shl64 rfl rfl he))) rfl ?_
            refine DF.op 9 [0,1,2,3,4,5,6,7,8] 12 rfl rfl rfl (.free rfl (NOp.of (by exact g_or64 rfl rfl))) rfl ?_
            refine DF.op 10 [0,1,2,3,4,5,6,7,8,9] 12 rfl rfl rfl (.free rfl (NOp.of (by exact g_ia_own rfl rfl rfl rfl rfl (by rfl) (by omega) (by exact Nat.mul_one _)))) rfl ?_
            refine DF.op 11 [0,1,2,3,4,5,6,7,8,9,10] 12 rfl rfl rfl (.free rfl (by exact h_store_arr1 rfl rfl rfl rfl (by exact .same) (by assumption))) rfl ?_
            refine DF.fin (ps := [(0, 4), (0, 7), (0, 8), (1, 4), (1, 7), (1, 8), (2, 4), (2, 7), (2, 8), (3, 4), (3, 7), (3, 8), (4, 0), (4, 1), (4, 2), (4, 3), (4, 7), (4, 8), (5, 7), (5, 8), (6, 7), (6, 8), (7, 0), (7, 1), (7, 2), (7, 3), (7, 4), (7, 5), (7, 6), (8, 0), (8, 1), (8, 2), (8, 3), (8, 4), (8, 5), (8, 6)]) 12 rfl (by decide +kernel) (by decide +kernel) (by rfl) ?_
            refine ib_n ?_
            refine th_n ?_
            refine AC.region ?_
            refine AL.p (by exact g_arith rfl rfl rfl (by exact wrap_i64 (by omega))) rfl ?_
            refine AL.p (by exact mv1 rfl) rfl ?_
            refine AL.nil ?_
            refine th_n ?_
            (have e1 := hKs.trans (if_pos h2); have e2 := hAs.trans (if_pos h2); exact ⟨k + 1, by omega, by omega, Weak.ren _ [] hC rfl (by rw [e1]; repeat (first | exact True.intro | refine And.intro ?_ ?_ | exact DLead.same | exact rfl | refine ⟨_, rfl, ?_⟩)) (by rw [e2, ← esL_set]; repeat (first | exact True.intro | refine And.intro ?_ ?_ | exact DLead.same | exact rfl | refine ⟨_, _, rfl, rfl, ?_⟩ | refine ⟨_, rfl, ?_⟩ | refine ⟨_, _, rfl, ?_, ?_⟩)) rfl rfl rfl⟩)
          · refine AC.skip ?_
            refine ib_n ?_
            refine th_n ?_
            refine AC.region ?_
            refine AL.p (by exact g_arith rfl rfl rfl (by exact wrap_i64 (by omega))) rfl ?_
            refine AL.p (by exact mv1 rfl) rfl ?_
            refine AL.nil ?_
            refine th_n ?_
            (have e1 := hKs.trans (if_neg (bne_t h2)); have e2 := hAs.trans (if_neg (bne_t h2)); exact ⟨k + 1, by omega, by omega, Weak.ren _ [] hC rfl (by rw [e1]; repeat (first | exact True.intro | refine And.intro ?_ ?_ | exact DLead.same | exact rfl | refine ⟨_, rfl, ?_⟩)) (by rw [e2]; repeat (first | exact True.intro | refine And.intro ?_ ?_ | exact DLead.same | exact rfl | refine ⟨_, _, rfl, rfl, ?_⟩ | refine ⟨_, rfl, ?_⟩ | refine ⟨_, _, rfl, ?_, ?_⟩)) rfl rfl rfl⟩)
        · refine AC.exit ?_
          refine th_e ?_
          refine th_e ?_
          refine ib_y ?_
          refine th_n ?_
          refine AC.seq ?_
          have hkk : k = u.es.length := by omega
          subst hkk
          have hAl := agA_len u h A u.es.length
          obtain ⟨A1, hA1⟩ : ∃ A1, A1 = agA u h A u.es.length := ⟨_, rfl⟩
          obtain ⟨k1, hk1⟩ : ∃ k1, k1 = agK u h u.es.length := ⟨_, rfl⟩
          obtain ⟨l1, hl1⟩ : ∃ l1, l1 = allB u L h.pre := ⟨_, rfl⟩
          have haL : addL u L h = L ++ [l1 ||| bitU u.es.length] := by rw [hl1]; rfl
          have haA : addA u A h = A1 ++ [k1] := by rw [hA1, hk1]; rfl
          rw [← hA1] at hAl ⊢
          rw [← hk1, ← hl1]
          refine AC.drawn' mixed_ok [[], [], [1], [1,2], [1,2,3], [1,2,3,4], [], [6], [], [], [9], [8,9,10], [6,7,8,9,10,11], [6,7,8,9,10,11,12], [1,2,3,4,5,6,7,8,9,10,11,12,13], [0,1,2,3,4,5,6,7,8,9,10,11,12,13,14], [0,1,2,3,4,5,6,7,8,9,10,11,12,13,14,15], [0,1,2,3,4,5,6,7,8,9,10,11,12,13,14,15,16], [0,1,2,3,4,5,6,7,8,9,10,11,12,13,14,15,16,17]] (by decide) ?_
          refine DF.op 0 [] 19 rfl rfl rfl (.free rfl (NOp.of (by exact mv3 rfl))) rfl ?_
          refine DF.op 1 [] 19 rfl rfl rfl (.free rfl (NOp.of (by exact mv3 rfl))) rfl ?_
          refine DF.op 2 [1] 19 rfl rfl rfl (.free rfl (NOp.of (by exact g_nilP rfl))) rfl ?_
          refine DF.op 3 [1,2] 19 rfl rfl rfl (.free rfl (NOp.of (by exact g_fa_ptr rfl rfl rfl rfl rfl))) rfl ?_
          refine DF.op 4 [1,2,3] 19 rfl rfl rfl (.free rfl (NOp.of (by exact g_fa_ptr rfl rfl rfl rfl rfl))) rfl ?_
          refine DF.op 5 [1,2,3,4] 19 rfl rfl rfl (.free rfl (NOp.of (by exact g_load_ptr rfl rfl rfl rfl rfl))) rfl ?_
          refine DF.op 6 [] 19 rfl rfl rfl (.free rfl (NOp.of (by exact g_fa_ref rfl rfl rfl rfl rfl rfl))) rfl ?_
          refine DF.op 7 [6] 19 rfl rfl rfl (.free rfl (NOp.of (by exact g_load_ref rfl rfl rfl))) rfl ?_
          refine DF.op 8 [] 19 rfl rfl rfl (.free rfl (by exact h_lit rfl rfl rfl rfl rfl rfl rfl rfl)) rfl ?_
          refine DF.op 9 [] 19 rfl rfl rfl (.free rfl (NOp.of (by exact g_fa_ref rfl rfl rfl rfl rfl rfl))) rfl ?_
          refine DF.op 10 [9] 19 rfl rfl rfl (.free rfl (NOp.of (by exact g_load_ref rfl rfl rfl))) rfl ?_
          refine DF.op 11 [8,9,10] 19 rfl rfl rfl (.free rfl (by exact NOp.frz (h_appendI [] h.pre (.own rfl rfl rfl) (.view rfl) (by simp; omega) (by simp)) rfl (Nat.le_of_eq (ints_len _).symm) (ints_all _))) rfl ?_
          refine DF.op 12 [6,7,8,9,10,11] 19 rfl rfl rfl (.free rfl (NOp.of (by exact g_build rfl rfl rfl))) rfl ?_
          refine DF.op 13 [6,7,8,9,10,11,12] 19 rfl rfl rfl (.free rfl (by exact h_litF rfl rfl rfl rfl rfl rfl rfl rfl)) rfl ?_
          refine DF.op 14 [1,2,3,4,5,6,7,8,9,10,11,12,13] 19 rfl rfl rfl (.free rfl (by exact h_appendE u.es [h] (.own rfl rfl (evsL_len _).symm) (.view rfl) (by simp; omega) (by simp))) rfl ?_
          refine DF.op 15 [0,1,2,3,4,5,6,7,8,9,10,11,12,13,14] 19 rfl rfl rfl (.free rfl (NOp.of (by exact g_nilP rfl))) rfl ?_
          refine DF.op 16 [0,1,2,3,4,5,6,7,8,9,10,11,12,13,14,15] 19 rfl rfl rfl (.free rfl (NOp.of (by exact g_fa_ptr rfl rfl rfl rfl rfl))) rfl ?_
          refine DF.op 17 [0,1,2,3,4,5,6,7,8,9,10,11,12,13,14,15,16] 19 rfl rfl rfl (.free rfl (NOp.of (by exact g_fa_ptr rfl rfl rfl rfl rfl))) rfl ?_
          refine DF.op 18 [0,1,2,3,4,5,6,7,8,9,10,11,12,13,14,15,16,17] 19 rfl rfl rfl (.free rfl (by exact h_store rfl rfl rfl rfl rfl rfl)) rfl ?_
          refine DF.fin (ps := [(0, 1), (0, 2), (0, 3), (0, 4), (0, 5), (0, 6), (0, 7), (0, 8), (0, 9), (0, 10), (0, 11), (0, 12), (0, 13), (0, 14), (1, 0), (1, 6), (1, 7), (1, 8), (1, 9), (1, 10), (1, 11), (1, 12), (1, 13), (2, 0), (2, 6), (2, 7), (2, 8), (2, 9), (2, 10), (2, 11), (2, 12), (2, 13), (3, 0), (3, 6), (3, 7), (3, 8), (3, 9), (3, 10), (3, 11), (3, 12), (3, 13), (4, 0), (4, 6), (4, 7), (4, 8), (4, 9), (4, 10), (4, 11), (4, 12), (4, 13), (5, 0), (5, 6), (5, 7), (5, 8), (5, 9), (5, 10), (5, 11), (5, 12), (5, 13), (6, 0), (6, 1), (6, 2), (6, 3), (6, 4), (6, 5), (6, 8), (6, 9), (6, 10), (6, 11), (7, 0), (7, 1), (7, 2), (7, 3), (7, 4), (7, 5), (7, 8), (7, 9), (7, 10), (7, 11), (8, 0), (8, 1), (8, 2), (8, 3), (8, 4), (8, 5), (8, 6), (8, 7), (8, 9), (8, 10), (9, 0), (9, 1), (9, 2), (9, 3), (9, 4), (9, 5), (9, 6), (9, 7), (9, 8), (10, 0), (10, 1), (10, 2), (10, 3), (10, 4), (10, 5), (10, 6), (10, 7), (10, 8), (11, 0), (11, 1), (11, 2), (11, 3), (11, 4), (11, 5), (11, 6), (11, 7), (12, 0), (12, 1), (12, 2), (12, 3), (12, 4), (12, 5), (13, 0), (13, 1), (13, 2), (13, 3), (13, 4), (13, 5), (14, 0)]) 19 rfl (by decide +kernel) (by decide +kernel) (by rfl) ?_
          refine th_n ?_
          refine AC.seq ?_
          refine AC.drawn' mixed_ok [[], [], [], [2], [2,3], [2,3,4], [], [], [7], [6,7,8], [6,7,8,9], [2,3,4,5,6,7,8,9,10], [], [12], [12,13], [12,13,14], [], [16], [2,3,4,5,6,7,8,9,10,11,12,13,14,15,16,17], [0,2,3,4,5,6,7,8,9,10,11,12,13,14,15,16,17,18], [0,2,3,4,5,6,7,8,9,10,11,12,13,14,15,16,17,18,19], [0,2,3,4,5,6,7,8,9,10,11,12,13,14,15,16,17,18,19,20], [0,1,2,3,4,5,6,7,8,9,10,11,12,13,14,15,16,17,18,19,20,21], [0,1,2,3,4,5,6,7,8,9,10,11,12,13,14,15,16,17,18,19,20,21,22], [0,1,2,3,4,5,6,7,8,9,10,11,12,13,14,15,16,17,18,19,20,21,22,23]] (by decide) ?_
          refine DF.op 0 [] 25 rfl rfl rfl (.free rfl (NOp.of (by exact mv3 rfl))) rfl ?_
          refine DF.op 1 [] 25 rfl rfl rfl (.free rfl (NOp.of (by exact mv3 rfl))) rfl ?_
          refine DF.op 2 [] 25 rfl rfl rfl (.free rfl (NOp.of (by exact mv3 rfl))) rfl ?_
          refine DF.op 3 [2] 25 rfl rfl rfl (.free rfl (NOp.of (by exact g_nilP rfl))) rfl ?_
          refine DF.op 4 [2,3] 25 rfl rfl rfl (.free rfl (NOp.of (by exact g_fa_ptr rfl rfl rfl rfl rfl))) rfl ?_
          refine DF.op 5 [2,3,4] 25 rfl rfl rfl (.free rfl (NOp.of (by exact g_load_ptr rfl rfl rfl rfl rfl))) rfl ?_
          refine DF.op 6 [] 25 rfl rfl rfl (.free rfl (NOp.of (by exact mv1 rfl))) rfl ?_
          refine DF.op 7 [] 25 rfl rfl rfl (.free rfl (NOp.of (by exact mv1 rfl))) rfl ?_
          refine DF.op 8 [7] 25 rfl rfl rfl (.free rfl (NOp.of (by exact g_shl64 rfl rfl he))) rfl ?_
          refine DF.op 9 [6,7,8] 25 rfl rfl rfl (.free rfl (NOp.of (by exact g_or64 rfl rfl))) rfl ?_
          refine DF.op 10 [6,7,8,9] 25 rfl rfl rfl (.free rfl (by exact h_litF rfl rfl rfl rfl rfl rfl rfl rfl)) rfl ?_
          refine DF.op 11 [2,3,4,5,6,7,8,9,10] 25 rfl rfl rfl (.free rfl (by exact h_appendS L [l1 ||| bitU u.es.length] (.own rfl rfl (esL_len _).symm) (.view rfl) (by simp; omega) (by simp))) rfl ?_
          refine DF.op 12 [] 25 rfl rfl rfl (.free rfl (NOp.of (by exact mv3 rfl))) rfl ?_
          refine DF.op 13 [12] 25 rfl rfl rfl (.free rfl (NOp.of (by exact g_nilP rfl))) rfl ?_
          refine DF.op 14 [12,13] 25 rfl rfl rfl (.free rfl (NOp.of (by exact g_fa_ptr rfl rfl rfl rfl rfl))) rfl ?_
          refine DF.op 15 [12,13,14] 25 rfl rfl rfl (.free rfl (NOp.of (by exact g_load_ptr rfl rfl rfl rfl rfl))) rfl ?_
          refine DF.op 16 [] 25 rfl rfl rfl (.free rfl (NOp.of (by exact mv1 rfl))) rfl ?_
          refine DF.op 17 [16] 25 rfl rfl rfl (.free rfl (by exact h_litF rfl rfl rfl rfl rfl rfl rfl rfl)) rfl ?_
          refine DF.op 18 [2,3,4,5,6,7,8,9,10,11,12,13,14,15,16,17] 25 rfl rfl rfl (.free rfl (by exact h_appendS A1 [k1] (.own rfl rfl (by rw [esL_len, hAl])) (.view rfl) (by simp; omega) (by simp))) rfl ?_
          refine DF.op 19 [0,2,3,4,5,6,7,8,9,10,11,12,13,14,15,16,17,18] 25 rfl rfl rfl (.free rfl (NOp.of (by exact g_nilP rfl))) rfl ?_
          refine DF.op 20 [0,2,3,4,5,6,7,8,9,10,11,12,13,14,15,16,17,18,19] 25 rfl rfl rfl (.free rfl (NOp.of (by exact g_fa_ptr rfl rfl rfl rfl rfl))) rfl ?_
          refine DF.op 21 [0,2,3,4,5,6,7,8,9,10,11,12,13,14,15,16,17,18,19,20] 25 rfl rfl rfl (.free rfl (by exact h_store rfl rfl rfl rfl rfl rfl)) rfl ?_
          refine DF.op 22 [0,1,2,3,4,5,6,7,8,9,10,11,12,13,14,15,16,17,18,19,20,21] 25 rfl rfl rfl (.free rfl (NOp.of (by exact g_nilP rfl))) rfl ?_
          refine DF.op 23 [0,1,2,3,4,5,6,7,8,9,10,11,12,13,14,15,16,17,18,19,20,21,22] 25 rfl rfl rfl (.free rfl (NOp.of (by exact g_fa_ptr rfl rfl rfl rfl rfl))) rfl ?_
          refine DF.op 24 [0,1,2,3,4,5,6,7,8,9,10,11,12,13,14,15,16,17,18,19,20,21,22,23] 25 rfl rfl rfl (.free rfl (by exact h_store rfl rfl rfl rfl rfl rfl)) rfl ?_
          refine DF.fin (ps := [(0, 1), (0, 2), (0, 3), (0, 4), (0, 5), (0, 6), (0, 7), (0, 8), (0, 9), (0, 10), (0, 11), (0, 12), (0, 13), (0, 14), (0, 15), (0, 16), (0, 17), (0, 18), (1, 0), (1, 2), (1, 3), (1, 4), (1, 5), (1, 6), (1, 7), (1, 8), (1, 9), (1, 10), (1, 11), (1, 12), (1, 13), (1, 14), (1, 15), (1, 16), (1, 17), (1, 18), (1, 19), (1, 20), (1, 21), (2, 0), (2, 1), (2, 6), (2, 7), (2, 8), (2, 9), (2, 10), (2, 12), (2, 13), (2, 14), (2, 15), (2, 16), (2, 17), (3, 0), (3, 1), (3, 6), (3, 7), (3, 8), (3, 9), (3, 10), (3, 12), (3, 13), (3, 14), (3, 15), (3, 16), (3, 17), (4, 0), (4, 1), (4, 6), (4, 7), (4, 8), (4, 9), (4, 10), (4, 12), (4, 13), (4, 14), (4, 15), (4, 16), (4, 17), (5, 0), (5, 1), (5, 6), (5, 7), (5, 8), (5, 9), (5, 10), (5, 12), (5, 13), (5, 14), (5, 15), (5, 16), (5, 17), (6, 0), (6, 1), (6, 2), (6, 3), (6, 4), (6, 5), (6, 7), (6, 8), (6, 12), (6, 13), (6, 14), (6, 15), (6, 16), (6, 17), (7, 0), (7, 1), (7, 2), (7, 3), (7, 4), (7, 5), (7, 6), (7, 12), (7, 13), (7, 14), (7, 15), (7, 16), (7, 17), (8, 0), (8, 1), (8, 2), (8, 3), (8, 4), (8, 5), (8, 6), (8, 12), (8, 13), (8, 14), (8, 15), (8, 16), (8, 17), (9, 0), (9, 1), (9, 2), (9, 3), (9, 4), (9, 5), (9, 12), (9, 13), (9, 14), (9, 15), (9, 16), (9, 17), (10, 0), (10, 1), (10, 2), (10, 3), (10, 4), (10, 5), (10, 12), (10, 13), (10, 14), (10, 15), (10, 16), (10, 17), (11, 0), (11, 1), (11, 12), (11, 13), (11, 14), (11, 15), (11, 16), (11, 17), (12, 0), (12, 1), (12, 2), (12, 3), (12, 4), (12, 5), (12, 6), (12, 7), (12, 8), (12, 9), (12, 10), (12, 11), (12, 16), (12, 17), (13, 0), (13, 1), (13, 2), (13, 3), (13, 4), (13, 5), (13, 6), (13, 7), (13, 8), (13, 9), (13, 10), (13, 11), (13, 16), (13, 17), (14, 0), (14, 1), (14, 2), (14, 3), (14, 4), (14, 5), (14, 6), (14, 7), (14, 8), (14, 9), (14, 10), (14, 11), (14, 16), (14, 17), (15, 0), (15, 1), (15, 2), (15, 3), (15, 4), (15, 5), (15, 6), (15, 7), (15, 8), (15, 9), (15, 10), (15, 11), (15, 16), (15, 17), (16, 0), (16, 1), (16, 2), (16, 3), (16, 4), (16, 5), (16, 6), (16, 7), (16, 8), (16, 9), (16, 10), (16, 11), (16, 12), (16, 13), (16, 14), (16, 15), (17, 0), (17, 1), (17, 2), (17, 3), (17, 4), (17, 5), (17, 6), (17, 7), (17, 8), (17, 9), (17, 10), (17, 11), (17, 12), (17, 13), (17, 14), (17, 15), (18, 0), (18, 1), (19, 1), (20, 1), (21, 1)]) 25 rfl (by decide +kernel) (by decide +kernel) (by rfl) ?_
          refine th_n ?_
          refine AC.seq ?_
          refine AC.drawn' mixed_ok [[], [0], [0,1], [0,1,2], [0,1,2,3], [], [5], [0,1,2,3,4,5,6], [0,1,2,3,4,5,6,7], [0,1,2,3,4,5,6,7,8], [0,1,2,3,4,5,6,7,8,9], []] (by decide) ?_
          refine DF.op 0 [] 12 rfl rfl rfl (.free rfl (NOp.of (by exact mv3 rfl))) rfl ?_
          refine DF.op 1 [0] 12 rfl rfl rfl (.free rfl (NOp.of (by exact g_nilP rfl))) rfl ?_
          refine DF.op 2 [0,1] 12 rfl rfl rfl (.free rfl (NOp.of (by exact g_fa_ptr rfl rfl rfl rfl rfl))) rfl ?_
          refine DF.op 3 [0,1,2] 12 rfl rfl rfl (.free rfl (NOp.of (by exact g_fa_ptr rfl rfl rfl rfl rfl))) rfl ?_
          refine DF.op 4 [0,1,2,3] 12 rfl rfl rfl (.free rfl (NOp.of (by exact g_load_ptr rfl rfl rfl rfl rfl))) rfl ?_
          refine DF.op 5 [] 12 rfl rfl rfl (.free rfl (NOp.of (by exact g_fa_ref rfl rfl rfl rfl rfl rfl))) rfl ?_
          refine DF.op 6 [5] 12 rfl rfl rfl (.free rfl (NOp.of (by exact g_load_ref rfl rfl rfl))) rfl ?_
          refine DF.op 7 [0,1,2,3,4,5,6] 12 rfl rfl rfl (.free rfl (NOp.of (by exact g_ia_view (i := i) rfl rfl rfl rfl rfl hi hgetT))) rfl ?_
          refine DF.op 8 [0,1,2,3,4,5,6,7] 12 rfl rfl rfl (.free rfl (NOp.of (by exact g_fa_ref rfl rfl rfl rfl rfl rfl))) rfl ?_
          refine DF.op 9 [0,1,2,3,4,5,6,7,8] 12 rfl rfl rfl (.free rfl (NOp.of (by exact g_load_ref rfl rfl rfl))) rfl ?_
          refine DF.op 10 [0,1,2,3,4,5,6,7,8,9] 12 rfl rfl rfl (.free rfl (NOp.of (by exact g_len_view rfl rfl (by exact List.length_map _)))) rfl ?_
          refine DF.op 11 [] 12 rfl rfl rfl (.free rfl (NOp.of (by exact mv1 rfl))) rfl ?_
          refine DF.fin (ps := [(0, 5), (0, 6), (0, 11), (1, 5), (1, 6), (1, 11), (2, 5), (2, 6), (2, 11), (3, 5), (3, 6), (3, 11), (4, 5), (4, 6), (4, 11), (5, 0), (5, 1), (5, 2), (5, 3), (5, 4), (5, 11), (6, 0), (6, 1), (6, 2), (6, 3), (6, 4), (6, 11), (7, 11), (8, 11), (9, 11), (10, 11), (11, 0), (11, 1), (11, 2), (11, 3), (11, 4), (11, 5), (11, 6), (11, 7), (11, 8), (11, 9), (11, 10)]) 12 rfl (by decide +kernel) (by decide +kernel) (by rfl) ?_
          refine th_n ?_
          refine AC.block ?_
          refine AC.loop (ι := Nat) (fun k => ⟨135, 136, [(0, .ptr 0 0), (4, aI u.es.length), (114, .d (vI N.ts[i].post)), (115, aI N.ts[i].post.length), (116, aI k)], [(0, some (brC N 101 (u.cs.length + k) 102 (u.es ++ [h]).length 103 (L ++ [l1 ||| bitU u.es.length]).length 104 (A1 ++ [k1]).length)), (101, some (.arr 71 2 (condsL (withC u (N.ts[i].post.take k))))), (102, some (.arr 67 2 (evsL (u.es ++ [h])))), (103, some (.arr 118 1 (esL (L ++ [l1 ||| bitU u.es.length])))), (104, some (.arr 118 1 (esL (A1 ++ [k1]))))]⟩) (fun k => k ≤ N.ts[i].post.length) (fun k => N.ts[i].post.length - k) (0) ?_ (Nat.zero_le _) ?_
          · exact Weak.ren _ [(101, _), (102, _), (103, _), (104, _)] hC rfl (by repeat (first | exact True.intro | refine And.intro ?_ ?_ | exact DLead.same | exact rfl | refine ⟨_, rfl, ?_⟩)) (by rw [show withC u (N.ts[i].post.take 0) = u.cs from List.append_nil _]; repeat (first | exact True.intro | refine And.intro ?_ ?_ | exact DLead.same | exact rfl | refine ⟨_, _, rfl, rfl, ?_⟩ | refine ⟨_, rfl, ?_⟩ | refine ⟨_, _, rfl, ?_, ?_⟩)) rfl rfl rfl
          · intro k hk
            refine AC.seq ?_
            refine AC.region ?_
            refine AL.p (by exact g_cmp rfl rfl rfl) rfl ?_
            refine AL.nil ?_
            refine th_n ?_
            refine AC.seq ?_
            refine AC.condD rfl (fun h2 => ?_) (fun h2 => ?_)
            · refine AC.skip ?_
              refine th_n ?_
              refine AC.seq ?_
              refine AC.block ?_
              refine AC.seq ?_
              have hkp : k < N.ts[i].post.length := by omega
              have hgetp := ints_at hkp
              have hwt := withC_take (u := u) hkp
              have hwl : (withC u (N.ts[i].post.take k)).length = u.cs.length + k := by rw [withC_len, List.length_take]; omega
              refine AC.region ?_
              refine AL.p (by exact g_ia_view rfl rfl rfl rfl rfl (by rfl) (by assumption)) rfl ?_
              refine AL.p (by exact g_load_ref rfl rfl rfl) rfl ?_
              refine AL.p (by exact as1 rfl) rfl ?_
              refine AL.nil ?_
              refine th_n ?_
              refine AC.region ?_
              refine AL.p (by exact mv3 rfl) rfl ?_
              refine AL.p (by exact mv3 rfl) rfl ?_
              refine AL.p (by exact g_nilP rfl) rfl ?_
              refine AL.p (by exact g_fa_ptr rfl rfl rfl rfl rfl) rfl ?_
              refine AL.p (by exact g_fa_ptr rfl rfl rfl rfl rfl) rfl ?_
              refine AL.p (by exact g_load_ptr rfl rfl rfl rfl rfl) rfl ?_
              refine AL.p (by exact mv1 rfl) rfl ?_
              refine AL.p (by exact mv1 rfl) rfl ?_
              refine AL.p (by exact g_build rfl rfl rfl) rfl ?_
              refine AL.q (by exact h_litF rfl rfl rfl rfl rfl rfl rfl rfl) rfl ?_
              refine AL.q (by exact h_appendC (withC u (N.ts[i].post.take k)) [⟨N.ts[i].post[k], (u.es.length : Int)⟩] (.own rfl rfl (by rw [condsL_len, hwl])) (.view rfl) (by rw [List.length_append, hwl]; show u.cs.length + k + 1 ≤ _; omega) (by simp)) rfl ?_
              refine AL.p (by exact g_nilP rfl) rfl ?_
              refine AL.p (by exact g_fa_ptr rfl rfl rfl rfl rfl) rfl ?_
              refine AL.p (by exact g_fa_ptr rfl rfl rfl rfl rfl) rfl ?_
              refine AL.q (by exact h_store rfl rfl rfl rfl rfl rfl) rfl ?_
              refine AL.nil ?_
              refine ib_n ?_
              refine th_n ?_
              refine AC.region ?_
              refine AL.p (by exact g_arith rfl rfl rfl (by exact wrap_i64 (by omega))) rfl ?_
              refine AL.p (by exact mv1 rfl) rfl ?_
              refine AL.nil ?_
              refine th_n ?_
              have hl5 : (withC u (N.ts[i].post.take k) ++ [(⟨N.ts[i].post[k], (u.es.length : Int)⟩ : Cond)]).length = u.cs.length + (k + 1) := by rw [List.length_append, hwl]; rfl
              exact ⟨k + 1, by omega, by omega, Weak.ren _ [(101, _), (102, _), (103, _), (104, _)] hC rfl (by repeat (first | exact True.intro | refine And.intro ?_ ?_ | exact DLead.same | exact rfl | refine ⟨_, rfl, ?_⟩)) (by rw [hwt, ← hl5]; repeat (first | exact True.intro | refine And.intro ?_ ?_ | exact DLead.same | exact rfl | refine ⟨_, _, rfl, rfl, ?_⟩ | refine ⟨_, rfl, ?_⟩ | refine ⟨_, _, rfl, ?_, ?_⟩)) rfl rfl rfl⟩
            · refine AC.exit ?_
              refine th_e ?_
              refine th_e ?_
              refine ib_y ?_
              refine bq_n ?_
              have hkk : k = N.ts[i].post.length := by omega
              subst hkk
              rw [List.take_length]
              have hwl : (withC u N.ts[i].post).length = u.cs.length + N.ts[i].post.length := withC_len _ _
              exact retN [(5, _), (6, _), (7, _), (8, _)] rfl (by repeat (first | exact rfl | refine ⟨_, rfl, ?_⟩)) (by rw [hwi, haL, haA]; simp only [hwl]; repeat (first | exact True.intro | refine And.intro ?_ ?_ | exact DLead.same | exact rfl | refine ⟨_, _, rfl, rfl, ?_⟩ | refine ⟨_, rfl, ?_⟩ | refine ⟨_, _, rfl, ?_, ?_⟩)) rfl rfl
theorem en_brAdd : Enters Tryz.prog 57 := enters_of Tryz.func57 rfl rfl
end Go.Proofs.YtgikfbfagdhopaaGreatDoor

set_option linter.all false
set_option maxRecDepth 20000
namespace Go.Proofs.YtgikfbfagdhopaaGreatDoor
open Go.RowKit

theorem getD_setB (fl : List Bool) (i j : Nat) : (fl.set i true).getD j false = ((decide (i = j) && decide (i < fl.length)) || fl.getD j false) := by
  rw [List.getD_eq_getElem?_getD, List.getD_eq_getElem?_getD, List.getElem?_set]
  by_cases h : i = j
  · subst h
    by_cases h2 : i < fl.length
    · simp [h2]
    · simp [h2, List.getElem?_eq_none (show fl.length ≤ i by omega)]
  · simp [h]
/-- The events that lie behind some. -/
inductive Rch (u : Unf) (S : List Int) : Nat → Prop
  | base {e : Nat} : (e : Int) ∈ S → e < u.es.length → Rch u S e
  | step {e f : Nat} {c : Int} : Rch u S e → c ∈ evAt u (e : Int) → (cAt u c).by_ = (f : Int) → Rch u S f
/-- No event uses what comes behind it. -/
def Ord (u : Unf) : Prop := ∀ (e : Nat) c, e < u.es.length → c ∈ evAt u (e : Int) → (cAt u c).by_ < e
theorem Rch.lt {u : Unf} {S : List Int} (ho : Ord u) {f : Nat} (h : Rch u S f) : f < u.es.length := by
  induction h with
  | base _ h => exact h
  | step _ hc hb ih => have := ho _ _ ih hc; omega
theorem Rch.one {u : Unf} {S : List Int} {f : Nat} (h : Rch u S f) : ∃ s, s ∈ S ∧ Rch u [s] f := by
  induction h with
  | base h1 h2 => exact ⟨_, h1, .base (List.mem_singleton.2 rfl) h2⟩
  | step _ hc hb ih => obtain ⟨s, hs, hr⟩ := ih; exact ⟨s, hs, hr.step hc hb⟩
theorem Rch.mono {u : Unf} {S T : List Int} {f : Nat} (hST : ∀ s, s ∈ S → 0 ≤ s → s ∈ T) (h : Rch u S f) : Rch u T f := by
  induction h with
  | base h1 h2 => exact .base (hST _ h1 (by omega)) h2
  | step _ hc hb ih => exact ih.step hc hb
theorem stepF_get (u : Unf) (e : Nat) : ∀ (l : List Int) (fl : List Bool), (∀ c, c ∈ l → (cAt u c).by_ < e) → e ≤ fl.length → ∀ j, (l.foldl (stepC u e) fl).getD j false = (fl.getD j false || (fl.getD e false && l.any (fun c => decide ((cAt u c).by_ = (j : Int)))))
  | [], fl, h, hl, j => by simp
  | c :: l, fl, h, hl, j => by
    have hc := h c List.mem_cons_self
    have hle : (stepC u e fl c).length = fl.length := stepC_len u e fl c
    rw [List.foldl_cons, stepF_get u e l (stepC u e fl c) (fun c' hc' => h c' (List.mem_cons_of_mem _ hc')) (by omega)]
    have key : ∀ j, (stepC u e fl c).getD j false = (fl.getD j false || (fl.getD e false && decide ((cAt u c).by_ = (j : Int)))) := by
      intro j
      unfold stepC
      by_cases h1 : fl.getD e false = true ∧ 0 ≤ (cAt u c).by_
      · rw [if_pos h1, getD_setB, h1.1, Bool.true_and]
        have : (decide ((cAt u c).by_.toNat = j) && decide ((cAt u c).by_.toNat < fl.length)) = decide ((cAt u c).by_ = (j : Int)) := by
          rw [← Bool.decide_and]; apply decide_eq_decide.2; constructor
          · intro ⟨a, _⟩; omega
          · intro a; omega
        rw [this, Bool.or_comm]
      · rw [if_neg h1]
        by_cases h2 : fl.getD e false = true
        · have : ¬ (cAt u c).by_ = (j : Int) := fun h3 => h1 ⟨h2, by omega⟩
          rw [decide_eq_false this, Bool.and_false, Bool.or_false]
        · rw [Bool.not_eq_true] at h2; rw [h2, Bool.false_and, Bool.or_false]
    have ke : (stepC u e fl c).getD e false = fl.getD e false := by
      rw [key e, decide_eq_false (by omega), Bool.and_false, Bool.or_false]
    rw [ke, key j, List.any_cons]
    cases fl.getD j false <;> cases fl.getD e false <;> simp
theorem stepE_get {u : Unf} (ho : Ord u) {e : Nat} {fl : List Bool} (he : e < u.es.length) (hl : fl.length = u.es.length) (j : Nat) : (stepE u e fl).getD j false = (fl.getD j false || (fl.getD e false && (evAt u (e : Int)).any (fun c => decide ((cAt u c).by_ = (j : Int))))) :=
  stepF_get u e _ fl (fun c hc => ho e c he hc) (by omega) j
theorem stepE_len' {u : Unf} {e : Nat} {fl : List Bool} (hl : fl.length = u.es.length) : (stepE u e fl).length = u.es.length := by rw [stepE_len]; exact hl
theorem downE_rch {u : Unf} (ho : Ord u) {S : List Int} : ∀ (k : Nat) (fl : List Bool), k ≤ u.es.length → fl.length = u.es.length → (∀ f, fl.getD f false = true → Rch u S f) → (∀ e : Nat, (e : Int) ∈ S → e < u.es.length → fl.getD e false = true) → (∀ (e f : Nat) c, k ≤ e → fl.getD e false = true → c ∈ evAt u (e : Int) → (cAt u c).by_ = (f : Int) → fl.getD f false = true) → ∀ f, (downE u k fl).getD f false = true ↔ Rch u S f
  | 0, fl, hk, hl, h1, h2, h3, f => by
    refine ⟨h1 f, fun h => ?_⟩
    induction h with
    | base a b => exact h2 _ a b
    | step _ hc hb ih => exact h3 _ _ _ (Nat.zero_le _) ih hc hb
  | k + 1, fl, hk, hl, h1, h2, h3, f => by
    have hg := stepE_get ho (show k < u.es.length by omega) hl
    refine downE_rch ho k (stepE u k fl) (by omega) (stepE_len' hl) ?_ ?_ ?_ f
    · intro f hf
      rw [hg, Bool.or_eq_true, Bool.and_eq_true] at hf
      rcases hf with h | ⟨h, h'⟩
      · exact h1 f h
      · obtain ⟨c, hc, hd⟩ := List.any_eq_true.1 h'
        exact (h1 k h).step hc (of_decide_eq_true hd)
    · intro e he hlt
      rw [hg, h2 e he hlt, Bool.true_or]
    · intro e f c hke he hc hb
      have he' : fl.getD e false = true := by
        rw [hg, Bool.or_eq_true, Bool.and_eq_true] at he
        rcases he with h | ⟨_, h'⟩
        · exact h
        · obtain ⟨c', hc', hd⟩ := List.any_eq_true.1 h'
          have := ho k c' (by omega) hc'
          have := of_decide_eq_true hd
          omega
      rw [hg]
      by_cases h : k + 1 ≤ e
      · rw [h3 e f c h he' hc hb, Bool.true_or]
      · have : e = k := by omega
        subst this
        rw [he', Bool.true_and, Bool.or_eq_true]
        exact .inr (List.any_eq_true.2 ⟨c, hc, decide_eq_true hb⟩)
theorem getD_rep (n i : Nat) : (List.replicate n false).getD i false = false := by
  rw [List.getD_eq_getElem?_getD, List.getElem?_replicate]; split <;> rfl
theorem mark0_get (n : Nat) (S : List Int) : ∀ f, (mark0 n S).getD f false = true ↔ ((f : Int) ∈ S ∧ f < n) := by
  suffices h : ∀ (S : List Int) (fl : List Bool), fl.length = n → ∀ f, (S.foldl (fun fl e => if 0 ≤ e then fl.set e.toNat true else fl) fl).getD f false = true ↔ (((f : Int) ∈ S ∧ f < n) ∨ fl.getD f false = true) by
    intro f
    have := h S (List.replicate n false) List.length_replicate f
    rw [getD_rep] at this
    unfold mark0
    rw [this]; simp
  intro S
  induction S with
  | nil => intro fl _ f; simp
  | cons e S ih =>
    intro fl hl f
    rw [List.foldl_cons, ih _ (by split; rw [List.length_set]; exact hl; exact hl) f]
    by_cases h : 0 ≤ e
    · rw [if_pos h, getD_setB, Bool.or_eq_true, Bool.and_eq_true, decide_eq_true_eq, decide_eq_true_eq, List.mem_cons]
      constructor
      · rintro (⟨h1, h2⟩ | ⟨h1, h2⟩ | h1)
        · exact .inl ⟨.inr h1, h2⟩
        · exact .inl ⟨.inl (by omega), by omega⟩
        · exact .inr h1
      · rintro (⟨h1 | h1, h2⟩ | h1)
        · exact .inr (.inl ⟨by omega, by omega⟩)
        · exact .inl ⟨h1, h2⟩
        · exact .inr (.inr h1)
    · rw [if_neg h, List.mem_cons]
      constructor
      · rintro (⟨h1, h2⟩ | h1)
        · exact .inl ⟨.inr h1, h2⟩
        · exact .inr h1
      · rintro (⟨h1 | h1, h2⟩ | h1)
        · omega
        · exact .inl ⟨h1, h2⟩
        · exact .inr h1
theorem pastFl_get {u : Unf} (ho : Ord u) (S : List Int) (f : Nat) : (pastFl u S).getD f false = true ↔ Rch u S f := by
  unfold pastFl
  refine downE_rch ho _ _ (Nat.le_refl _) (mark0_len _ _) ?_ ?_ ?_ f
  · intro f hf
    rw [mark0_get] at hf
    exact .base hf.1 hf.2
  · intro e he hl
    rw [mark0_get]; exact ⟨he, hl⟩
  · intro e f c hk he
    rw [mark0_get] at he; omega
theorem mem_past {u : Unf} (ho : Ord u) {S : List Int} {x : Int} : x ∈ pastI u S ↔ ∃ f : Nat, x = f ∧ Rch u S f := by
  unfold pastI flagL
  rw [List.mem_map]
  constructor
  · rintro ⟨k, hk, rfl⟩
    exact ⟨k, rfl, (pastFl_get ho S k).1 (List.mem_filter.1 hk).2⟩
  · rintro ⟨k, rfl, hk⟩
    exact ⟨k, List.mem_filter.2 ⟨List.mem_range.2 (hk.lt ho), (pastFl_get ho S k).2 hk⟩, rfl⟩
theorem past_nodup (u : Unf) (S : List Int) : (pastI u S).Nodup := by
  unfold pastI flagL
  rw [List.Nodup, List.pairwise_map]
  refine ((List.nodup_range (n := u.es.length)).filter _).imp ?_
  intro a b h
  omega
theorem filter_range_le {p : Nat → Bool} {n m : Nat} (hnm : n ≤ m) (h : ∀ i, p i = true → i < n) : (List.range m).filter p = (List.range n).filter p := by
  obtain ⟨d, rfl⟩ : ∃ d, m = n + d := ⟨m - n, by omega⟩
  rw [List.range_add, List.filter_append]
  have : ((List.range d).map (n + ·)).filter p = [] := by
    rw [List.filter_eq_nil_iff]
    intro a ha hp
    obtain ⟨i, _, rfl⟩ := List.mem_map.1 ha
    have := h _ hp
    omega
  rw [this, List.append_nil]
/-- A set of bits that holds what lies behind some events lists what the reference lists. -/
theorem list_past {u : Unf} (ho : Ord u) (hn : u.es.length ≤ 64) {s : ES} {S : List Int} (h : ∀ f, s.getLsbD f = true ↔ Rch u S f) : listI s = pastI u S := by
  unfold listI listK pastI flagL
  rw [filter_range_le hn (fun i hi => ((h i).1 hi).lt ho)]
  congr 1
  refine List.filter_congr fun i _ => ?_
  have := h i
  rw [← pastFl_get ho] at this
  cases h1 : s.getLsbD i <;> cases h2 : (pastFl u S).getD i false <;> simp_all
/-- What is kept is true. -/
structure Tru (u : Unf) (L A : List ES) : Prop where
  w : WB u L A
  o : Ord u
  d : ∀ e, e ∈ u.es → e.pre.Nodup
  l : ∀ e, e < u.es.length → ∀ f, (L.getD e 0).getLsbD f = true ↔ Rch u [(e : Int)] f
  a : ∀ e, e < u.es.length → ∀ f, (A.getD e 0).getLsbD f = true ↔ (f < u.es.length ∧ e ≠ f ∧ shareI (evAt u (e : Int)) (evAt u (f : Int)) = true)
theorem rch_neg {u : Unf} {x : Int} (hx : x < 0) {f : Nat} : ¬ Rch u [x] f := by
  intro h
  induction h with
  | base h _ => have := List.mem_singleton.1 h; omega
  | step _ _ _ ih => exact ih
theorem prod_bit {u : Unf} {L A : List ES} (hT : Tru u L A) {c : Int} (h0 : 0 ≤ c) (hc : c < u.cs.length) (f : Nat) : (prodI u L c).getLsbD f = true ↔ Rch u [(cAt u c).by_] f := by
  obtain ⟨i, rfl⟩ : ∃ i : Nat, c = i := ⟨c.toNat, by omega⟩
  have hb := hT.w.w.b _ (List.getElem_mem (show i < u.cs.length by omega))
  rw [← cAt_nat] at hb
  unfold prodI
  by_cases h : 0 ≤ (cAt u (i : Int)).by_
  · obtain ⟨j, hj⟩ : ∃ j : Nat, (cAt u (i : Int)).by_ = j := ⟨(cAt u (i : Int)).by_.toNat, by omega⟩
    rw [if_pos h, hj, Int.toNat_natCast]
    exact hT.l j (by omega) f
  · rw [if_neg h]
    constructor
    · intro h; simp at h
    · intro h2; exact absurd h2 (rch_neg (by omega))
theorem fold_bit {u : Unf} {L : List ES} (f : Nat) : ∀ (l : List Int) (a : ES), (l.foldl (fun a c => a ||| prodI u L c) a).getLsbD f = true ↔ (a.getLsbD f = true ∨ ∃ c, c ∈ l ∧ (prodI u L c).getLsbD f = true)
  | [], a => by simp
  | c :: l, a => by
    rw [List.foldl_cons, fold_bit f l, BitVec.getLsbD_or, Bool.or_eq_true]
    simp [or_assoc]
theorem all_bit {u : Unf} {L A : List ES} (hT : Tru u L A) {l : List Int} (hin : ∀ c, c ∈ l → 0 ≤ c ∧ c < u.cs.length) (f : Nat) : (allB u L l).getLsbD f = true ↔ Rch u (byL u l) f := by
  unfold allB
  rw [fold_bit]
  constructor
  · rintro (h | ⟨c, hc, h⟩)
    · simp at h
    · have := (prod_bit hT (hin c hc).1 (hin c hc).2 f).1 h
      exact this.mono fun s hs _ => by rw [List.mem_singleton] at hs; rw [hs]; exact List.mem_map.2 ⟨c, hc, rfl⟩
  · intro h
    obtain ⟨s, hs, hr⟩ := h.one
    obtain ⟨c, hc, rfl⟩ := List.mem_map.1 hs
    exact .inr ⟨c, hc, (prod_bit hT (hin c hc).1 (hin c hc).2 f).2 hr⟩
theorem uses_has (u : Unf) (c e : Int) : usesAt u c e = hasI (evAt u e) c := by
  unfold usesAt hasI
  congr 1
  funext x
  exact decide_eq_decide.2 eq_comm
theorem cons_used {u : Unf} (ho : Ord u) (hn : u.es.length ≤ 64) {s : ES} {S : List Int} (h : ∀ f, s.getLsbD f = true ↔ Rch u S f) (c : Int) : consI u s c = usedI u (pastI u S) c := by
  unfold consI usedI
  rw [list_past ho hn h]
  congr 1
  funext e
  exact uses_has u c e
theorem share_iff {a b : List Int} : shareI a b = true ↔ ∃ x, x ∈ a ∧ x ∈ b := by
  unfold shareI
  rw [List.any_eq_true]
  constructor
  · rintro ⟨x, hx, h⟩
    obtain ⟨y, hy, e⟩ := List.any_eq_true.1 h
    have := of_decide_eq_true e; subst this
    exact ⟨x, hx, hy⟩
  · rintro ⟨x, hx, hy⟩
    exact ⟨x, hx, List.any_eq_true.2 ⟨x, hy, by simp⟩⟩
theorem share_symm {a b : List Int} (h : shareI a b = true) : shareI b a = true := by
  rw [share_iff] at h ⊢
  obtain ⟨x, h1, h2⟩ := h
  exact ⟨x, h2, h1⟩
theorem and_ne {n : Nat} (x y : BitVec n) : (!decide ((((x &&& y).toNat : Nat) : Int) = 0)) = true ↔ ∃ f, x.getLsbD f = true ∧ y.getLsbD f = true := by
  rw [Bool.not_eq_true', decide_eq_false_iff_not]
  constructor
  · intro h
    have hx : ¬ (x &&& y) = 0 := by intro e; rw [e] at h; simp at h
    apply Classical.byContradiction
    intro hn
    apply hx
    apply BitVec.eq_of_getLsbD_eq
    intro i hi
    rw [BitVec.getLsbD_and]
    rw [show (0 : BitVec n).getLsbD i = false from BitVec.getLsbD_zero]
    cases h1 : x.getLsbD i <;> cases h2 : y.getLsbD i <;> first | rfl | exact absurd ⟨i, h1, h2⟩ hn
  · rintro ⟨f, h1, h2⟩ e
    have : (x &&& y).getLsbD f = true := by rw [BitVec.getLsbD_and, h1, h2]; rfl
    have e2 : (x &&& y) = 0 := by apply BitVec.eq_of_toNat_eq; simpa using e
    rw [e2] at this
    simp at this
theorem clash_iff {u : Unf} {L A : List ES} (hT : Tru u L A) {s : ES} (hs : subU s u.es.length) : clashI A s = true ↔ ∃ e f, s.getLsbD e = true ∧ s.getLsbD f = true ∧ e ≠ f ∧ shareI (evAt u (e : Int)) (evAt u (f : Int)) = true := by
  unfold clashI
  rw [List.any_eq_true]
  constructor
  · rintro ⟨x, hx, h⟩
    obtain ⟨e, rfl, he⟩ := mem_listI.1 hx
    unfold clashAt at h
    rw [Int.toNat_natCast, and_ne] at h
    obtain ⟨f, h1, h2⟩ := h
    have := (hT.a e (hs e he) f).1 h1
    exact ⟨e, f, he, h2, this.2.1, this.2.2⟩
  · rintro ⟨e, f, he, hf, hne, hsh⟩
    refine ⟨e, mem_listI.2 ⟨e, rfl, he⟩, ?_⟩
    unfold clashAt
    rw [Int.toNat_natCast, and_ne]
    exact ⟨f, (hT.a e (hs e he) f).2 ⟨hs f hf, hne, hsh⟩, hf⟩
theorem freeF_iff : ∀ (l : List Int) (fl : List Bool), (∀ c, c ∈ l → 0 ≤ c ∧ c < fl.length) → (freeF fl l = true ↔ (l.Nodup ∧ ∀ c, c ∈ l → fl.getD c.toNat false = false))
  | [], fl, _ => by simp [freeF]
  | c :: l, fl, hin => by
    have hc := hin c List.mem_cons_self
    rw [freeF]
    by_cases h : fl.getD c.toNat false = true
    · rw [if_pos h]
      constructor
      · intro h2; cases h2
      · rintro ⟨_, h2⟩; rw [h2 c List.mem_cons_self] at h; cases h
    · rw [if_neg h, freeF_iff l _ (fun c' hc' => by rw [List.length_set]; exact hin c' (List.mem_cons_of_mem _ hc')), List.nodup_cons]
      rw [Bool.not_eq_true] at h
      constructor
      · rintro ⟨h1, h2⟩
        have h3 : ∀ c', c' ∈ l → ¬ c' = c ∧ fl.getD c'.toNat false = false := by
          intro c' hc'
          have := h2 c' hc'
          rw [getD_setB, Bool.or_eq_false_iff, Bool.and_eq_false_iff] at this
          refine ⟨fun e => ?_, this.2⟩
          subst e
          rcases this.1 with q | q
          · simp at q
          · have := of_decide_eq_false q; omega
        exact ⟨⟨fun hm => (h3 c hm).1 rfl, h1⟩, fun c' hc' => by rcases List.mem_cons.1 hc' with rfl | hc'; exact h; exact (h3 c' hc').2⟩
      · rintro ⟨⟨h1, h2⟩, h3⟩
        refine ⟨h2, fun c' hc' => ?_⟩
        have hc2 := hin c' (List.mem_cons_of_mem _ hc')
        rw [getD_setB, h3 c' (List.mem_cons_of_mem _ hc'), Bool.or_false, Bool.and_eq_false_iff]
        left
        apply decide_eq_false
        intro e
        apply h1
        have : c' = c := by omega
        rw [← this]; exact hc'
theorem free_iff {u : Unf} (hw : WF u) (hd : ∀ e, e ∈ u.es → e.pre.Nodup) {l : List Int} (hl : l.Nodup) (hin : ∀ e, e ∈ l → 0 ≤ e ∧ e < u.es.length) : freeI u l = true ↔ ∀ e f, e ∈ l → f ∈ l → e ≠ f → shareI (evAt u e) (evAt u f) = false := by
  have hmem : ∀ e : Int, 0 ≤ e ∧ e < u.es.length → ∃ x, x ∈ u.es ∧ evAt u e = x.pre := by
    intro e he
    obtain ⟨i, rfl⟩ : ∃ i : Nat, e = i := ⟨e.toNat, by omega⟩
    have hi : i < u.es.length := by omega
    exact ⟨_, List.getElem_mem hi, evAt_nat hi⟩
  unfold freeI
  rw [freeF_iff]
  rotate_left
  · intro c hc
    obtain ⟨e, he, hc⟩ := List.mem_flatMap.1 hc
    obtain ⟨x, hx, e2⟩ := hmem e (hin e he)
    rw [e2] at hc
    rw [List.length_replicate]
    exact hw.p x hx c hc
  have h0 : (∀ c, c ∈ l.flatMap (evAt u) → (List.replicate u.cs.length false).getD c.toNat false = false) ↔ True := ⟨fun _ => trivial, fun _ c _ => getD_rep _ _⟩
  rw [h0, and_true, List.Nodup, List.pairwise_flatMap]
  constructor
  · rintro ⟨_, h⟩ e f he hf hne
    obtain ⟨i, hi, rfl⟩ := List.getElem_of_mem he
    obtain ⟨j, hj, rfl⟩ := List.getElem_of_mem hf
    rw [List.pairwise_iff_getElem] at h
    rw [← Bool.not_eq_true]
    intro hs
    obtain ⟨x, hx, hy⟩ := share_iff.1 hs
    rcases Nat.lt_trichotomy i j with hij | hij | hij
    · exact h i j hi hj hij x hx x hy rfl
    · subst hij; exact hne rfl
    · exact h j i hj hi hij x hy x hx rfl
  · intro h
    refine ⟨fun e he => ?_, ?_⟩
    · obtain ⟨x, hx, e2⟩ := hmem e (hin e he)
      rw [e2]; exact hd x hx
    · refine List.Pairwise.imp_of_mem ?_ hl
      intro e f he hf hne x hx y hy exy
      subst exy
      have := h e f he hf hne
      rw [← Bool.not_eq_true] at this
      exact this (share_iff.2 ⟨x, hx, hy⟩)
theorem past_in {u : Unf} (S : List Int) : ∀ e, e ∈ pastI u S → 0 ≤ e ∧ e < u.es.length := fun e he => flagL_mem he
theorem clash_free {u : Unf} {L A : List ES} (hT : Tru u L A) {s : ES} {S : List Int} (h : ∀ f, s.getLsbD f = true ↔ Rch u S f) : clashI A s = !freeI u (pastI u S) := by
  have h1 := clash_iff hT (s := s) (fun e he => ((h e).1 he).lt hT.o)
  have h2 := free_iff hT.w.w hT.d (past_nodup u S) (past_in S)
  have h3 : clashI A s = true ↔ ¬ freeI u (pastI u S) = true := by
    rw [h1, h2]
    constructor
    · rintro ⟨e, f, he, hf, hne, hsh⟩ hall
      have := hall e f ((mem_past hT.o).2 ⟨e, rfl, (h e).1 he⟩) ((mem_past hT.o).2 ⟨f, rfl, (h f).1 hf⟩) (by omega)
      rw [this] at hsh; cases hsh
    · intro hn
      apply Classical.byContradiction
      intro hno
      apply hn
      intro e f he hf hne
      obtain ⟨e, rfl, he2⟩ := (mem_past hT.o).1 he
      obtain ⟨f, rfl, hf2⟩ := (mem_past hT.o).1 hf
      rw [← Bool.not_eq_true]
      intro hsh
      exact hno ⟨e, f, (h e).2 he2, (h f).2 hf2, by omega, hsh⟩
  cases hc : clashI A s <;> cases hf : freeI u (pastI u S) <;> simp_all
/-- Co-sets, one way as the other. -/
theorem coset_tog {u : Unf} {L A : List ES} (hT : Tru u L A) {l : List Int} (hin : ∀ c, c ∈ l → 0 ≤ c ∧ c < u.cs.length) (hn : l.Nodup) : cosetI u L A l = togI u l := by
  unfold cosetI togI
  have hb := all_bit hT hin
  rw [decide_eq_true hn, Bool.true_and, clash_free hT hb, Bool.not_not, Bool.and_comm]
  congr 1
  rw [List.not_any_eq_all_not]
  congr 1
  funext c
  rw [cons_used hT.o hT.w.e hb]
end Go.Proofs.YtgikfbfagdhopaaGreatDoor

set_option linter.all false
set_option maxRecDepth 20000
namespace Go.Proofs.YtgikfbfagdhopaaGreatDoor
open Go.RowKit

theorem evAt_old {N : Net} {u : Unf} {h : Ev} {e : Nat} (he : e < u.es.length) : evAt (withI N u h) (e : Int) = evAt u (e : Int) := by
  unfold evAt
  rw [Int.toNat_natCast, List.getD_eq_getElem?_getD, List.getD_eq_getElem?_getD]
  show ((u.es ++ [h])[e]?.getD _).pre = _
  rw [List.getElem?_append_left he]
theorem evAt_new {N : Net} {u : Unf} {h : Ev} : evAt (withI N u h) (u.es.length : Int) = h.pre := by
  unfold evAt
  rw [Int.toNat_natCast, List.getD_eq_getElem?_getD]
  show ((u.es ++ [h])[u.es.length]?.getD _).pre = _
  rw [List.getElem?_append_right (Nat.le_refl _), Nat.sub_self]; rfl
theorem cAt_old {N : Net} {u : Unf} {h : Ev} {c : Int} (h0 : 0 ≤ c) (hc : c < u.cs.length) : cAt (withI N u h) c = cAt u c := by
  unfold cAt
  rw [List.getD_eq_getElem?_getD, List.getD_eq_getElem?_getD]
  show ((u.cs ++ _)[c.toNat]?.getD _) = _
  rw [List.getElem?_append_left (by omega)]
theorem es_len {N : Net} {u : Unf} {h : Ev} : (withI N u h).es.length = u.es.length + 1 := by show (u.es ++ [h]).length = _; rw [List.length_append]; rfl
theorem evAt_in {u : Unf} (hw : WF u) {e : Nat} (he : e < u.es.length) : ∀ c, c ∈ evAt u (e : Int) → 0 ≤ c ∧ c < u.cs.length := by
  rw [evAt_nat he]; exact hw.p _ (List.getElem_mem he)
theorem rch_old {N : Net} {u : Unf} {h : Ev} (hw : WF u) (ho : Ord u) {S : List Int} (hS : ∀ s, s ∈ S → s < u.es.length) {f : Nat} : Rch (withI N u h) S f ↔ Rch u S f := by
  constructor
  · intro hr
    induction hr with
    | base h1 h2 => exact .base h1 (by have := hS _ h1; omega)
    | step _ hc hb ih =>
      have hl := ih.lt ho
      rw [evAt_old hl] at hc
      have hi := evAt_in hw hl _ hc
      rw [cAt_old hi.1 hi.2] at hb
      exact ih.step hc hb
  · intro hr
    induction hr with
    | base h1 h2 => exact .base h1 (by rw [es_len]; omega)
    | step h1 hc hb ih =>
      have hl := h1.lt ho
      have hi := evAt_in hw hl _ hc
      exact ih.step (by rw [evAt_old hl]; exact hc) (by rw [cAt_old hi.1 hi.2]; exact hb)
theorem rch_new {N : Net} {u : Unf} {h : Ev} (hw : WF u) (ho : Ord u) (hin : ∀ c, c ∈ h.pre → 0 ≤ c ∧ c < u.cs.length) {f : Nat} : Rch (withI N u h) [(u.es.length : Int)] f ↔ (f = u.es.length ∨ Rch u (byL u h.pre) f) := by
  have hby : ∀ c : Int, 0 ≤ c ∧ c < u.cs.length → (cAt u c).by_ < u.es.length := by
    intro c hc
    obtain ⟨i, rfl⟩ : ∃ i : Nat, c = i := ⟨c.toNat, by omega⟩
    have hi : i < u.cs.length := by omega
    rw [cAt_nat hi]; exact (hw.b _ (List.getElem_mem hi)).2
  constructor
  · intro hr
    induction hr with
    | base h1 h2 => have := List.mem_singleton.1 h1; exact .inl (by omega)
    | @step e f c _ hc hb ih =>
      right
      rcases ih with ih | ih
      · subst ih
        rw [evAt_new] at hc
        have hi := hin _ hc
        rw [cAt_old hi.1 hi.2] at hb
        have := hby c hi
        exact .base (List.mem_map.2 ⟨c, hc, hb⟩) (by omega)
      · have hl := ih.lt ho
        rw [evAt_old hl] at hc
        have hi := evAt_in hw hl _ hc
        rw [cAt_old hi.1 hi.2] at hb
        exact ih.step hc hb
  · rintro (rfl | hr)
    · exact .base (List.mem_singleton.2 rfl) (by rw [es_len]; omega)
    · have h0 : Rch (withI N u h) [(u.es.length : Int)] u.es.length := .base (List.mem_singleton.2 rfl) (by rw [es_len]; omega)
      induction hr with
      | base h1 h2 =>
        obtain ⟨c, hc, hb⟩ := List.mem_map.1 h1
        have hi := hin _ hc
        exact h0.step (by rw [evAt_new]; exact hc) (by rw [cAt_old hi.1 hi.2]; exact hb)
      | step h1 hc hb ih =>
        have hl := h1.lt ho
        have hi := evAt_in hw hl _ hc
        exact ih.step (by rw [evAt_old hl]; exact hc) (by rw [cAt_old hi.1 hi.2]; exact hb)
theorem bitU_get {k f : Nat} (hk : k < 64) : (bitU k).getLsbD f = decide (f = k) := by
  unfold bitU
  rw [BitVec.getLsbD_twoPow]
  by_cases h : k = f
  · subst h; simp [hk]
  · rw [decide_eq_false h, Bool.and_false, decide_eq_false (fun e => h e.symm)]
theorem getD_app_l {α : Type} {L : List α} {x d : α} {e : Nat} (h : e < L.length) : (L ++ [x]).getD e d = L.getD e d := by
  rw [List.getD_eq_getElem?_getD, List.getD_eq_getElem?_getD, List.getElem?_append_left h]
theorem getD_app_r {α : Type} {L : List α} {x d : α} {e : Nat} (h : e = L.length) : (L ++ [x]).getD e d = x := by
  subst h
  rw [List.getD_eq_getElem?_getD, List.getElem?_append_right (Nat.le_refl _), Nat.sub_self]; rfl
theorem agK_bit (u : Unf) (h : Ev) (f : Nat) : ∀ k, k ≤ 64 → ((agK u h k).getLsbD f = true ↔ (f < k ∧ shareI (evAt u (f : Int)) h.pre = true))
  | 0, _ => by simp [agK]
  | k + 1, hk => by
    rw [agK]
    have ih := agK_bit u h f k (by omega)
    split
    · rename_i hs
      rw [BitVec.getLsbD_or, Bool.or_eq_true, bitU_get (by omega), decide_eq_true_eq, ih]
      constructor
      · rintro (⟨h1, h2⟩ | h1)
        · exact ⟨by omega, h2⟩
        · subst h1; exact ⟨by omega, hs⟩
      · rintro ⟨h1, h2⟩
        by_cases e : f = k
        · exact .inr e
        · exact .inl ⟨by omega, h2⟩
    · rename_i hs
      rw [ih]
      constructor
      · rintro ⟨h1, h2⟩; exact ⟨by omega, h2⟩
      · rintro ⟨h1, h2⟩
        refine ⟨?_, h2⟩
        by_cases e : f = k
        · subst e; exact absurd h2 hs
        · omega
theorem agA_at (u : Unf) (h : Ev) (A : List ES) (e : Nat) (he : e < A.length) : ∀ k, (agA u h A k).getD e 0 = if e < k ∧ shareI (evAt u (e : Int)) h.pre = true then A.getD e 0 ||| bitU u.es.length else A.getD e 0
  | 0 => by rw [agA, if_neg (by omega)]
  | k + 1 => by
    rw [agA]
    have ih := agA_at u h A e he k
    split
    · rename_i hs
      rw [List.getD_eq_getElem?_getD, List.getElem?_set]
      by_cases hke : k = e
      · subst hke
        rw [if_pos rfl, if_pos (by rw [agA_len]; exact he), if_pos ⟨by omega, hs⟩]; rfl
      · rw [if_neg hke, ← List.getD_eq_getElem?_getD, ih]
        by_cases h2 : e < k ∧ shareI (evAt u (e : Int)) h.pre = true
        · rw [if_pos h2, if_pos ⟨by omega, h2.2⟩]
        · rw [if_neg h2, if_neg (fun h3 => h2 ⟨by omega, h3.2⟩)]
    · rename_i hs
      rw [ih]
      by_cases h2 : e < k ∧ shareI (evAt u (e : Int)) h.pre = true
      · rw [if_pos h2, if_pos ⟨by omega, h2.2⟩]
      · rw [if_neg h2, if_neg (fun h3 => h2 ⟨by
          by_cases e2 : e = k
          · subst e2; exact absurd h3.2 hs
          · omega, h3.2⟩)]
theorem Tru.zero {N : Net} (hN : NetS N) (m : List UInt8) : Tru ⟨madeI N m, []⟩ [] [] :=
  ⟨⟨(Now.zero hN m).w, Nat.zero_le _, rfl, rfl, fun x hx => absurd hx List.not_mem_nil⟩, fun e c he => absurd he (Nat.not_lt_zero _), fun e he => absurd he List.not_mem_nil, fun e he => absurd he (Nat.not_lt_zero _), fun e he => absurd he (Nat.not_lt_zero _)⟩
theorem Tru.add {N : Net} {u : Unf} {L A : List ES} {h : Ev} (hT : Tru u L A) (hw' : WF (withI N u h)) (he : u.es.length < 64) (hin : ∀ c, c ∈ h.pre → 0 ≤ c ∧ c < u.cs.length) (hnd : h.pre.Nodup) : Tru (withI N u h) (addL u L h) (addA u A h) := by
  have hw := hT.w.w
  have hLl := hT.w.l
  have hAl := hT.w.a
  have hel := es_len (N := N) (u := u) (h := h)
  have hby : ∀ c : Int, 0 ≤ c ∧ c < u.cs.length → (cAt u c).by_ < u.es.length := by
    intro c hc
    obtain ⟨i, rfl⟩ : ∃ i : Nat, c = i := ⟨c.toNat, by omega⟩
    have hi : i < u.cs.length := by omega
    rw [cAt_nat hi]; exact (hw.b _ (List.getElem_mem hi)).2
  have hO : Ord (withI N u h) := by
    intro e c he' hc
    rw [hel] at he'
    by_cases h1 : e < u.es.length
    · rw [evAt_old h1] at hc
      have hi := evAt_in hw h1 _ hc
      rw [cAt_old hi.1 hi.2]
      exact hT.o e c h1 hc
    · have : e = u.es.length := by omega
      subst this
      rw [evAt_new] at hc
      have hi := hin _ hc
      rw [cAt_old hi.1 hi.2]
      exact hby c hi
  have hLb : ∀ e, e < (withI N u h).es.length → ∀ f, ((addL u L h).getD e 0).getLsbD f = true ↔ Rch (withI N u h) [(e : Int)] f := by
    intro e he' f
    rw [hel] at he'
    unfold addL
    by_cases h1 : e < u.es.length
    · rw [getD_app_l (by omega), rch_old hw hT.o (fun s hs => by rw [List.mem_singleton] at hs; omega)]
      exact hT.l e h1 f
    · have : e = u.es.length := by omega
      subst this
      rw [getD_app_r (by omega), rch_new hw hT.o hin, BitVec.getLsbD_or, Bool.or_eq_true, bitU_get he, decide_eq_true_eq, all_bit hT hin, or_comm]
  have hAb : ∀ e, e < (withI N u h).es.length → ∀ f, ((addA u A h).getD e 0).getLsbD f = true ↔ (f < (withI N u h).es.length ∧ e ≠ f ∧ shareI (evAt (withI N u h) (e : Int)) (evAt (withI N u h) (f : Int)) = true) := by
    intro e he' f
    rw [hel] at he' ⊢
    unfold addA
    by_cases h1 : e < u.es.length
    · rw [getD_app_l (by rw [agA_len]; omega), agA_at u h A e (by omega), evAt_old h1]
      have ha := hT.a e h1 f
      by_cases h2 : e < u.es.length ∧ shareI (evAt u (e : Int)) h.pre = true
      · rw [if_pos h2, BitVec.getLsbD_or, Bool.or_eq_true, bitU_get he, decide_eq_true_eq, ha]
        constructor
        · rintro (⟨q1, q2, q3⟩ | rfl)
          · exact ⟨by omega, q2, by rw [evAt_old q1]; exact q3⟩
          · exact ⟨by omega, by omega, by rw [evAt_new]; exact h2.2⟩
        · rintro ⟨q1, q2, q3⟩
          by_cases q : f = u.es.length
          · exact .inr q
          · have q1' : f < u.es.length := by omega
            rw [evAt_old q1'] at q3
            exact .inl ⟨q1', q2, q3⟩
      · rw [if_neg h2, ha]
        constructor
        · rintro ⟨q1, q2, q3⟩
          exact ⟨by omega, q2, by rw [evAt_old q1]; exact q3⟩
        · rintro ⟨q1, q2, q3⟩
          by_cases q : f = u.es.length
          · subst q; rw [evAt_new] at q3; exact absurd ⟨h1, q3⟩ h2
          · have q1' : f < u.es.length := by omega
            rw [evAt_old q1'] at q3
            exact ⟨q1', q2, q3⟩
    · have : e = u.es.length := by omega
      subst this
      rw [getD_app_r (by rw [agA_len]; omega), agK_bit u h f _ (by omega), evAt_new]
      constructor
      · rintro ⟨q1, q2⟩
        exact ⟨by omega, by omega, by rw [evAt_old q1]; exact share_symm q2⟩
      · rintro ⟨q1, q2, q3⟩
        have q1' : f < u.es.length := by omega
        rw [evAt_old q1'] at q3
        exact ⟨q1', share_symm q3⟩
  refine ⟨⟨hw', by omega, ?_, ?_, ?_⟩, hO, ?_, hLb, hAb⟩
  · unfold addL; rw [List.length_append, hel, hLl]; rfl
  · unfold addA; rw [List.length_append, agA_len, hel, hAl]; rfl
  · intro x hx f hf
    obtain ⟨i, hi, rfl⟩ := List.getElem_of_mem hx
    have hi' : i < (withI N u h).es.length := by
      have : (addL u L h).length = u.es.length + 1 := by unfold addL; rw [List.length_append, hLl]; rfl
      omega
    have := (hLb i hi' f).1 (by rw [List.getD_eq_getElem?_getD, List.getElem?_eq_getElem hi]; exact hf)
    exact this.lt hO
  · intro e he'
    rcases List.mem_append.1 he' with h1 | h1
    · exact hT.d e h1
    · rw [List.mem_singleton] at h1; subst h1; exact hnd
/-- Sorted lists with the same members, each once, are the same. -/
def srtd (l : List Int) : Prop := l.Pairwise (fun a b => a < b)
theorem srtd_ext : ∀ {a b : List Int}, srtd a → srtd b → (∀ x, x ∈ a ↔ x ∈ b) → a = b
  | [], [], _, _, _ => rfl
  | [], y :: b, _, _, h => by have := (h y).2 List.mem_cons_self; cases this
  | x :: a, [], _, _, h => by have := (h x).1 List.mem_cons_self; cases this
  | x :: a, y :: b, ha, hb, h => by
    have ha' := List.pairwise_cons.1 ha
    have hb' := List.pairwise_cons.1 hb
    have hxy : x = y := by
      rcases List.mem_cons.1 ((h x).1 List.mem_cons_self) with e | e
      · exact e
      · rcases List.mem_cons.1 ((h y).2 List.mem_cons_self) with e2 | e2
        · exact e2.symm
        · have := hb'.1 x e
          have := ha'.1 y e2
          omega
    subst hxy
    congr 1
    refine srtd_ext ha'.2 hb'.2 fun z => ?_
    have hz := h z
    rw [List.mem_cons, List.mem_cons] at hz
    constructor
    · intro q
      rcases hz.1 (.inr q) with e | e
      · subst e; have := ha'.1 _ q; omega
      · exact e
    · intro q
      rcases hz.2 (.inr q) with e | e
      · subst e; have := hb'.1 _ q; omega
      · exact e
theorem findIdx_le {l : List Int} {x : Int} {i : Nat} (hi : i < l.findIdx (fun y => decide (x ≤ y))) (hl : i < l.length) : l[i] < x := by
  have := List.not_of_lt_findIdx hi
  simp only [decide_eq_true_eq, decide_eq_false_iff_not, Bool.not_eq_true] at this
  omega
theorem putI_srtd {l : List Int} (h : srtd l) (x : Int) : srtd (putI l x) ∧ ∀ y, y ∈ putI l x ↔ (y ∈ l ∨ y = x) := by
  unfold putI
  obtain ⟨k, hk⟩ : ∃ k, k = l.findIdx (fun y => decide (x ≤ y)) := ⟨_, rfl⟩
  rw [← hk]
  by_cases he : l[k]? = some x
  · rw [if_pos he]
    refine ⟨h, fun y => ⟨.inl, ?_⟩⟩
    rintro (q | rfl)
    · exact q
    · exact List.mem_of_getElem? he
  · rw [if_neg he]
    have hlow : ∀ i (hi : i < l.length), i < k → l[i] < x := fun i hi hik => findIdx_le (by omega) hi
    have hhigh : ∀ i (hi : i < l.length), k ≤ i → x < l[i] := by
      intro i hi hki
      have hkl : k < l.length := by omega
      have h1 : x ≤ l[k] := by
        have := List.findIdx_getElem (w := show l.findIdx (fun y => decide (x ≤ y)) < l.length by omega)
        have := of_decide_eq_true this
        simpa only [← hk] using this
      have h2 : l[k] ≠ x := fun e => he (by rw [List.getElem?_eq_getElem hkl, e])
      by_cases e : k = i
      · subst e; omega
      · have := (List.pairwise_iff_getElem.1 h) k i hkl hi (by omega)
        omega
    refine ⟨?_, ?_⟩
    · unfold srtd
      rw [List.pairwise_append, List.pairwise_append]
      refine ⟨⟨List.Pairwise.sublist (List.take_sublist _ _) h, List.pairwise_singleton _ _, ?_⟩, List.Pairwise.sublist (List.drop_sublist _ _) h, ?_⟩
      · intro a ha b hb
        rw [List.mem_singleton] at hb; subst hb
        obtain ⟨i, hi, rfl⟩ := List.mem_take_iff_getElem.1 ha
        exact hlow i (by omega) (by omega)
      · intro a ha b hb
        obtain ⟨j, hj, rfl⟩ := List.mem_drop_iff_getElem.1 hb
        have h2 := hhigh (k + j) (by omega) (by omega)
        rcases List.mem_append.1 ha with ha | ha
        · obtain ⟨i, hi, rfl⟩ := List.mem_take_iff_getElem.1 ha
          have := hlow i (by omega) (by omega)
          omega
        · rw [List.mem_singleton] at ha; subst ha; exact h2
    · intro y
      have : y ∈ l ↔ (y ∈ l.take k ∨ y ∈ l.drop k) := by rw [← List.mem_append, List.take_append_drop]
      rw [this, List.mem_append, List.mem_append, List.mem_singleton]
      constructor
      · rintro ((q | q) | q)
        · exact .inl (.inl q)
        · exact .inr q
        · exact .inl (.inr q)
      · rintro ((q | q) | q)
        · exact .inl (.inl q)
        · exact .inr q
        · exact .inl (.inr q)
def setP (l : List Int) : List Int := l.foldl putI []
theorem setF_srtd : ∀ (l a : List Int), srtd a → srtd (l.foldl putI a) ∧ ∀ y, y ∈ l.foldl putI a ↔ (y ∈ a ∨ y ∈ l)
  | [], a, h => ⟨h, fun y => by simp⟩
  | x :: l, a, h => by
    have h1 := putI_srtd h x
    have h2 := setF_srtd l (putI a x) h1.1
    refine ⟨h2.1, fun y => ?_⟩
    rw [List.foldl_cons, h2.2 y, h1.2 y, List.mem_cons, or_assoc]
theorem setP_srtd (l : List Int) : srtd (setP l) ∧ ∀ y, y ∈ setP l ↔ y ∈ l := by
  have := setF_srtd l [] List.Pairwise.nil
  exact ⟨this.1, fun y => by rw [setP, this.2 y]; simp⟩
theorem places_set (u : Unf) (l : List Int) : placesI u l = setP (plK u l) := by
  unfold placesI setP plK
  rw [List.foldl_map]
theorem sort_perm (l : List Int) : (sortI l).Perm l := List.mergeSort_perm _ _
theorem sort_le (l : List Int) : (sortI l).Pairwise (fun a b => a ≤ b) := by
  have := List.pairwise_mergeSort (le := fun x y : Int => decide (x ≤ y)) (fun a b c h1 h2 => by have := of_decide_eq_true h1; have := of_decide_eq_true h2; exact decide_eq_true (by omega)) (fun a b => by
    by_cases h : a ≤ b
    · simp [h]
    · simp [h, show b ≤ a by omega]) l
  exact this.imp fun h => of_decide_eq_true h
theorem rising_srtd {l : List Int} {lo hi : Int} (h : rising l lo hi = true) : srtd l := by
  rw [srtd, List.pairwise_iff_getElem]
  intro i j hi hj hij
  exact rise_lt h j i hj hij
theorem srtd_nodup {l : List Int} (h : srtd l) : l.Nodup := h.imp fun q => by omega
theorem nodup_len : ∀ (l s : List Int), s.Nodup → (∀ x, x ∈ s → x ∈ l) → s.length ≤ l.length
  | [], s, _, h => by
    cases s with
    | nil => exact Nat.le_refl _
    | cons x s => have := h x List.mem_cons_self; cases this
  | a :: l, s, hs, h => by
    by_cases ha : a ∈ s
    · have := nodup_len l (s.erase a) (hs.erase a) (fun x hx => by
        have hx' := (hs.mem_erase_iff).1 hx
        rcases List.mem_cons.1 (h x hx'.2) with e | e
        · exact absurd e hx'.1
        · exact e)
      rw [List.length_erase_of_mem ha] at this
      rw [List.length_cons]; omega
    · have := nodup_len l s hs (fun x hx => by
        rcases List.mem_cons.1 (h x hx) with e | e
        · subst e; exact absurd hx ha
        · exact e)
      rw [List.length_cons]; omega
theorem nodup_full : ∀ (l s : List Int), s.Nodup → (∀ x, x ∈ s → x ∈ l) → s.length = l.length → l.Nodup
  | [], s, _, _, _ => List.nodup_nil
  | a :: l, s, hs, h, hl => by
    rw [List.length_cons] at hl
    have hsub : a ∉ s ∨ a ∈ l → ∀ x, x ∈ s → x ∈ l := by
      intro q x hx
      rcases List.mem_cons.1 (h x hx) with e | e
      · subst e
        rcases q with q | q
        · exact absurd hx q
        · exact q
      · exact e
    have hno : ¬ (a ∉ s ∨ a ∈ l) := fun q => by have := nodup_len l s hs (hsub q); omega
    have ha : a ∈ s := Classical.byContradiction fun q => hno (.inl q)
    rw [List.nodup_cons]
    refine ⟨fun q => hno (.inr q), nodup_full l (s.erase a) (hs.erase a) (fun x hx => ?_) (by rw [List.length_erase_of_mem ha]; omega)⟩
    have hx' := (hs.mem_erase_iff).1 hx
    rcases List.mem_cons.1 (h x hx'.2) with e | e
    · exact absurd e hx'.1
    · exact e
theorem perm_len_nodup {l : List Int} (h : (setP l).length = l.length) : l.Nodup :=
  nodup_full l (setP l) (srtd_nodup (setP_srtd l).1) (fun x hx => ((setP_srtd l).2 x).1 hx) h
/-- The places of the conditions are those of the transition: one way as the other. -/
theorem sort_set {l p : List Int} (hp : srtd p) : sortI l = p ↔ (l.length = p.length ∧ setP l = p) := by
  have hs := setP_srtd l
  constructor
  · intro h
    have hl : l.length = p.length := by rw [← h, sortI_len]
    refine ⟨hl, srtd_ext hs.1 hp fun x => ?_⟩
    rw [hs.2 x, ← h]
    exact (sort_perm l).mem_iff.symm
  · rintro ⟨hl, h⟩
    have hn : l.Nodup := perm_len_nodup (by rw [h]; omega)
    have hsn : (sortI l).Nodup := (sort_perm l).nodup_iff.2 hn
    have hso : srtd (sortI l) := by
      have := (sort_le l).and hsn
      exact this.imp fun ⟨h1, h2⟩ => by omega
    rw [← h]
    refine srtd_ext hso hs.1 fun x => ?_
    rw [hs.2 x]; exact (sort_perm l).mem_iff
/-- An event fits, one way as the other. -/
theorem fits_both {N : Net} {u : Unf} {L A : List ES} {h : Ev} (hN : NetS N) (hT : Tru u L A) : fitsJ N u L A h = fitsI N u h := by
  unfold fitsJ fitsI fitA fitA1
  by_cases hr : inR N h.t = true
  · by_cases hi : rising h.pre 0 ((u.cs.length : Int) - 1) = true
    · have hin : ∀ c, c ∈ h.pre → 0 ≤ c ∧ c < u.cs.length := fun c hc => by have := rising_in hi c hc; omega
      have hco := coset_tog hT hin (srtd_nodup (rising_srtd hi))
      have hpr := rising_srtd (hN.t _ (tAt_mem hr)).2.2.2.1
      have hss := sort_set (l := plK u h.pre) hpr
      rw [plK_len, ← places_set] at hss
      rw [hr, hi, hco, fitC, decide_eq_decide.2 hss]
      have : decide (h.pre.length = (tAt N h.t).pre.length ∧ placesI u h.pre = (tAt N h.t).pre) = (decide ((h.pre.length : Int) = ((tAt N h.t).pre.length : Int)) && decide (placesI u h.pre = (tAt N h.t).pre)) := by
        rw [← Bool.decide_and]; apply decide_eq_decide.2; constructor
        · rintro ⟨a, b⟩; exact ⟨by omega, b⟩
        · rintro ⟨a, b⟩; exact ⟨by omega, b⟩
      rw [this]
      cases decide ((h.pre.length : Int) = ((tAt N h.t).pre.length : Int)) <;> cases decide (placesI u h.pre = (tAt N h.t).pre) <;> cases fitB u h <;> cases togI u h.pre <;> rfl
    · rw [Bool.not_eq_true] at hi
      rw [hi]; cases inR N h.t <;> rfl
  · rw [Bool.not_eq_true] at hr
    rw [hr]; rfl
end Go.Proofs.YtgikfbfagdhopaaGreatDoor

set_option linter.all false
set_option maxRecDepth 20000
namespace Go.Proofs.YtgikfbfagdhopaaGreatDoor
open Go.RowKit

set_option maxHeartbeats 1000000 in
theorem eqConds_spec (a b : List Cond) (ha : a.length ≤ 2000000) (hb : b.length ≤ 2000000) : ASpec Tryz.prog 58 [.d (vCs a), .d (vCs b)] [] (Pure1 (aT (decide (a = b)))) := by
  refine ASpec.of Tryz.func58 rfl rfl fun C hC => ?_
  refine AC.seq ?_
  refine AC.region ?_
  refine AL.p (by exact as1 rfl) rfl ?_
  refine AL.nil ?_
  refine th_n ?_
  refine AC.seq ?_
  refine AC.seq ?_
  refine AC.region ?_
  refine AL.p (by exact mv1 rfl) rfl ?_
  refine AL.p (by exact g_len_view rfl rfl (by exact List.length_map _)) rfl ?_
  refine AL.p (by exact mv1 rfl) rfl ?_
  refine AL.p (by exact g_len_view rfl rfl (by exact List.length_map _)) rfl ?_
  refine AL.p (by exact g_cmp rfl rfl rfl) rfl ?_
  refine AL.nil ?_
  refine th_n ?_
  refine AC.condND rfl (fun h0 => ?_) (fun h0 => ?_)
  · refine AC.seq ?_
    refine AC.region ?_
    refine AL.p (by exact as1 rfl) rfl ?_
    refine AL.nil ?_
    refine th_n ?_
    refine AC.ret ?_
    refine th_r ?_
    refine bq_r ?_
    have hz : ¬ a = b := fun e => by rw [e] at h0; simp at h0
    exact ret1 rfl (by rw [decide_eq_false hz])
  · refine AC.skip ?_
    refine th_n ?_
    refine AC.seq ?_
    refine AC.seq ?_
    refine AC.region ?_
    refine AL.p (by exact mv1 rfl) rfl ?_
    refine AL.p (by exact g_len_view rfl rfl (by exact List.length_map _)) rfl ?_
    refine AL.p (by exact mv1 rfl) rfl ?_
    refine AL.nil ?_
    refine th_n ?_
    refine AC.block ?_
    refine AC.loop (ι := Nat) (fun k => ⟨26, 8, [(0, .d (vCs a)), (1, .d (vCs b)), (12, aI a.length), (13, aI k)], []⟩) (fun k => k ≤ a.length ∧ ∀ j, j < k → a[j]? = b[j]?) (fun k => a.length - k) (0) ?_ (⟨Nat.zero_le _, fun j hj => by omega⟩) ?_
    · refine Weak.ren _ [] hC rfl ?_ ?_ rfl rfl rfl <;> repeat (first | exact True.intro | refine And.intro ?_ ?_ | exact DLead.same)
    · intro q ⟨hq, hall⟩
      refine AC.seq ?_
      refine AC.region ?_
      refine AL.p (by exact g_cmp rfl rfl rfl) rfl ?_
      refine AL.nil ?_
      refine th_n ?_
      refine AC.seq ?_
      refine AC.condD rfl (fun h1 => ?_) (fun h1 => ?_)
      · refine AC.skip ?_
        refine th_n ?_
        refine AC.seq ?_
        refine AC.block ?_
        refine AC.seq ?_
        have hlen : a.length = b.length := by omega
        have hq1 : q < a.length := by omega
        have hq2 : q < b.length := by omega
        have hgetn := condsL_get hq1
        have hgetu := condsL_get hq2
        refine AC.region ?_
        refine AL.p (by exact mv1 rfl) rfl ?_
        refine AL.p (by exact as1 rfl) rfl ?_
        refine AL.nil ?_
        refine th_n ?_
        refine AC.seq ?_
        refine AC.drawn' mixed_ok [[], [], [0,1], [0,1,2], [], [], [4,5], [4,5,6], [0,1,2,3,4,5,6,7]] (by decide) ?_
        refine DF.op 0 [] 9 rfl rfl rfl (.free rfl (NOp.of (by exact mv1 rfl))) rfl ?_
        refine DF.op 1 [] 9 rfl rfl rfl (.free rfl (NOp.of (by exact mv1 rfl))) rfl ?_
        refine DF.op 2 [0,1] 9 rfl rfl rfl (.free rfl (NOp.of (by exact g_ia_view rfl rfl rfl rfl rfl (by rfl) (by assumption)))) rfl ?_
        refine DF.op 3 [0,1,2] 9 rfl rfl rfl (.free rfl (NOp.of (by exact g_load_refN rfl rfl rfl rfl))) rfl ?_
        refine DF.op 4 [] 9 rfl rfl rfl (.free rfl (NOp.of (by exact mv1 rfl))) rfl ?_
        refine DF.op 5 [] 9 rfl rfl rfl (.free rfl (NOp.of (by exact mv1 rfl))) rfl ?_
        refine DF.op 6 [4,5] 9 rfl rfl rfl (.free rfl (NOp.of (by exact g_ia_view rfl rfl rfl rfl rfl (by rfl) (by assumption)))) rfl ?_
        refine DF.op 7 [4,5,6] 9 rfl rfl rfl (.free rfl (NOp.of (by exact g_load_refN rfl rfl rfl rfl))) rfl ?_
        refine DF.op 8 [0,1,2,3,4,5,6,7] 9 rfl rfl rfl (.free rfl (NOp.of (by exact g_eq2 (by decide +kernel) rfl rfl rfl))) rfl ?_
        refine DF.fin (ps := [(0, 1), (0, 4), (0, 5), (0, 6), (0, 7), (1, 0), (1, 4), (1, 5), (1, 6), (1, 7), (2, 4), (2, 5), (2, 6), (2, 7), (3, 4), (3, 5), (3, 6), (3, 7), (4, 0), (4, 1), (4, 2), (4, 3), (4, 5), (5, 0), (5, 1), (5, 2), (5, 3), (5, 4), (6, 0), (6, 1), (6, 2), (6, 3), (7, 0), (7, 1), (7, 2), (7, 3)]) 9 rfl (by decide +kernel) (by decide +kernel) (by rfl) ?_
        refine th_n ?_
        refine AC.condND rfl (fun h2 => ?_) (fun h2 => ?_)
        · refine AC.seq ?_
          refine AC.region ?_
          refine AL.p (by exact as1 rfl) rfl ?_
          refine AL.nil ?_
          refine th_n ?_
          refine AC.ret ?_
          refine ib_r ?_
          refine th_r ?_
          refine th_r ?_
          refine ib_r ?_
          refine th_r ?_
          refine bq_r ?_
          exact ret1 rfl (by rw [decide_eq_false (cs_ne hq1 hq2 h2)])
        · refine AC.skip ?_
          refine ib_n ?_
          refine th_n ?_
          refine AC.region ?_
          refine AL.p (by exact g_arith rfl rfl rfl (by exact wrap_i64 (by omega))) rfl ?_
          refine AL.p (by exact mv1 rfl) rfl ?_
          refine AL.nil ?_
          refine th_n ?_
          exact ⟨q + 1, ⟨by omega, by exact cs_step hq1 hq2 hall h2⟩, by omega, Weak.ren _ [] hC rfl (by repeat (first | exact True.intro | refine And.intro ?_ ?_ | exact DLead.same)) (by repeat (exact True.intro)) rfl rfl rfl⟩
      · refine AC.exit ?_
        refine th_e ?_
        refine th_e ?_
        refine ib_y ?_
        refine th_n ?_
        refine AC.seq ?_
        refine AC.region ?_
        refine AL.p (by exact as1 rfl) rfl ?_
        refine AL.nil ?_
        refine th_n ?_
        refine AC.ret ?_
        refine bq_r ?_
        have hlen : a.length = b.length := by omega
        have hz : a = b := cs_all hlen (by omega) hall
        exact ret1 rfl (by rw [decide_eq_true hz])
theorem en_eqConds : Enters Tryz.prog 58 := enters_of Tryz.func58 rfl rfl
def runLA (N : Net) : Unf → List ES → List ES → List Ev → List ES × List ES
  | _, L, A, [] => (L, A)
  | u, L, A, h :: hs => runLA N (withI N u h) (addL u L h) (addA u A h) hs
def locL (N : Net) (m : List UInt8) (u : Unf) : List ES := (runLA N ⟨madeI N m, []⟩ [] [] u.es).1
def agaA (N : Net) (m : List UInt8) (u : Unf) : List ES := (runLA N ⟨madeI N m, []⟩ [] [] u.es).2
def brRes (N : Net) (m : List UInt8) (u : Unf) : AV → List (Nat × Chunk) → Prop := if goodU N m u = true then Fun1 (.tup [.ptr 0 0, aT true]) (brChs N u (locL N m u) (agaA N m u)) else Pure1 (.tup [.dead, aT false])
theorem brRes_t {N : Net} {m : List UInt8} {u : Unf} (h : goodU N m u = true) : brRes N m u = Fun1 (.tup [.ptr 0 0, aT true]) (brChs N u (locL N m u) (agaA N m u)) := if_pos h
theorem brRes_f {N : Net} {m : List UInt8} {u : Unf} (h : goodU N m u = false) : brRes N m u = Pure1 (.tup [.dead, aT false]) := if_neg (by rw [h]; exact Bool.false_ne_true)
theorem run_es {N : Net} : ∀ {hs : List Ev} {u now : Unf}, runI N u hs = some now → now.es = u.es ++ hs
  | [], u, now, h => by rw [runI] at h; cases h; exact (List.append_nil _).symm
  | x :: hs, u, now, h => by
    rw [runI] at h
    split at h
    · have := run_es h
      rw [this]; show (u.es ++ [x]) ++ hs = _
      rw [List.append_assoc]; rfl
    · cases h
theorem fits_in {N : Net} {u : Unf} {h : Ev} (hf : fitsI N u h = true) : (∀ c, c ∈ h.pre → 0 ≤ c ∧ c < u.cs.length) ∧ h.pre.Nodup := by
  have hr := fits_rising hf
  exact ⟨fun c hc => by have := rising_in hr c hc; omega, srtd_nodup (rising_srtd hr)⟩
theorem run_tru {N : Net} (hN : NetS N) : ∀ (hs : List Ev) (k : Nat) (u now : Unf) (L A : List ES), Now N k u → Tru u L A → k + hs.length ≤ 60 → runI N u hs = some now → Tru now (runLA N u L A hs).1 (runLA N u L A hs).2
  | [], k, u, now, L, A, hn, hT, hk, h => by rw [runI] at h; cases h; exact hT
  | x :: hs, k, u, now, L, A, hn, hT, hk, h => by
    rw [List.length_cons] at hk
    rw [runI] at h
    split at h
    · rename_i hf
      have h2 := hn.fit hN (by omega) hf
      have hi := fits_in hf
      have hu := hn.n
      exact run_tru hN hs (k + 1) _ now _ _ h2.1 (hT.add h2.1.w (by omega) hi.1 hi.2) (by omega) h
    · cases h
structure Good (N : Net) (m : List UInt8) (u : Unf) : Prop where
  n : NetS N
  q : (m.length : Int) = N.places
  b : bitsB m N.places = true
  e : u.es.length ≤ 60
  c : u.cs.length ≤ 200
  r : runI N ⟨madeI N m, []⟩ u.es = some u
theorem goodU_iff {N : Net} {m : List UInt8} {u : Unf} (h : goodU N m u = true) : Good N m u := by
  unfold goodU at h
  rw [Bool.and_eq_true, Bool.and_eq_true, Bool.and_eq_true] at h
  obtain ⟨⟨h1, h2⟩, h3, h4⟩ := h
  unfold limB at h3
  rw [Bool.and_eq_true, decide_eq_true_eq, decide_eq_true_eq] at h3
  have hm : (m.length : Int) = N.places := by have h5 := h2; unfold bitsB at h5; rw [Bool.and_eq_true, decide_eq_true_eq] at h5; exact h5.2
  refine ⟨good_S h1, hm, h2, by omega, by omega, ?_⟩
  cases hr : runI N ⟨madeI N m, []⟩ u.es with
  | none => rw [isU_none hr] at h4; cases h4
  | some now =>
    rw [isU_some hr, decide_eq_true_eq] at h4
    have he := run_es hr
    congr 1
    cases now; cases u
    simp only at h4 he
    rw [h4, he]; rfl
theorem Good.tru {N : Net} {m : List UInt8} {u : Unf} (h : Good N m u) : Tru u (locL N m u) (agaA N m u) :=
  run_tru h.n _ 0 _ _ _ _ (Now.zero h.n m) (Tru.zero h.n m) (by have := h.e; omega) h.r
set_option maxRecDepth 20000 in
set_option maxHeartbeats 8000000 in
theorem branchingOf_spec (N : Net) (m : List UInt8) (u : Unf) (hB : NetL N) (hm : m.length ≤ 2000000) (hu : UnfL u) : ASpec Tryz.prog 37 [netA N, aS (bstr m), unfA u] [] (brRes N m u) := by
  have hue := hu.e
  have huc := hu.c
  have hA0 := IsValidMarking_gen N m hB hm
  have hL0 := isFull_spec u hue huc
  obtain ⟨ask, hask⟩ : ∃ b, b = (goodN N && bitsB m N.places) := ⟨_, rfl⟩
  obtain ⟨lim, hlim⟩ : ∃ b, b = limB u := ⟨_, rfl⟩
  have hgu : goodU N m u = (ask && (lim && isU N m u)) := by rw [hask, hlim]; rfl
  have hask2 : ask = true → goodN N = true ∧ bitsB m N.places = true := by intro h; rw [hask, Bool.and_eq_true] at h; exact h
  have hlim2 : lim = true → u.es.length ≤ 60 ∧ u.cs.length ≤ 200 := by intro h; rw [hlim, limB, Bool.and_eq_true, decide_eq_true_eq, decide_eq_true_eq] at h; omega
  rw [← hask] at hA0
  rw [← hlim] at hL0
  refine ASpec.of Tryz.func37 rfl rfl fun C hC => ?_
  refine AC.seq ?_
  refine AC.region ?_
  refine AL.q (by exact h_boxF rfl rfl) rfl ?_
  refine AL.q (by exact h_boxF rfl rfl) rfl ?_
  refine AL.p (by exact as1 rfl) rfl ?_
  refine AL.p (by exact as1 rfl) rfl ?_
  refine AL.nil ?_
  refine th_n ?_
  refine AC.seq ?_
  refine AC.seq ?_
  refine AC.region ?_
  refine AL.p (by exact g_load_refN rfl rfl rfl rfl) rfl ?_
  refine AL.p (by exact mv1 rfl) rfl ?_
  refine AL.q (by exact h_pure en_IsValidMarking rfl rfl (by repeat (first | exact rfl | exact DLead.same | refine ⟨_, _, rfl, ?_, ?_⟩ | refine ⟨_, rfl, ?_⟩)) hA0 rfl) rfl ?_
  refine AL.p (by exact g_not rfl) rfl ?_
  refine AL.p (by exact mv1 rfl) rfl ?_
  refine AL.caseGB rfl rfl (fun h0 => ?_) (fun h0 => ?_)
  · refine AL.not rfl rfl rfl rfl rfl ?_
    refine AL.not rfl rfl rfl rfl rfl ?_
    refine AL.p (by exact g_pickT (r := .d _) rfl rfl) rfl ?_
    refine AL.nil ?_
    refine th_n ?_
    refine AC.condT rfl ?_
    refine AC.seq ?_
    refine AC.region ?_
    refine AL.p (by exact as1 rfl) rfl ?_
    refine AL.p (by exact as1 rfl) rfl ?_
    refine AL.nil ?_
    refine th_n ?_
    refine AC.ret ?_
    refine th_r ?_
    refine bq_r ?_
    have hz := and3_0 (b := lim) (c := isU N m u) h0
    rw [brRes_f (hgu.trans hz)]
    exact ret0 rfl (by repeat (first | exact rfl | exact DLead.same | exact True.intro | refine ⟨_, _, rfl, ?_, ?_⟩ | refine ⟨_, rfl, ?_⟩))
  · refine AL.yes rfl rfl rfl ?_
    refine AL.p (by exact g_load_refN rfl rfl rfl rfl) rfl ?_
    refine AL.yes rfl rfl rfl ?_
    refine AL.q (by exact h_pure en_isFull rfl rfl (by repeat (first | exact rfl | exact DLead.same | refine ⟨_, _, rfl, ?_, ?_⟩ | refine ⟨_, rfl, ?_⟩)) hL0 rfl) rfl ?_
    refine AL.p (by exact g_pickF (r := .d _) rfl rfl) rfl ?_
    refine AL.nil ?_
    refine th_n ?_
    refine AC.condB rfl (fun h1 => ?_) (fun h1 => ?_)
    · refine AC.seq ?_
      refine AC.region ?_
      refine AL.p (by exact as1 rfl) rfl ?_
      refine AL.p (by exact as1 rfl) rfl ?_
      refine AL.nil ?_
      refine th_n ?_
      refine AC.ret ?_
      refine th_r ?_
      refine bq_r ?_
      have hz := and3_1 (a := ask) (c := isU N m u) h1
      rw [brRes_f (hgu.trans hz)]
      exact ret0 rfl (by repeat (first | exact rfl | exact DLead.same | exact True.intro | refine ⟨_, _, rfl, ?_, ?_⟩ | refine ⟨_, rfl, ?_⟩))
    · refine AC.skip ?_
      refine th_n ?_
      refine AC.seq ?_
      have hat := (Bool.not_eq_false' _).mp h0
      have hlt := (Bool.not_eq_false' _).mp h1
      have hN := good_S (hask2 hat).1
      have hul := hlim2 hlt
      have hml : (m.length : Int) = N.places := by have h5 := (hask2 hat).2; unfold bitsB at h5; rw [Bool.and_eq_true, decide_eq_true_eq] at h5; exact h5.2
      have hM0 := newBr_spec N m hN hml
      have hNow0 := Now.zero hN m
      have hTru0 := Tru.zero hN m
      have hgi : goodU N m u = isU N m u := by rw [hgu, hat, hlt]; rfl
      have hNB := hN.B
      refine AC.region ?_
      refine AL.p (by exact g_load_refN rfl rfl rfl rfl) rfl ?_
      refine AL.p (by exact mv1 rfl) rfl ?_
      refine AL.q (by exact h_fun (cs := []) en_newBr rfl rfl (by repeat (first | exact rfl | exact DLead.same | refine ⟨_, _, rfl, ?_, ?_⟩ | refine ⟨_, rfl, ?_⟩)) (by repeat (exact True.intro)) hM0 rfl rfl rfl rfl) rfl ?_
      refine AL.p (by exact as3 rfl) rfl ?_
      refine AL.nil ?_
      refine th_n ?_
      refine AC.seq ?_
      refine AC.seq ?_
      refine AC.region ?_
      refine AL.p (by exact g_fa_ref rfl rfl rfl rfl rfl rfl) rfl ?_
      refine AL.p (by exact g_load_ref rfl rfl rfl) rfl ?_
      refine AL.p (by exact g_len_view rfl rfl (by exact List.length_map _)) rfl ?_
      refine AL.p (by exact mv1 rfl) rfl ?_
      refine AL.nil ?_
      refine th_n ?_
      refine AC.block ?_
      refine AC.loop (ι := Nat × Unf × List ES × List ES) (fun x => ⟨46, 136, [(3, .d (.ref (netD N))), (5, .d (.ref (unfD u))), (8, .ptr 100 0), (23, .d (vEs u.es)), (24, aI u.es.length), (25, aI x.1)], [(100, some (brC N 101 x.2.1.cs.length 102 x.2.1.es.length 103 x.2.2.1.length 104 x.2.2.2.length)), (101, some (.arr 71 2 (condsL x.2.1.cs))), (102, some (.arr 67 2 (evsL x.2.1.es))), (103, some (.arr 118 1 (esL x.2.2.1))), (104, some (.arr 118 1 (esL x.2.2.2)))]⟩) (fun x => x.1 ≤ u.es.length ∧ Now N x.1 x.2.1 ∧ Tru x.2.1 x.2.2.1 x.2.2.2 ∧ runI N x.2.1 (u.es.drop x.1) = runI N ⟨madeI N m, []⟩ u.es ∧ runLA N x.2.1 x.2.2.1 x.2.2.2 (u.es.drop x.1) = runLA N ⟨madeI N m, []⟩ [] [] u.es) (fun x => u.es.length - x.1) ((0, ⟨madeI N m, []⟩, [], [])) ?_ (⟨Nat.zero_le _, hNow0, hTru0, rfl, rfl⟩) ?_
      · exact Weak.ren _ [(100, _), (101, _), (102, _), (103, _), (104, _)] hC rfl (by repeat (first | exact True.intro | refine And.intro ?_ ?_ | exact DLead.same | exact rfl | refine ⟨_, rfl, ?_⟩)) (by repeat (first | exact True.intro | refine And.intro ?_ ?_ | exact DLead.same | exact rfl | refine ⟨_, _, rfl, rfl, ?_⟩ | refine ⟨_, rfl, ?_⟩ | refine ⟨_, _, rfl, ?_, ?_⟩)) rfl rfl rfl
      · rintro ⟨k, now, L, A⟩ ⟨hk, hnow, hT, hrun, hrla⟩
        dsimp only at hk hnow hT hrun hrla ⊢
        refine AC.seq ?_
        refine AC.region ?_
        refine AL.p (by exact g_cmp rfl rfl rfl) rfl ?_
        refine AL.nil ?_
        refine th_n ?_
        refine AC.seq ?_
        refine AC.condD rfl (fun h2 => ?_) (fun h2 => ?_)
        · refine AC.skip ?_
          refine th_n ?_
          refine AC.seq ?_
          refine AC.block ?_
          refine AC.seq ?_
          have hk1 : k < u.es.length := by omega
          have hget := evsL_get hk1
          have hnl := hnow.n
          have hlim5 : u.es[k].pre.length ≤ 2000000 := hu.l _ (List.getElem_mem hk1)
          have hF := brFits_spec N now L A u.es[k] hNB hT.w hlim5
          rw [fits_both hN hT] at hF
          rw [List.drop_eq_getElem_cons hk1] at hrun hrla
          obtain ⟨ft, hft⟩ : ∃ b, b = fitsI N now u.es[k] := ⟨_, rfl⟩
          rw [← hft] at hF
          refine AC.region ?_
          refine AL.p (by exact g_ia_view rfl rfl rfl rfl rfl (by rfl) (by assumption)) rfl ?_
          refine AL.p (by exact g_load_refN rfl rfl rfl rfl) rfl ?_
          refine AL.q (by exact h_alloc rfl) rfl ?_
          refine AL.q (by exact h_store rfl rfl rfl rfl rfl rfl) rfl ?_
          refine AL.nil ?_
          refine th_n ?_
          refine AC.seq ?_
          refine AC.seq ?_
          refine AC.region ?_
          refine AL.p (by exact mv3 rfl) rfl ?_
          refine AL.p (by exact g_load_ptrN rfl rfl rfl rfl rfl) rfl ?_
          refine AL.q (by exact h_borrow [100, 101, 102, 103, 104] en_brFits rfl rfl hF (br_lent [100, 101, 102, 103, 104] 100 101 102 103 104 rfl rfl rfl rfl rfl rfl rfl rfl rfl rfl (.cons (.agg (ds := evD u.es[k])) .nil)) rfl) rfl ?_
          refine AL.p (by exact g_not rfl) rfl ?_
          refine AL.nil ?_
          refine th_n ?_
          refine AC.condB rfl (fun h3 => ?_) (fun h3 => ?_)
          · refine AC.seq ?_
            refine AC.region ?_
            refine AL.p (by exact as1 rfl) rfl ?_
            refine AL.p (by exact as1 rfl) rfl ?_
            refine AL.nil ?_
            refine th_n ?_
            refine AC.ret ?_
            refine th_r ?_
            refine ib_r ?_
            refine th_r ?_
            refine th_r ?_
            refine ib_r ?_
            refine th_r ?_
            refine bq_r ?_
            have hff : fitsI N now u.es[k] = false := by rw [← hft]; exact (Bool.not_eq_true' _).mp h3
            rw [runI_no hff] at hrun
            rw [brRes_f (hgi.trans (isU_none hrun.symm))]
            exact ret0 rfl (by repeat (first | exact rfl | exact DLead.same | exact True.intro | refine ⟨_, _, rfl, ?_, ?_⟩ | refine ⟨_, rfl, ?_⟩))
          · refine AC.skip ?_
            refine th_n ?_
            have hff : fitsI N now u.es[k] = true := by rw [← hft]; exact (Bool.not_eq_false' _).mp h3
            rw [runI_yes hff] at hrun
            rw [runLA] at hrla
            obtain ⟨hnow2, hpl⟩ := hnow.fit hN (by omega) hff
            have hi := fits_in hff
            have hT2 := hT.add hnow2.w (by omega) hi.1 hi.2
            have hAd := brAdd_spec N now L A u.es[k] hNB hT.w (by omega) (by omega) (fits_inR hff) hi.1
            refine AC.region ?_
            refine AL.p (by exact mv3 rfl) rfl ?_
            refine AL.p (by exact g_load_ptrN rfl rfl rfl rfl rfl) rfl ?_
            refine AL.q (by exact h_fun (cs := [100, 101, 102, 103, 104]) en_brAdd rfl rfl (by repeat (first | exact rfl | exact DLead.same | refine ⟨_, _, rfl, ?_, ?_⟩ | refine ⟨_, rfl, ?_⟩)) (by repeat (first | exact True.intro | refine And.intro ?_ ?_ | exact DLead.same | exact rfl | refine ⟨_, _, rfl, rfl, ?_⟩ | refine ⟨_, rfl, ?_⟩ | refine ⟨_, _, rfl, ?_, ?_⟩)) hAd rfl rfl rfl rfl) rfl ?_
            refine AL.nil ?_
            refine ib_n ?_
            refine th_n ?_
            refine AC.region ?_
            refine AL.p (by exact g_arith rfl rfl rfl (by exact wrap_i64 (by omega))) rfl ?_
            refine AL.p (by exact mv1 rfl) rfl ?_
            refine AL.nil ?_
            refine th_n ?_
            exact ⟨(k + 1, withI N now u.es[k], addL now L u.es[k], addA now A u.es[k]), ⟨by show k + 1 ≤ _; omega, hnow2, hT2, hrun, hrla⟩, by show u.es.length - (k + 1) < u.es.length - k; omega, Weak.ren _ [(100, _), (101, _), (102, _), (103, _), (104, _)] hC rfl (by repeat (first | exact True.intro | refine And.intro ?_ ?_ | exact DLead.same | exact rfl | refine ⟨_, rfl, ?_⟩)) (by repeat (first | exact True.intro | refine And.intro ?_ ?_ | exact DLead.same | exact rfl | refine ⟨_, _, rfl, rfl, ?_⟩ | refine ⟨_, rfl, ?_⟩ | refine ⟨_, _, rfl, ?_, ?_⟩)) rfl rfl rfl⟩
        · refine AC.exit ?_
          refine th_e ?_
          refine th_e ?_
          refine ib_y ?_
          refine th_n ?_
          refine AC.seq ?_
          have hkk : k = u.es.length := by omega
          rw [hkk, List.drop_length] at hrun hrla
          have hU := isU_some hrun.symm
          have hncl := hnow.c
          have hgn : goodU N m u = decide (now.cs = u.cs) := by rw [hgi, hU]
          have hL : L = locL N m u := by unfold locL; rw [← hrla]; rfl
          have hA : A = agaA N m u := by unfold agaA; rw [← hrla]; rfl
          have hes : now.es = u.es := by have := run_es hrun.symm; exact this
          have hEq := eqConds_spec now.cs u.cs (by omega) (by omega)
          refine AC.drawn' mixed_ok [[], [], [1], [1,2], [1,2,3], [1,2,3,4], [], [6], [1,2,3,4,5,6,7], [0,1,2,3,4,5,6,7,8], [0,1,2,3,4,5,6,7,8,9]] (by decide) ?_
          refine DF.op 0 [] 11 rfl rfl rfl (.free rfl (NOp.of (by exact mv3 rfl))) rfl ?_
          refine DF.op 1 [] 11 rfl rfl rfl (.free rfl (NOp.of (by exact mv3 rfl))) rfl ?_
          refine DF.op 2 [1] 11 rfl rfl rfl (.free rfl (NOp.of (by exact g_nilP rfl))) rfl ?_
          refine DF.op 3 [1,2] 11 rfl rfl rfl (.free rfl (NOp.of (by exact g_fa_ptr rfl rfl rfl rfl rfl))) rfl ?_
          refine DF.op 4 [1,2,3] 11 rfl rfl rfl (.free rfl (NOp.of (by exact g_fa_ptr rfl rfl rfl rfl rfl))) rfl ?_
          refine DF.op 5 [1,2,3,4] 11 rfl rfl rfl (.free rfl (NOp.of (by exact g_load_ptr rfl rfl rfl rfl rfl))) rfl ?_
          refine DF.op 6 [] 11 rfl rfl rfl (.free rfl (NOp.of (by exact g_fa_ref rfl rfl rfl rfl rfl rfl))) rfl ?_
          refine DF.op 7 [6] 11 rfl rfl rfl (.free rfl (NOp.of (by exact g_load_ref rfl rfl rfl))) rfl ?_
          refine DF.op 8 [1,2,3,4,5,6,7] 11 rfl rfl rfl (.free rfl (by exact h_borrow [101] en_eqConds rfl rfl hEq (.cons (.of (.own rfl rfl (own_le _ _) (own_take _ _))) (.cons (.of .d) .nil)) rfl)) rfl ?_
          refine DF.op 9 [0,1,2,3,4,5,6,7,8] 11 rfl rfl rfl (.free rfl (NOp.of (by exact as3 rfl))) rfl ?_
          refine DF.op 10 [0,1,2,3,4,5,6,7,8,9] 11 rfl rfl rfl (.free rfl (NOp.of (by exact as1 rfl))) rfl ?_
          refine DF.fin (ps := [(0, 1), (0, 2), (0, 3), (0, 4), (0, 5), (0, 6), (0, 7), (0, 8), (1, 0), (1, 6), (1, 7), (2, 0), (2, 6), (2, 7), (3, 0), (3, 6), (3, 7), (4, 0), (4, 6), (4, 7), (5, 0), (5, 6), (5, 7), (6, 0), (6, 1), (6, 2), (6, 3), (6, 4), (6, 5), (7, 0), (7, 1), (7, 2), (7, 3), (7, 4), (7, 5), (8, 0)]) 11 rfl (by decide +kernel) (by decide +kernel) (by rfl) ?_
          refine th_n ?_
          refine AC.ret ?_
          refine bq_r ?_
          by_cases hz : now.cs = u.cs
          rotate_left
          rw [brRes_f (hgn.trans (decide_eq_false hz))]
          exact ret0 rfl (by rw [decide_eq_false hz]; repeat (first | exact rfl | exact DLead.same | exact True.intro | refine ⟨_, _, rfl, ?_, ?_⟩ | refine ⟨_, rfl, ?_⟩))
          have hnu : now = u := by cases now; cases u; simp only at hz hes; rw [hz, hes]
          rw [brRes_t (hgn.trans (decide_eq_true hz)), ← hL, ← hA]
          subst hnu
          exact retN [(0, _), (1, _), (2, _), (3, _), (4, _)] rfl (by rw [decide_eq_true hz]; repeat (first | exact rfl | exact DLead.same | refine ⟨_, _, rfl, ?_, ?_⟩ | refine ⟨_, rfl, ?_⟩)) (by repeat (first | exact True.intro | refine And.intro ?_ ?_ | exact DLead.same | exact rfl | refine ⟨_, _, rfl, rfl, ?_⟩ | refine ⟨_, rfl, ?_⟩ | refine ⟨_, _, rfl, ?_, ?_⟩)) rfl rfl
theorem en_branchingOf : Enters Tryz.prog 37 := enters_of Tryz.func37 rfl rfl
end Go.Proofs.YtgikfbfagdhopaaGreatDoor

set_option linter.all false
set_option maxRecDepth 20000
namespace Go.Proofs.YtgikfbfagdhopaaGreatDoor
open Go.RowKit

theorem iIsValidUnf_t (N : Net) (m : List UInt8) (u : Unf) (hB : NetL N) (hm : m.length ≤ 2000000) (hu : UnfL u) (hg : goodU N m u = true) : ASpec Tryz.prog 20 [netA N, aS (bstr m), unfA u] [] (Pure1 (aT true)) := by
  have hS := branchingOf_spec N m u hB hm hu
  rw [brRes_t hg] at hS
  refine ASpec.of Tryz.func20 rfl rfl fun C hC => ?_
  refine AC.seq ?_
  refine AC.region ?_
  refine AL.q (by exact h_boxF rfl rfl) rfl ?_
  refine AL.q (by exact h_boxF rfl rfl) rfl ?_
  refine AL.p (by exact as1 rfl) rfl ?_
  refine AL.nil ?_
  refine th_n ?_
  refine AC.seq ?_
  refine AC.region ?_
  refine AL.p (by exact g_load_refN rfl rfl rfl rfl) rfl ?_
  refine AL.p (by exact mv1 rfl) rfl ?_
  refine AL.p (by exact g_load_refN rfl rfl rfl rfl) rfl ?_
  refine AL.q (by exact h_fun (cs := []) en_branchingOf rfl rfl (by repeat (first | exact rfl | exact DLead.same | refine ⟨_, _, rfl, ?_, ?_⟩ | refine ⟨_, rfl, ?_⟩)) (by repeat (exact True.intro)) hS rfl rfl rfl rfl) rfl ?_
  refine AL.p (by exact mv5 rfl) rfl ?_
  refine AL.p (by exact g_extract (r := .ptr _ _) rfl rfl) rfl ?_
  refine AL.p (by exact g_extract (r := .d _) rfl rfl) rfl ?_
  refine AL.p (by exact as3 rfl) rfl ?_
  refine AL.p (by exact as1 rfl) rfl ?_
  refine AL.nil ?_
  refine th_n ?_
  refine AC.seq ?_
  refine AC.region ?_
  refine AL.p (by exact mv1 rfl) rfl ?_
  refine AL.p (by exact as1 rfl) rfl ?_
  refine AL.nil ?_
  refine th_n ?_
  refine AC.ret ?_
  refine bq_r ?_
  exact ret1 rfl rfl
theorem iIsValidUnf_f (N : Net) (m : List UInt8) (u : Unf) (hB : NetL N) (hm : m.length ≤ 2000000) (hu : UnfL u) (hg : goodU N m u = false) : ASpec Tryz.prog 20 [netA N, aS (bstr m), unfA u] [] (Pure1 (aT false)) := by
  have hS := branchingOf_spec N m u hB hm hu
  rw [brRes_f hg] at hS
  refine ASpec.of Tryz.func20 rfl rfl fun C hC => ?_
  refine AC.seq ?_
  refine AC.region ?_
  refine AL.q (by exact h_boxF rfl rfl) rfl ?_
  refine AL.q (by exact h_boxF rfl rfl) rfl ?_
  refine AL.p (by exact as1 rfl) rfl ?_
  refine AL.nil ?_
  refine th_n ?_
  refine AC.seq ?_
  refine AC.region ?_
  refine AL.p (by exact g_load_refN rfl rfl rfl rfl) rfl ?_
  refine AL.p (by exact mv1 rfl) rfl ?_
  refine AL.p (by exact g_load_refN rfl rfl rfl rfl) rfl ?_
  refine AL.q (by exact h_fun (cs := []) en_branchingOf rfl rfl (by repeat (first | exact rfl | exact DLead.same | refine ⟨_, _, rfl, ?_, ?_⟩ | refine ⟨_, rfl, ?_⟩)) (by repeat (exact True.intro)) hS rfl rfl rfl rfl) rfl ?_
  refine AL.p (by exact mv5 rfl) rfl ?_
  refine AL.p (by exact g_extract (r := .dead) rfl rfl) rfl ?_
  refine AL.p (by exact g_extract (r := .d _) rfl rfl) rfl ?_
  refine AL.p (by exact as9 rfl) rfl ?_
  refine AL.p (by exact as1 rfl) rfl ?_
  refine AL.nil ?_
  refine th_n ?_
  refine AC.seq ?_
  refine AC.region ?_
  refine AL.p (by exact mv1 rfl) rfl ?_
  refine AL.p (by exact as1 rfl) rfl ?_
  refine AL.nil ?_
  refine th_n ?_
  refine AC.ret ?_
  refine bq_r ?_
  exact ret1 rfl rfl
theorem en_iIsValidUnf : Enters Tryz.prog 20 := enters_of Tryz.func20 rfl rfl
theorem iIsValidUnf_spec (N : Net) (m : List UInt8) (u : Unf) (hB : NetL N) (hm : m.length ≤ 2000000) (hu : UnfL u) : ASpec Tryz.prog 20 [netA N, aS (bstr m), unfA u] [] (Pure1 (aT (goodU N m u))) := by
  cases hg : goodU N m u with
  | true => exact iIsValidUnf_t N m u hB hm hu hg
  | false => exact iIsValidUnf_f N m u hB hm hu hg
structure ArgN (N : Net) : Prop where
  p : -9223372036854775808 ≤ N.places ∧ N.places ≤ 9223372036854775807
  l : N.ts.length ≤ 9223372036854775807
  t : ∀ t, t ∈ N.ts → t.pre.length ≤ 9223372036854775807 ∧ t.post.length ≤ 9223372036854775807
structure ArgU (u : Unf) : Prop where
  c : u.cs.length ≤ 9223372036854775807
  l : u.es.length ≤ 9223372036854775807
  t : ∀ e, e ∈ u.es → e.pre.length ≤ 9223372036854775807
end Go.Proofs.YtgikfbfagdhopaaGreatDoor

set_option linter.all false
set_option maxRecDepth 20000
namespace Go.Proofs.YtgikfbfagdhopaaGreatDoor
open Go.ChangeShapes Go.WideShapes Go.ChangeAt Go.RowKit

section
variable {H : Type} {enc : TypeId × Value → H} {P : Program}
/-- A type of so many cells reads as data 'f a' with 'a' fit. -/
structure RT (enc : TypeId × Value → H) (P : Program) (t : TypeId) (k : Nat) {α : Type} (f : α → List DV) (ok : α → Prop) : Prop where
  rd : ∀ (W : World) (fuel : Nat) (cs : List Value) (x : DataW H × List MemPlace), DataW.trod enc P W 0 (fun _ => true) true fuel t cs = some x →
    cs.length = k ∧ ∃ a, ok a ∧ (f a).length = k ∧ ∀ j d, (f a)[j]? = some d → DRep (fun k => k < W.heap.size) W d (cs.getD j undef)
theorem get1 {x d : DV} {j : Nat} (h : [x][j]? = some d) : j = 0 ∧ d = x := by
  cases j with
  | zero => simp at h; exact ⟨rfl, h.symm⟩
  | succ j => simp at h
def okI (n : Int) : Prop := -9223372036854775808 ≤ n ∧ n ≤ 9223372036854775807
theorem RT.int {t : TypeId} (ht : P.underlying t = some (.int .i64)) : RT enc P t 1 (fun n : Int => [dI n]) okI := by
  refine ⟨fun W fuel cs x h => ?_⟩
  obtain ⟨n, rfl, rfl, hwf⟩ := DataW.trod_int ht h
  have hb := bounds_i64 hwf
  refine ⟨rfl, n, hb, rfl, fun j d hj => ?_⟩
  obtain ⟨rfl, rfl⟩ := get1 hj
  refine .val ?_
  show IntKind.i64.wrap n = n
  exact wrap_i64 hb
theorem RT.bool {t : TypeId} (ht : P.underlying t = some .bool) : RT enc P t 1 (fun b : Bool => [dT b]) (fun _ => True) := by
  refine ⟨fun W fuel cs x h => ?_⟩
  obtain ⟨b, rfl, rfl⟩ := DataW.trod_bool ht h
  exact ⟨rfl, b, trivial, rfl, fun j d hj => by obtain ⟨rfl, rfl⟩ := get1 hj; exact .val trivial⟩
theorem RT.str {t : TypeId} (ht : P.underlying t = some .string) : RT enc P t 1 (fun s : List UInt8 => [dS (bstr s)]) (fun s => s.length ≤ 9223372036854775807) := by
  refine ⟨fun W fuel cs x h => ?_⟩
  obtain ⟨s, rfl, rfl, hm⟩ := DataW.trod_string ht h
  have hsz : s.data.toList.length = s.size := by simp
  have he : bstr s.data.toList = s := by
    apply ByteArray.ext
    simp [bstr]
  refine ⟨rfl, s.data.toList, by rw [hsz]; exact hm, rfl, fun j d hj => ?_⟩
  simp only [he] at hj
  obtain ⟨rfl, rfl⟩ := get1 hj
  exact .val hm
theorem list_of {α : Type} {n : Nat} {Q : Nat → α → Prop} (h : ∀ i, i < n → ∃ a, Q i a) : ∃ l : List α, l.length = n ∧ ∀ i a, l[i]? = some a → Q i a := by
  induction n with
  | zero => exact ⟨[], rfl, fun i a h => by simp at h⟩
  | succ n ih =>
    obtain ⟨l, hl, hq⟩ := ih fun i hi => h i (by omega)
    obtain ⟨a, ha⟩ := h n (by omega)
    refine ⟨l ++ [a], by simp [hl], fun i b hb => ?_⟩
    by_cases hi : i < l.length
    · rw [List.getElem?_append_left hi] at hb; exact hq i b hb
    · rw [List.getElem?_append_right (by omega)] at hb
      have h0 : i - l.length = 0 := by
        by_cases e : i - l.length = 0
        · exact e
        · rw [List.getElem?_eq_none (by simp; omega)] at hb; cases hb
      rw [h0] at hb
      simp at hb; subst hb
      have : i = n := by omega
      subst this; exact ha
theorem RT.slice {t e : TypeId} {k : Nat} {α : Type} {f : α → List DV} {ok : α → Prop} (te : Nat) (ht : P.underlying t = some (.slice e)) (hc : P.cellsOf e = k) (hk : 0 < k) (hr : RT enc P e k f ok) :
    RT enc P t 1 (fun l : List α => [.view te k (l.map f)]) (fun l => l.length ≤ 9223372036854775807 ∧ ∀ a, a ∈ l → ok a) := by
  refine ⟨fun W fuel cs x h => ?_⟩
  rcases DataW.trod_slice ht h with ⟨rfl, _⟩ | ⟨a, len, cap, elems, rest, n, _, rfl, _, _, hl, hm, hlen, hel, hsp, _⟩
  · exact ⟨rfl, [], ⟨Nat.zero_le _, fun a ha => absurd ha List.not_mem_nil⟩, rfl, fun j d hj => by obtain ⟨rfl, rfl⟩ := get1 hj; exact .nil⟩
  · refine ⟨rfl, ?_⟩
    rw [hc] at hel hsp
    obtain ⟨hrl, hrs⟩ := hsp rfl
    -- every element up to the capacity is there
    have hcell : ∀ i, i < cap → ∃ cs', W.cells? 0 (a.add (i * k)) k = some cs' ∧ ∃ y, DataW.trod enc P W 0 (fun _ => true) true n e cs' = some y := by
      intro i hi
      by_cases hil : i < len
      · have h1 := hel i hil
        rw [List.getElem?_eq_getElem (by omega)] at h1
        obtain ⟨cs', h2, h3⟩ := Option.bind_eq_some_iff.1 h1
        exact ⟨cs', h2, _, h3⟩
      · have h1 := hrs (i - len) (by omega)
        rw [show len + (i - len) = i by omega, List.getElem?_eq_getElem (by omega)] at h1
        obtain ⟨cs', h2, h3⟩ := Option.bind_eq_some_iff.1 h1
        exact ⟨cs', h2, _, h3⟩
    by_cases hc0 : cap = 0
    · subst hc0
      have : len = 0 := by omega
      subst this
      exact ⟨[], ⟨Nat.zero_le _, fun a ha => absurd ha List.not_mem_nil⟩, rfl, fun j d hj => by obtain ⟨rfl, rfl⟩ := get1 hj; exact .empty⟩
    · obtain ⟨b, off, sp⟩ := a
      have hrow : ∀ i, i < cap → ∀ j, j < k → ∃ v, W.cell? (((⟨b, off, sp⟩ : Addr).add (i * k)).add j) = some v := by
        intro i hi j hj
        obtain ⟨cs', h1, _⟩ := hcell i hi
        obtain ⟨_, h2, h3⟩ := World.cells?_some h1
        rw [h3 j hj, List.getElem?_eq_getElem (by omega)]
        exact ⟨_, rfl⟩
      have h00 := hrow 0 (by omega) 0 hk
      have hsp0 : sp = none := by
        obtain ⟨v, hv⟩ := h00
        cases sp with
        | none => rfl
        | some q =>
          unfold World.cell? Addr.add at hv
          split at hv
          · split at hv <;> simp_all
          · cases hv
      subst hsp0
      have hadd : ∀ i j, ((⟨b, off, none⟩ : Addr).add (i * k)).add j = ⟨b, off + i * k + j, none⟩ := fun i j => by rw [Addr.add_mid, Addr.add_mid]
      simp only [hadd] at hrow
      obtain ⟨arr, e2, fz, hb⟩ : ∃ arr e2 fz, W.heap[b]? = some (.cells arr e2 fz) := by
        obtain ⟨v, hv⟩ := hrow 0 (by omega) 0 hk
        unfold World.cell? at hv
        split at hv
        · rename_i c e2 fz hb; exact ⟨c, e2, fz, hb⟩
        · cases hv
      have hget : ∀ q, W.cell? ⟨b, q, none⟩ = arr[q]? := by intro q; simp [World.cell?, hb]
      have hsz : off + cap * k ≤ arr.size := by
        obtain ⟨v, hv⟩ := hrow (cap - 1) (by omega) (k - 1) (by omega)
        rw [hget] at hv
        have := (Array.getElem?_eq_some_iff.1 hv).1
        obtain ⟨c, rfl⟩ : ∃ c, cap = c + 1 := ⟨cap - 1, by omega⟩
        rw [Nat.add_sub_cancel] at this
        rw [Nat.succ_mul]; omega
      have hall : ∀ i, i < len → ∃ a, ok a ∧ (f a).length = k ∧ ∀ j d, (f a)[j]? = some d → DRep (fun k => k < W.heap.size) W d (arr.getD (off + i * k + j) undef) := by
        intro i hi
        obtain ⟨cs', h1, y, h2⟩ := hcell i (by omega)
        obtain ⟨h3, a, h4, h5, h6⟩ := hr.rd W n cs' y h2
        obtain ⟨_, h7, h8⟩ := World.cells?_some h1
        refine ⟨a, h4, h5, fun j d hj => ?_⟩
        have hj1 := (List.getElem?_eq_some_iff.1 hj).1
        have h9 := h8 j (by omega)
        rw [hadd, hget] at h9
        have : arr.getD (off + i * k + j) undef = cs'.getD j undef := by
          rw [Array.getD_eq_getD_getElem?, h9, List.getD_eq_getElem?_getD]
        rw [this]
        exact h6 j d hj
      obtain ⟨l, hll, hq⟩ := list_of hall
      have hin : ∀ a, a ∈ l → ok a ∧ (f a).length = k := by
        intro a ha
        obtain ⟨i, hi⟩ := List.getElem?_of_mem ha
        exact ⟨(hq i a hi).1, (hq i a hi).2.1⟩
      refine ⟨l, ⟨by have : cap ≤ 9223372036854775807 := hm; omega, fun a ha => (hin a ha).1⟩, rfl, fun j d hj => ?_⟩
      obtain ⟨rfl, rfl⟩ := get1 hj
      have hle : (l.map f).length = len := by rw [List.length_map, hll]
      have hv := DRep.view (F := fun k => k < W.heap.size) (w := W) (e := te) (sz := k) (els := l.map f) (b := b) (off := off) (cap := cap) (arr := arr) (lt_of_block hb) hb (by omega) hm hsz (fun i cs hi => ?_) (fun i cs j d hi hj => ?_)
      · rw [hle] at hv; exact hv
      · rw [List.getElem?_map, Option.map_eq_some_iff] at hi
        obtain ⟨a, ha, rfl⟩ := hi
        exact (hin a (List.mem_of_getElem? ha)).2
      · rw [List.getElem?_map, Option.map_eq_some_iff] at hi
        obtain ⟨a, ha, rfl⟩ := hi
        exact (hq i a ha).2.2 j d hj
theorem RT.struct2 {t : TypeId} {f1 f2 : Field} {k1 k2 : Nat} {α β γ : Type} {fa : α → List DV} {fb : β → List DV} {oa : α → Prop} {ob : β → Prop} {fg : γ → List DV} {og : γ → Prop} (g : α → β → γ)
    (ht : P.underlying t = some (.struct #[f1, f2])) (h1 : f1.offset = 0) (h2 : f2.offset = k1) (hc1 : P.cellsOf f1.type = k1) (hc2 : P.cellsOf f2.type = k2) (hct : P.cellsOf t = k1 + k2)
    (r1 : RT enc P f1.type k1 fa oa) (r2 : RT enc P f2.type k2 fb ob) (hf : ∀ a b, fg (g a b) = fa a ++ fb b) (hg : ∀ a b, oa a → ob b → og (g a b)) : RT enc P t (k1 + k2) fg og := by
  refine ⟨fun W fuel cs x h => ?_⟩
  obtain ⟨xs, n, _, _, hl, hxl, hx⟩ := DataW.trod_struct ht h
  have hxl2 : xs.length = 2 := hxl
  have e1 := hx 0 f1 rfl
  have e2 := hx 1 f2 rfl
  rw [List.getElem?_eq_getElem (by omega)] at e1 e2
  rw [h1, hc1] at e1
  rw [h2, hc2] at e2
  obtain ⟨l1, a, ha, la, ra⟩ := r1.rd W n _ _ e1
  obtain ⟨l2, b, hb, lb, rb⟩ := r2.rd W n _ _ e2
  refine ⟨by omega, g a b, hg a b ha hb, by rw [hf, List.length_append]; omega, fun j d hj => ?_⟩
  rw [hf] at hj
  by_cases hj1 : j < k1
  · rw [List.getElem?_append_left (by omega)] at hj
    have := ra j d hj
    have e : ((cs.drop 0).take k1).getD j undef = cs.getD j undef := by
      rw [List.getD_eq_getElem?_getD, List.getD_eq_getElem?_getD, List.getElem?_take, if_pos hj1, List.drop_zero]
    rwa [e] at this
  · rw [List.getElem?_append_right (by omega), la] at hj
    have := rb _ d hj
    have hj2 := (List.getElem?_eq_some_iff.1 hj).1
    have e : ((cs.drop k1).take k2).getD (j - k1) undef = cs.getD j undef := by
      rw [List.getD_eq_getElem?_getD, List.getD_eq_getElem?_getD, List.getElem?_take, if_pos (by omega), List.getElem?_drop, show k1 + (j - k1) = j by omega]
    rwa [e] at this
theorem RT.imp {t : TypeId} {k : Nat} {α β : Type} {f : α → List DV} {ok : α → Prop} {f' : β → List DV} {ok' : β → Prop} (h : RT enc P t k f ok) (g : α → β) (hf : ∀ a, ok a → f' (g a) = f a) (ho : ∀ a, ok a → ok' (g a)) : RT enc P t k f' ok' :=
  ⟨fun W fuel cs x hx => by
    obtain ⟨h1, a, h2, h3, h4⟩ := h.rd W fuel cs x hx
    exact ⟨h1, g a, ho a h2, by rw [hf a h2]; exact h3, by rw [hf a h2]; exact h4⟩⟩
/-- An argument that is one cell. -/
theorem RT.arg1 {W : World} {t : TypeId} {α : Type} {f : α → List DV} {ok : α → Prop} {v : Value} {d : DataW H} {ps : List MemPlace} (h : RT enc P t 1 f ok) (hv : v.cells.toList = [v]) (ht : DataW.Trod enc P W 0 (fun _ => true) true t v d ps) :
    ∃ a, ok a ∧ ∀ x, f a = [x] → DRep (fun k => k < W.heap.size) W x v := by
  obtain ⟨fuel, ht⟩ := ht
  obtain ⟨_, a, h1, h2, h3⟩ := h.rd W fuel _ _ ht
  refine ⟨a, h1, fun x hx => ?_⟩
  rw [hx, hv] at h3
  exact h3 0 x rfl
/-- An argument that is a struct. -/
theorem RT.argS {m : Nat → Option (Option Nat × Nat)} {W : World} {t : TypeId} {k : Nat} {α : Type} {f : α → List DV} {ok : α → Prop} {cs : Array Value} {d : DataW H} {ps : List MemPlace} (h : RT enc P t k f ok) (ht : DataW.Trod enc P W 0 (fun _ => true) true t (.agg cs) d ps) :
    ∃ a, ok a ∧ ARep m (fun k => k < W.heap.size) W (.agg ((f a).map .d)) (.agg cs) := by
  obtain ⟨fuel, ht⟩ := ht
  obtain ⟨h0, a, h1, h2, h3⟩ := h.rd W fuel _ _ ht
  have h0' : cs.toList.length = k := h0
  have hd : ∀ j d, (f a)[j]? = some d → DRep (fun k => k < W.heap.size) W d (cs.getD j undef) := by
    intro j d hj
    have := h3 j d hj
    have e : (Value.agg cs).cells.toList.getD j undef = cs.getD j undef := by
      show cs.toList.getD j undef = _
      simp [List.getD_eq_getElem?_getD, Array.getD_eq_getD_getElem?]
    rwa [e] at this
  have hsz : cs.size = k := by simpa using h0'
  refine ⟨a, h1, .agg (by simp; omega) (fun i c hi => ?_) (fun i hi => ?_)⟩
  · rw [List.getElem?_map, Option.map_eq_some_iff] at hi
    obtain ⟨d, hd', rfl⟩ := hi
    exact .d (hd i d hd')
  · exact (hd i _ (List.getElem?_eq_getElem (by omega))).one
end
theorem cells_str (s : ByteArray) : (Value.string s).cells.toList = [Value.string s] := rfl
/-- Arguments one by one. -/
inductive AReps (m : Nat → Option (Option Nat × Nat)) (F : Nat → Prop) (W : World) : List AV → List Value → Prop
  | nil : AReps m F W [] []
  | cons {x : AV} {v : Value} {xs : List AV} {vs : List Value} : ARep m F W x v → AReps m F W xs vs → AReps m F W (x :: xs) (v :: vs)
theorem AReps.at {m : Nat → Option (Option Nat × Nat)} {F : Nat → Prop} {W : World} {xs : List AV} {vs : List Value} (h : AReps m F W xs vs) : ∀ (i : Nat) a, xs[i]? = some a → ARep m F W a (vs.toArray.getD i undef) := by
  have key : ∀ (i : Nat) a, xs[i]? = some a → ARep m F W a (vs.getD i undef) := by
    induction h with
    | nil => intro i a h; simp at h
    | cons h _ ih =>
      intro i a hi
      cases i with
      | zero => simp at hi; subst hi; exact h
      | succ i => simp at hi; exact ih i a hi
  intro i a hi
  have := key i a hi
  have e : vs.toArray.getD i undef = vs.getD i undef := by simp [List.getD_eq_getElem?_getD, Array.getD_eq_getD_getElem?]
  rwa [e]
end Go.Proofs.YtgikfbfagdhopaaGreatDoor

set_option maxRecDepth 100000
set_option linter.all false
set_option maxRecDepth 20000
namespace Go.Proofs.YtgikfbfagdhopaaGreatDoor
open Go.ChangeShapes Go.WideShapes Go.ChangeAt Go.RowKit

section
variable {H : Type} {enc : TypeId × Value → H}
theorem rt_int : RT enc Tryz.prog 3 1 (fun n : Int => [dI n]) okI := RT.int Tryz.underlying3
theorem rt_ints : RT enc Tryz.prog 58 1 (fun l : List Int => [vI l]) (fun l => l.length ≤ 9223372036854775807) :=
  (RT.slice 3 Tryz.underlying58 (by kernel_rfl) (by decide) rt_int).imp id (fun _ _ => rfl) (fun _ h => h.1)
theorem rt_tn : RT enc Tryz.prog 60 2 (fun t : Tn => tnD t) (fun t => t.pre.length ≤ 9223372036854775807 ∧ t.post.length ≤ 9223372036854775807) :=
  RT.struct2 (k1 := 1) (k2 := 1) (fun a b => (⟨a, b⟩ : Tn)) Tryz.underlying60 rfl rfl (by kernel_rfl) (by kernel_rfl) (by kernel_rfl) rt_ints rt_ints (fun _ _ => rfl) (fun _ _ h1 h2 => ⟨h1, h2⟩)
theorem rt_tns : RT enc Tryz.prog 22 1 (fun l : List Tn => [vLTs l]) (fun l => l.length ≤ 9223372036854775807 ∧ ∀ t, t ∈ l → t.pre.length ≤ 9223372036854775807 ∧ t.post.length ≤ 9223372036854775807) :=
  RT.slice 60 Tryz.underlying22 (by kernel_rfl) (by decide) rt_tn
theorem rt_net : RT enc Tryz.prog 24 2 (fun n : Net => [dI n.places, vLTs n.ts]) ArgN :=
  RT.struct2 (k1 := 1) (k2 := 1) (fun a b => (⟨a, b⟩ : Net)) Tryz.underlying24 rfl rfl (by kernel_rfl) (by kernel_rfl) (by kernel_rfl) rt_int rt_tns (fun _ _ => rfl) (fun _ _ h1 h2 => ⟨h1, h2.1, h2.2⟩)
theorem rt_cond : RT enc Tryz.prog 77 2 (fun c : Cond => condD c) (fun _ => True) :=
  RT.struct2 (k1 := 1) (k2 := 1) (fun a b => (⟨a, b⟩ : Cond)) Tryz.underlying77 rfl rfl (by kernel_rfl) (by kernel_rfl) (by kernel_rfl) rt_int rt_int (fun _ _ => rfl) (fun _ _ _ _ => trivial)
theorem rt_conds : RT enc Tryz.prog 25 1 (fun l : List Cond => [vLCs l]) (fun l => l.length ≤ 9223372036854775807) :=
  (RT.slice 77 Tryz.underlying25 (by kernel_rfl) (by decide) rt_cond).imp id (fun _ _ => rfl) (fun _ h => h.1)
theorem rt_ev : RT enc Tryz.prog 63 2 (fun e : Ev => evD e) (fun e => e.pre.length ≤ 9223372036854775807) :=
  RT.struct2 (k1 := 1) (k2 := 1) (fun a b => (⟨a, b⟩ : Ev)) Tryz.underlying63 rfl rfl (by kernel_rfl) (by kernel_rfl) (by kernel_rfl) rt_int rt_ints (fun _ _ => rfl) (fun _ _ _ h => h)
theorem rt_evs : RT enc Tryz.prog 26 1 (fun l : List Ev => [vLEs l]) (fun l => l.length ≤ 9223372036854775807 ∧ ∀ e, e ∈ l → e.pre.length ≤ 9223372036854775807) :=
  RT.slice 63 Tryz.underlying26 (by kernel_rfl) (by decide) rt_ev
theorem rt_unf : RT enc Tryz.prog 28 2 (fun u : Unf => [vLCs u.cs, vLEs u.es]) ArgU :=
  RT.struct2 (k1 := 1) (k2 := 1) (fun a b => (⟨a, b⟩ : Unf)) Tryz.underlying28 rfl rfl (by kernel_rfl) (by kernel_rfl) (by kernel_rfl) rt_conds rt_evs (fun _ _ => rfl) (fun _ _ h1 h2 => ⟨h1, h2.1, h2.2⟩)
theorem rt_str : RT enc Tryz.prog 9 1 (fun s : List UInt8 => [dS (bstr s)]) (fun s => s.length ≤ 9223372036854775807) := RT.str Tryz.underlying9
theorem arg_net {m : Nat → Option (Option Nat × Nat)} {base : Nat} {W : World} {v : Value} {d : DataW H} {ps : List MemPlace} (hv : Value.okWide Tryz.prog W .any base 24 v) (h : DataW.Trod enc Tryz.prog W 0 (fun _ => true) true 24 v d ps) : ∃ n : Net, ArgN n ∧ ARep m (fun k => k < W.heap.size) W (lnetA n) v := by
  obtain ⟨cs, rfl, _⟩ := okWide_struct Tryz.underlying24 hv
  exact rt_net.argS h
theorem arg_unf {m : Nat → Option (Option Nat × Nat)} {base : Nat} {W : World} {v : Value} {d : DataW H} {ps : List MemPlace} (hv : Value.okWide Tryz.prog W .any base 28 v) (h : DataW.Trod enc Tryz.prog W 0 (fun _ => true) true 28 v d ps) : ∃ u : Unf, ArgU u ∧ ARep m (fun k => k < W.heap.size) W (lunfA u) v := by
  obtain ⟨cs, rfl, _⟩ := okWide_struct Tryz.underlying28 hv
  exact rt_unf.argS h
theorem arg_str {m : Nat → Option (Option Nat × Nat)} {base : Nat} {W : World} {v : Value} {d : DataW H} {ps : List MemPlace} (hv : Value.okWide Tryz.prog W .any base 9 v) (h : DataW.Trod enc Tryz.prog W 0 (fun _ => true) true 9 v d ps) : ∃ s : List UInt8, s.length ≤ 9223372036854775807 ∧ ARep m (fun k => k < W.heap.size) W (aS (bstr s)) v := by
  obtain ⟨s, rfl⟩ := okWide_string Tryz.underlying9 hv
  obtain ⟨a, h1, h2⟩ := rt_str.arg1 (cells_str s) h
  exact ⟨a, h1, .d (h2 _ rfl)⟩
end
end Go.Proofs.YtgikfbfagdhopaaGreatDoor

set_option linter.all false
set_option maxRecDepth 20000
namespace Go.Proofs.YtgikfbfagdhopaaGreatDoor
open Go.RowKit

section
variable {P : Program} [PT P]
variable {s : ASt} {dst : Option Nat} {ty : Nat} {pos : String} {af : Array Edge} {gd : Option (Nat × Bool)} {x y : Operand} {t : Nat}
theorem g_saddB {a b : List UInt8} {xt yt : Nat} (hx : s.ev x = aS (bstr a)) (hy : s.ev y = aS (bstr b)) (hl : a.length + b.length ≤ 4611686018427387904) : GOp P [] s ⟨dst, .binOp .add xt x y yt, ty, pos, af, gd⟩ (aS (bstr (a ++ b))) := by
  rw [← bstr_append]
  exact g_sadd hx hy (by rw [bstr_size, bstr_size]; omega)
end
/-- A library function of one number that gives a text. -/
theorem ASpec.ofNum {P : Program} {g : FuncId} {n : Int} {b : ByteArray} (hb : b.size ≤ 1000) (h : ∀ w, Calls P g #[.int .i64 n] w fun e w' => e = .returned (.string b) ∧ w' = w) : ASpec P g [aI n] [] (Pure1 (aS b)) := by
  intro w m Fin vs hfin hn ha hch hinj hm
  have h0 := ha 0 _ rfl
  have hv : vs = #[.int .i64 n] := by
    apply Array.ext
    · rw [hn]; rfl
    · intro i hi1 hi2
      match i with
      | 0 => have := h0.val_eq.1; rw [Array.getD_eq_getD_getElem?, Array.getElem?_eq_getElem hi1] at this; simpa using this
      | i + 1 => simp at hi2
  subst hv
  refine (h w).mono ?_
  rintro e w' ⟨rfl, rfl⟩
  refine ⟨_, _, [], m, Fin, rfl, ⟨rfl, rfl⟩, fun _ _ _ h => h, fun id hid => hm id (by simp only [List.length_nil] at hid ⊢; omega), fun k => ?_, ⟨rfl, rfl, rfl, Nat.le_refl _, fun _ _ _ => rfl⟩, .d (.val (by show b.size ≤ maxLen; simp only [maxLen]; omega)), fun id c hc => by simp [getL] at hc, fun id id' c c' p p' b hc => by simp [getL] at hc⟩
  constructor
  · intro hk
    exact ⟨.inl hk, (hfin k hk).1, fun id c p hc => by simp [getL] at hc⟩
  · rintro ⟨h | ⟨id, c, p, hc, _⟩ | h, hlt, _⟩
    · exact h
    · simp [getL] at hc
    · omega
/-- strings.Join of a list of texts that is not empty. -/
theorem ASpec.ofJoin {P : Program} {g : FuncId} {te : Nat} {xs : List ByteArray} {sep b : ByteArray} (h0 : xs ≠ []) (hx : xs.length ≤ 1000000) (hb : b.size ≤ 70368744177664)
    (h : ∀ (bk o c : Nat) (w : World), (∀ (j : Nat) x, xs[j]? = some x → w.cell? ⟨bk, o + j, none⟩ = some (.string x)) → bk < w.heap.size → xs.length ≤ 140737488355328 → xs.length ≤ c → Calls P g #[.slice (some ⟨bk, o, none⟩) xs.length c, .string sep] w fun e w' => e = .returned (.string b) ∧ Below w.heap.size w w') :
    ASpec P g [.d (.view te 1 (xs.map fun x => [dS x])), aS sep] [] (Pure1 (aS b)) := by
  intro w m Fin vs hfin hn ha hch hinj hm
  have hv0 := ha 0 _ rfl
  have hv1 := ha 1 _ rfl
  have hv : vs = #[vs.getD 0 undef, .string sep] := by
    apply Array.ext
    · rw [hn]; rfl
    · intro i hi1 hi2
      match i with
      | 0 => simp [Array.getD_eq_getD_getElem?, Array.getElem?_eq_getElem hi1]
      | 1 => have := hv1.val_eq.1; rw [Array.getD_eq_getD_getElem?, Array.getElem?_eq_getElem hi1] at this; simpa using this
      | i + 2 => simp at hi2; omega
  generalize vs.getD 0 undef = v0 at hv0 hv
  subst hv
  have hpos : 0 < xs.length := List.length_pos_iff.2 h0
  cases hv0 with
  | d hd =>
    generalize hels : (xs.map fun x => [dS x]) = els at hd
    have hlen : els.length = xs.length := by rw [← hels, List.length_map]
    cases hd with
    | nil => rw [List.length_nil] at hlen; omega
    | empty => rw [List.length_nil] at hlen; omega
    | view hF hbk g1 g2 g3 g4 g5 =>
      rename_i e2 bk off cap arr fz
      have hcells : ∀ (j : Nat) x, xs[j]? = some x → w.cell? ⟨bk, off + j, none⟩ = some (.string x) := by
        intro j x hj
        have hjl := (List.getElem?_eq_some_iff.1 hj).1
        have hd := g5 j [dS x] 0 (dS x) (by rw [← hels, List.getElem?_map, hj]; rfl) rfl
        have e5 := hd.val_is.1
        rw [Nat.mul_one, Nat.add_zero] at e5
        have hlt : off + j < arr.size := by omega
        unfold World.cell?
        simp only [hbk, Option.isSome_none, Bool.false_eq_true, if_false]
        rw [Array.getD_eq_getD_getElem?, Array.getElem?_eq_getElem hlt] at e5
        rw [Array.getElem?_eq_getElem hlt]
        simp only [Option.getD_some] at e5
        rw [e5]
      have hblt : bk < w.heap.size := lt_of_block hbk
      have hcap : xs.length ≤ cap := by omega
      have := h bk off cap w hcells hblt (by omega) hcap
      rw [← hlen] at this
      refine this.mono ?_
      rintro e w' ⟨rfl, hB⟩
      refine ⟨_, _, [], m, fun k => (Fin k ∨ (∃ id c p, getL id ([] : List (Nat × Chunk)) = some c ∧ m id = some p ∧ occ p c k) ∨ w.heap.size ≤ k) ∧ k < w'.heap.size ∧ ∀ id c p, getL id ([] : List (Nat × Chunk)) = some c → m id = some p → ¬ occ p c k, rfl, ⟨rfl, rfl⟩, fun _ _ _ h => h, fun id hid => hm id (by simp only [List.length_nil] at hid ⊢; omega), fun k => Iff.rfl, ⟨hB.os, hB.tape, hB.output, hB.size, fun k hk _ => hB.block k hk⟩, .d (.val (by show b.size ≤ maxLen; simp only [maxLen]; omega)), fun id c hc => by simp [getL] at hc, fun id id' c c' p p' b hc => by simp [getL] at hc⟩
end Go.Proofs.YtgikfbfagdhopaaGreatDoor

set_option linter.all false
set_option maxRecDepth 20000
namespace Go.Proofs.YtgikfbfagdhopaaGreatDoor
open Go.RowKit

/-- A contract at the worlds of which I is so. -/
def ASpecI (I : World → Prop) (P : Program) (f : FuncId) (args : List AV) (chs : List (Nat × Chunk)) (R : AV → List (Nat × Chunk) → Prop) : Prop :=
  ∀ (w : World) (m : Nat → Option (Option Nat × Nat)) (Fin : Nat → Prop) (vs : Array Value), I w →
    (∀ k, Fin k → k < w.heap.size ∧ ∀ id c p, getL id chs = some c → m id = some p → ¬ occ p c k) →
    vs.size = args.length → (∀ (i : Nat) x, args[i]? = some x → ARep m Fin w x (vs.getD i undef)) →
    (∀ id c, getL id chs = some c → id < chs.length ∧ ∃ p, m id = some p ∧ CRep m Fin w p c) →
    (∀ id id' c c' p p' b, getL id chs = some c → getL id' chs = some c' → m id = some p → m id' = some p' → occ p c b → occ p' c' b → id = id') →
    (∀ id, chs.length ≤ id → m id = none) →
    Calls P f vs w fun e w' => ∃ v r chs' m' F', e = .returned v ∧ R r chs' ∧
      (∀ id p, id < chs.length → m id = some p → m' id = some p) ∧ (∀ id, chs.length + 8 ≤ id → m' id = none) ∧
      (∀ k, F' k ↔ (Fin k ∨ (∃ id c p, getL id chs = some c ∧ m id = some p ∧ occ p c k) ∨ w.heap.size ≤ k) ∧ k < w'.heap.size ∧ ∀ id c p, getL id chs' = some c → m' id = some p → ¬ occ p c k) ∧
      (w'.os = w.os ∧ w'.tape = w.tape ∧ w'.output = w.output ∧ w.heap.size ≤ w'.heap.size ∧ ∀ k, k < w.heap.size → (∀ id c p, getL id chs = some c → m id = some p → ¬ occ p c k) → w'.heap[k]? = w.heap[k]?) ∧
      ARep m' F' w' r v ∧
      (∀ id c, getL id chs' = some c → ∃ p, m' id = some p ∧ CRep m' F' w' p c ∧ ∀ b, occ p c b → w.heap.size ≤ b ∨ ∃ id0 c0 p0, getL id0 chs = some c0 ∧ m id0 = some p0 ∧ occ p0 c0 b) ∧
      (∀ id id' c c' p p' b, getL id chs' = some c → getL id' chs' = some c' → m' id = some p → m' id' = some p' → occ p c b → occ p' c' b → id = id')
structure NOpRI (C : Ctx) (P : Program) (ids : List Nat) (s : ASt) (o : Oper) (f : Nat) (Us : Upd → Prop) : Prop where
  run : ∀ s', Agr ids o s s' → ∀ U U' a w m, RelM C U s' a w m → (∀ k, k < 8 → U (f + k)) → (∀ j, U' j → U j ∧ (j < f ∨ f + 8 ≤ j)) → dstOk o.dst s'.n = true → ∀ K Q, (∀ u, Us u → ∀ a' w' m', RelM C U' (s'.app o.dst u) a' w' m' → K a' w') → o.wp P a w K Q
section
variable {P : Program} [PT P]
set_option maxHeartbeats 1000000 in
theorem ASpecI.of {I : World → Prop} {f : FuncId} {fn : Func} {c : Code} {args : List AV} {chs : List (Nat × Chunk)} {R : AV → List (Nat × Chunk) → Prop} (hf : P.funcs[f]? = some fn) (hb : fn.body = some c) (hn : Nat.ble args.length fn.ntmps = true)
    (hcl : ∀ w w', I w → (∀ k, k < w.heap.size → w'.heap[k]? = w.heap[k]?) → I w') (h : ∀ C : Ctx, C.k = chs.length → (chs = [] → ∀ w', Fr C.S C.w w' → I w') → ACode P C c (BodyQ P fn chs.length R) (entry fn.ntmps args chs)) : ASpecI I P f args chs R := by
  intro w m Fin vs hIw hFin hsz hargs hchs hinj hun
  have hn : args.length ≤ fn.ntmps := by simpa using hn
  have hkey : ∀ (l : List (Nat × Chunk)) id, (∃ c, (id, c) ∈ l) → ∃ c, getL id l = some c := by
    intro l id ⟨c, hc⟩
    induction l with
    | nil => cases hc
    | cons q l ih =>
      obtain ⟨j, d⟩ := q
      rw [getL_cons]
      by_cases hij : id = j
      · exact ⟨d, by rw [if_pos hij]⟩
      · rw [if_neg hij]
        rcases List.mem_cons.1 hc with h | h
        · simp only [Prod.mk.injEq] at h; exact absurd h.1 hij
        · exact ih h
  have hmem : ∀ (l : List (Nat × Chunk)) id c, getL id l = some c → (id, c) ∈ l := by
    intro l id c hc
    induction l with
    | nil => simp [getL] at hc
    | cons q l ih =>
      obtain ⟨j, d⟩ := q
      rw [getL_cons] at hc
      split at hc
      · rename_i e; simp only [Option.some.injEq] at hc; subst e; subst hc; simp
      · exact List.mem_cons_of_mem _ (ih hc)
  obtain ⟨S, hS⟩ : ∃ S : List Nat, ∀ b, b ∈ S ↔ ∃ id c p, getL id chs = some c ∧ m id = some p ∧ occ p c b := by
    classical
    refine ⟨(List.range w.heap.size).filter fun b => decide (∃ id c p, getL id chs = some c ∧ m id = some p ∧ occ p c b), fun b => ?_⟩
    rw [List.mem_filter, decide_eq_true_eq, List.mem_range]
    refine ⟨fun h => h.2, fun h => ⟨?_, h⟩⟩
    obtain ⟨id, c, p, h1, h2, h3⟩ := h
    obtain ⟨_, q, hq, hr⟩ := hchs id c h1
    rw [h2] at hq
    obtain rfl : p = q := by simpa using hq
    exact hr.lt h3
  have hchunk : ∀ id, (entry fn.ntmps args chs).chunk id = getL id chs := fun id => getL_chL id chs
  have hget : ∀ i, (entry fn.ntmps args chs).get i = (args[i]?).getD .dead := fun i => by
    show (getL i (slL 0 args)).getD .dead = _
    rw [getL_slL]; simp
  have hR0 : RelM ⟨w, Fin, S, m, chs.length⟩ (fun id => chs.length ≤ id) (entry fn.ntmps args chs) { tmps := vs ++ Array.replicate (fn.ntmps - vs.size) undef, defers := [] } w m := by
    have hF0 : ∀ k, Fin k → Fz ⟨w, Fin, S, m, chs.length⟩ m (entry fn.ntmps args chs) w k := fun k hk => ⟨.inl hk, (hFin k hk).1, fun id c p hc hp => (hFin k hk).2 id c p (by rw [← hchunk]; exact hc) hp⟩
    refine ⟨Fr.refl _ _, fun k hk => ⟨(hFin k hk).1, fun hkS => ?_⟩, ?_, fun i => ?_, fun id c hc => ?_, fun id id' c c' p p' h1 h2 hp hp' b hb hb' => ?_, hun, rfl, MLe.refl m, hun⟩
    · obtain ⟨id, c, p, h1, h2, h3⟩ := (hS k).1 hkS
      exact (hFin k hk).2 id c p h1 h2 h3
    · show (vs ++ Array.replicate (fn.ntmps - vs.size) undef).size = fn.ntmps
      simp; omega
    · rw [hget]
      cases hx : args[i]? with
      | none => exact .dead
      | some x =>
        have hi := (List.getElem?_eq_some_iff.1 hx).1
        have : (vs ++ Array.replicate (fn.ntmps - vs.size) undef).getD i undef = vs.getD i undef := by
          simp [Array.getD_eq_getD_getElem?, Array.getElem?_append, show i < vs.size by omega]
        show ARep _ _ _ x ((vs ++ Array.replicate (fn.ntmps - vs.size) undef).getD i undef)
        rw [this]
        exact (hargs i x hx).turn (MLe.refl m) (fun k hk _ => ⟨hF0 k hk, rfl⟩)
    · rw [hchunk] at hc
      obtain ⟨_, p, hp, hr⟩ := hchs id c hc
      exact ⟨p, hp, hr.turn (MLe.refl m) (fun k hk _ => ⟨hF0 k hk, rfl⟩) (fun _ _ => rfl), fun b hb => .inl ((hS b).2 ⟨id, c, p, hc, hp, hb⟩)⟩
    · rw [hchunk] at h1 h2
      exact hinj id id' c c' p p' b h1 h2 hp hp' hb hb'
  refine calls_of_wp hf hb (Go.wp_mono ((h ⟨w, Fin, S, m, chs.length⟩ rfl (fun h0 w1 hfr => hcl w w1 hIw fun k hk => hfr.block k hk (fun hkS => by obtain ⟨id, c, p, h1, _⟩ := (hS k).1 hkS; rw [h0] at h1; simp [getL] at h1))).run _ w ⟨m, hR0⟩) ?_)
  rintro e a w' ⟨s, ⟨mm, hR⟩, hq⟩
  have main : RetQ P fn chs.length R s → a.defers = [] ∧ ∃ v, (results fn a.tmps).run P w' = .ok v w' ∧ ∃ v1 r chs' m' F', Ending.returned v = .returned v1 ∧ R r chs' ∧
      (∀ id p, id < chs.length → m id = some p → m' id = some p) ∧ (∀ id, chs.length + 8 ≤ id → m' id = none) ∧
      (∀ k, F' k ↔ (Fin k ∨ (∃ id c p, getL id chs = some c ∧ m id = some p ∧ occ p c k) ∨ w.heap.size ≤ k) ∧ k < w'.heap.size ∧ ∀ id c p, getL id chs' = some c → m' id = some p → ¬ occ p c k) ∧
      (w'.os = w.os ∧ w'.tape = w.tape ∧ w'.output = w.output ∧ w.heap.size ≤ w'.heap.size ∧ ∀ k, k < w.heap.size → (∀ id c p, getL id chs = some c → m id = some p → ¬ occ p c k) → w'.heap[k]? = w.heap[k]?) ∧
      ARep m' F' w' r v1 ∧
      (∀ id c, getL id chs' = some c → ∃ p, m' id = some p ∧ CRep m' F' w' p c ∧ ∀ b, occ p c b → w.heap.size ≤ b ∨ ∃ id0 c0 p0, getL id0 chs = some c0 ∧ m id0 = some p0 ∧ occ p0 c0 b) ∧
      (∀ id id' c c' p p' b, getL id chs' = some c → getL id' chs' = some c' → m' id = some p → m' id' = some p' → occ p c b → occ p' c' b → id = id') := by
    rintro ⟨⟨x, r, chs', ρ, hx, hRr, hlead, hch', hsig, hsinj⟩⟩
    obtain ⟨v, hv, hvr⟩ := results_run hR hx
    refine ⟨hR.defers, v, hv, v, r, chs', fun id => (sig chs.length ρ id).bind mm, fun k => (Fin k ∨ (∃ id c p, getL id chs = some c ∧ m id = some p ∧ occ p c k) ∨ w.heap.size ≤ k) ∧ k < w'.heap.size ∧ ∀ id c p, getL id chs' = some c → (sig chs.length ρ id).bind mm = some p → ¬ occ p c k, rfl, hRr, ?_, ?_, fun k => Iff.rfl, ?_, ?_, ?_, ?_⟩
    · intro id p hid hp
      have : sig chs.length ρ id = some id := by
        unfold sig
        have : Nat.blt id chs.length = true := by simpa using hid
        rw [this]; rfl
      simp only [this, Option.bind_some]
      exact hR.m0 id p hp
    · intro id hid
      simp only [hsig id hid, Option.bind_none]
    · refine ⟨hR.fr.os, hR.fr.tape, hR.fr.output, hR.fr.size, fun k hk hn => hR.fr.block k hk (fun hkS => ?_)⟩
      obtain ⟨id, c, p, h1, h2, h3⟩ := (hS k).1 hkS
      exact hn id c p h1 h2 h3
    all_goals
      have hm : ∀ id j p, sig chs.length ρ id = some j → mm j = some p → (fun id => (sig chs.length ρ id).bind mm) id = some p := fun id j p h1 h2 => by simp [h1, h2]
      have hF : ∀ k, Fz ⟨w, Fin, S, m, chs.length⟩ mm s w' k → ((Fin k ∨ (∃ id c p, getL id chs = some c ∧ m id = some p ∧ occ p c k) ∨ w.heap.size ≤ k) ∧ k < w'.heap.size ∧ ∀ id c p, getL id chs' = some c → (sig chs.length ρ id).bind mm = some p → ¬ occ p c k) := by
        intro k hk
        refine ⟨hk.1.imp id (fun h => h.imp (fun h => (hS k).1 h) id), hk.2.1, fun id c p hc hp => ?_⟩
        obtain ⟨j, d, h1, h2, h3⟩ := hch' id c hc
        simp only [h1, Option.bind_some] at hp
        exact fun ho => hk.2.2 j d p h2 hp (h3.occ.2 ho)
    · exact hvr.lead hm hF r hlead
    · intro id c hc
      obtain ⟨j, d, h1, h2, h3⟩ := hch' id c hc
      obtain ⟨p, hp, hr, hl⟩ := hR.ch j d h2
      refine ⟨p, hm id j p h1 hp, hr.lead hm hF h3, fun b hb => ?_⟩
      rcases hl b (h3.occ.2 hb) with h | h
      · obtain ⟨id0, c0, p0, g1, g2, g3⟩ := (hS b).1 h
        exact .inr ⟨id0, c0, p0, g1, g2, g3⟩
      · exact .inl h
    · intro id id' c c' p p' b h1 h2 hp hp' hb hb'
      obtain ⟨j, d, g1, g2, g3⟩ := hch' id c h1
      obtain ⟨j', d', g1', g2', g3'⟩ := hch' id' c' h2
      simp only [g1, g1', Option.bind_some] at hp hp'
      have := hR.inj j j' d d' p p' g2 g2' hp hp' b (g3.occ.2 hb) (g3'.occ.2 hb')
      subst this
      exact hsinj id id' j ⟨c, h1⟩ ⟨c', h2⟩ g1 g1'
  cases hq with
  | r hq => obtain ⟨h1, v, h2, h3⟩ := main hq; exact ⟨h1, v, h2, h3⟩
  | n hq => obtain ⟨h1, v, h2, h3⟩ := main hq; exact ⟨h1, v, h2, h3⟩
end
section
variable {P : Program} [PT P]
variable {s : ASt} {dst : Option Nat} {ty : Nat} {pos : String} {af : Array Edge} {gd : Option (Nat × Bool)} {f : Nat}
set_option maxHeartbeats 1000000 in
theorem h_callI {C : Ctx} {I : World → Prop} {g : FuncId} {caps ys ars : List AV} {fx : Operand} {xs : Array Operand} {ats : Array TypeId} {chs : List (Nat × Chunk)} {R : AV → List (Nat × Chunk) → Prop} {cs : List Nat} (hen : Enters P g) (hf : s.ev fx = .clo g caps) (hys : xs.toList.map s.ev ++ caps = ys)
    (hI : ∀ w', Fr C.S C.w w' → I w') (hspec : ASpecI I P g ars chs R) (hlead : AV.leadsL (sigC cs) ars ys) (hlen : chs.length = cs.length) (hch : ∀ (id : Nat) c, getL id chs = some c → ∃ j d, cs[id]? = some j ∧ s.chunk j = some d ∧ c.leads (sigC cs) d)
    (hall : ∀ (id j : Nat), cs[id]? = some j → ∃ d, s.chunk j = some d) (hnd : ∀ (i i' j : Nat), cs[i]? = some j → cs[i']? = some j → i = i') :
    NOpRI C P cs s ⟨dst, .call { callee := .value fx, args := xs, argTypes := ats }, ty, pos, af, gd⟩ f (fun u => ∃ r chs', R r chs' ∧ u = callU cs f r chs') := by
  refine ⟨fun s' ha U U' a w m hR hU hU' hd K Q hK => ?_⟩
  have hfx := hR.ev fx
  rw [ha.2.1 fx (by simp [Op.operands, Call.operands]), hf] at hfx
  have hchunk : ∀ j, j ∈ cs → s'.chunk j = s.chunk j := fun j hj => ha.2.2 j hj
  have hblk : ∀ j c p b, s'.chunk j = some c → m j = some p → occ p c b → b < w.heap.size := by
    intro j c p b h1 h2 h3
    obtain ⟨q, hq, hr, _⟩ := hR.ch j c h1
    rw [h2] at hq
    obtain rfl : p = q := by simpa using hq
    exact hr.lt h3
  generalize hfv : a.eval fx = fv at hfx
  cases hfx with
  | clo hc1 hc2 =>
    rename_i cv
    have hrun : (execOp a.eval ⟨dst, .call { callee := .value fx, args := xs, argTypes := ats }, ty, pos, af, gd⟩).run P w = .ok (.enter g (xs.map a.eval ++ cv)) w := by
      simp [execOp, resolve, hfv, Deferred.ofValue, invoke, hen (xs.map a.eval ++ cv) w]
    obtain ⟨hl1, hl2⟩ := AV.leadsL_get hlead
    let mc : Nat → Option (Option Nat × Nat) := fun i => (cs[i]?).bind m
    have hmc : ∀ i j, cs[i]? = some j → mc i = m j := fun i j h => by simp [mc, h]
    have harg : ∀ (i : Nat) y, ys[i]? = some y → ARep m (Fz C m s' w) w y ((xs.map a.eval ++ cv).getD i undef) := by
      intro i y hy
      rw [← hys] at hy
      by_cases hi : i < xs.size
      · rw [List.getElem?_append_left (by simpa using hi), List.getElem?_map, Option.map_eq_some_iff] at hy
        obtain ⟨x, hx, rfl⟩ := hy
        have hx' : xs[i]? = some x := by simpa using hx
        have := hR.ev x
        rw [ha.2.1 x (by simp only [Op.operands, Call.operands, Array.mem_append]; exact .inr (Array.mem_of_getElem? hx'))] at this
        have e : (xs.map a.eval ++ cv).getD i undef = a.eval x := by
          have hxi : xs[i] = x := (Array.getElem?_eq_some_iff.1 hx').2
          simp [Array.getD_eq_getD_getElem?, Array.getElem?_append, hi, hxi]
        rw [e]; exact this
      · rw [List.getElem?_append_right (by simpa using Nat.le_of_not_lt hi)] at hy
        have := hc2 _ y hy
        have e : (xs.map a.eval ++ cv).getD i undef = cv.getD (i - xs.size) undef := by
          simp [Array.getD_eq_getD_getElem?, Array.getElem?_append, hi]
        rw [e]; simpa using this
    have hcall := hspec w mc (Fz C m s' w) (xs.map a.eval ++ cv) (hI w hR.fr) ?_ ?_ ?_ ?_ ?_ ?_
    · unfold Oper.wp
      rw [hrun]
      simp only [Oper.upon]
      refine Calls.mono hcall ?_
      rintro e w' ⟨v, r, chs', m1, F1, rfl, hRr, hp1, hn1, hF1, ⟨f1, f2, f3, f4, f5⟩, hv, hc', hi'⟩
      have hmf : ∀ k, k < 8 → m (f + k) = none := fun k hk => hR.un _ (hU k hk)
      let m2 : Nat → Option (Option Nat × Nat) := fun j => if f ≤ j ∧ j < f + 8 then m1 (cs.length + (j - f)) else m j
      have hle : MLe m m2 := by
        intro j p hp
        have : ¬ (f ≤ j ∧ j < f + 8) := fun h => by
          have := hmf (j - f) (by omega)
          rw [show f + (j - f) = j by omega, hp] at this
          cases this
        simp [m2, this, hp]
      have hm12 : ∀ id p, m1 id = some p → m2 (tauC cs f id) = some p := by
        intro id p hp
        by_cases hid : id < cs.length
        · have hj : cs[id]? = some cs[id] := List.getElem?_eq_getElem hid
          obtain ⟨d, hd⟩ := hall id _ hj
          rw [← hchunk _ (List.getElem_mem hid)] at hd
          obtain ⟨q, hq, _⟩ := hR.ch _ d hd
          have h1 := hp1 id q (by omega) (by rw [hmc id _ hj]; exact hq)
          rw [hp] at h1
          obtain rfl : p = q := by simpa using h1
          have : tauC cs f id = cs[id] := by simp [tauC, hj]
          rw [this]
          exact hle _ _ hq
        · have h8 : id < cs.length + 8 := by
            rcases Nat.lt_or_ge id (cs.length + 8) with h | h
            · exact h
            · have := hn1 id (by omega); rw [hp] at this; cases this
          have : tauC cs f id = f + (id - cs.length) := by simp [tauC, List.getElem?_eq_none (Nat.le_of_not_lt hid)]
          rw [this]
          have hin : f ≤ f + (id - cs.length) ∧ f + (id - cs.length) < f + 8 := by omega
          simp only [m2, hin, and_self, if_true]
          rw [show cs.length + (f + (id - cs.length) - f) = id by omega]
          exact hp
      have hold1 : ∀ k, k < w.heap.size → (∀ j c p, j ∈ cs → s'.chunk j = some c → m j = some p → ¬ occ p c k) → w'.heap[k]? = w.heap[k]? := by
        intro k hk hn
        refine f5 k hk (fun id c p h1 h2 h3 => ?_)
        obtain ⟨j, d, g1, g2, g3⟩ := hch id c h1
        rw [hmc id j g1] at h2
        exact hn j d p (List.mem_of_getElem? g1) (by rw [hchunk j (List.mem_of_getElem? g1)]; exact g2) h2 (g3.occ.2 h3)
      have hgone : ∀ id c, getL id (callU cs f r chs').ch = some (some c) → ∃ i c0, getL i chs' = some c0 ∧ tauC cs f i = id ∧ c = c0.ren (tauC cs f) := by
        intro id c h
        simp only [callU, getL_append] at h
        cases hm : getL id (mapC cs f chs') with
        | some o =>
          rw [hm] at h
          simp only [Option.some_or, Option.some.injEq] at h
          subst h
          obtain ⟨i, c0, h1, h2, h3⟩ := getL_mapC hm
          exact ⟨i, c0, h1, h2, by simpa using h3⟩
        | none =>
          rw [hm] at h
          simp only [Option.none_or] at h
          have := (getL_noneC h).2
          cases this
      have hnot : ∀ id, getL id (callU cs f r chs').ch = none → id ∉ cs := by
        intro id h hmem
        simp only [callU, getL_append] at h
        obtain ⟨o, ho⟩ := getL_noneC_mem hmem
        rw [ho] at h
        cases hm : getL id (mapC cs f chs') <;> simp [hm] at h
      have hnewblk : ∀ i c0 p b, getL i chs' = some c0 → m1 i = some p → occ p c0 b → w.heap.size ≤ b ∨ ∃ j c p0, j ∈ cs ∧ s'.chunk j = some c ∧ m j = some p0 ∧ occ p0 c b := by
        intro i c0 p b h1 h2 h3
        obtain ⟨q, hq, _, hl⟩ := hc' i c0 h1
        rw [h2] at hq
        obtain rfl : p = q := by simpa using hq
        rcases hl b h3 with h | ⟨id0, c1, p0, g1, g2, g3⟩
        · exact .inl h
        · obtain ⟨j, d, q1, q2, q3⟩ := hch id0 c1 g1
          rw [hmc id0 j q1] at g2
          exact .inr ⟨j, d, p0, List.mem_of_getElem? q1, by rw [hchunk j (List.mem_of_getElem? q1)]; exact q2, g2, q3.occ.2 g3⟩
      have hm2 : ∀ i c0, getL i chs' = some c0 → ∀ p, m2 (tauC cs f i) = some p → m1 i = some p := by
        intro i c0 h1 p hp
        obtain ⟨q, hq, _⟩ := hc' i c0 h1
        have := hm12 i q hq
        rw [hp] at this
        rw [hq, this]
      refine hK _ ⟨r, chs', hRr, rfl⟩ _ _ m2 (hR.step hd hle (fun j hj => ?_) ?_ f4 (fun k hk => ⟨fun id c p h1 h2 h3 => ?_, hold1 k hk.2.1 (fun j c p _ h1 h2 => hk.2.2 j c p h1 h2)⟩) (fun id c p b h0 h1 h2 h3 => ?_) (fun F' hF hF2 => ?_) (fun id id' c c' p p' b h1 h2 hp hp' hb hb' => ?_))
      · have := hU' j hj
        have h2 : ¬ (f ≤ j ∧ j < f + 8) := by omega
        simp only [m2, h2, if_false]
        exact hR.un j this.1
      · refine ⟨f1.trans hR.fr.os, f2.trans hR.fr.tape, f3.trans hR.fr.output, Nat.le_trans hR.fr.size f4, fun k hk hn => ?_⟩
        rw [hold1 k (Nat.lt_of_lt_of_le hk hR.fr.size) (fun j c p _ h1 h2 h3 => ?_)]
        · exact hR.fr.block k hk hn
        · obtain ⟨q, hq, _, hl⟩ := hR.ch j c h1
          rw [h2] at hq
          obtain rfl : p = q := by simpa using hq
          rcases hl k h3 with h | h
          · exact hn h
          · omega
      · obtain ⟨i, c0, g1, rfl, rfl⟩ := hgone id c h1
        rcases hnewblk i c0 p k g1 (hm2 i c0 g1 p h2) (occ_ren.1 h3) with h | ⟨j, c1, p0, _, q1, q2, q3⟩
        · have := hk.2.1; omega
        · exact hk.2.2 j c1 p0 q1 q2 q3
      · refine hold1 b (hblk id c p b h1 h2 h3) (fun j c1 p1 hj g1 g2 g3 => ?_)
        have := hR.inj id j c c1 p p1 h1 g1 h2 g2 b h3 g3
        subst this
        exact hnot id h0 hj
      · have hFF : ∀ k, F1 k → F' k := by
          intro k hk
          obtain ⟨k1, k2, k3⟩ := (hF1 k).1 hk
          refine hF2 k ?_ k2 (fun id c p h1 h2 h3 => ?_)
          · rcases k1 with h | ⟨id, c, p, h1, h2, h3⟩ | h
            · exact h.1
            · obtain ⟨j, d, g1, g2, g3⟩ := hch id c h1
              rw [hmc id j g1] at h2
              obtain ⟨q, hq, _, hl⟩ := hR.ch j d (by rw [hchunk j (List.mem_of_getElem? g1)]; exact g2)
              rw [h2] at hq
              obtain rfl : p = q := by simpa using hq
              exact .inr (hl k (g3.occ.2 h3))
            · exact .inr (.inr (Nat.le_trans hR.fr.size h))
          · rw [ASt.chunk_app] at h1
            cases hg : getL id (callU cs f r chs').ch with
            | some o =>
              rw [hg] at h1
              simp only at h1
              subst h1
              obtain ⟨i, c0, g1, rfl, rfl⟩ := hgone id c hg
              exact k3 i c0 p g1 (hm2 i c0 g1 p h2) (occ_ren.1 h3)
            | none =>
              rw [hg] at h1
              simp only at h1
              obtain ⟨q, hq, _⟩ := hR.ch id c h1
              have := hle id q hq
              rw [h2] at this
              obtain rfl : p = q := by simpa using this
              rcases k1 with h | ⟨id1, c1, p1, t1, t2, t3⟩ | h
              · exact h.2.2 id c p h1 hq h3
              · obtain ⟨j, d, g1, g2, g3⟩ := hch id1 c1 t1
                rw [hmc id1 j g1] at t2
                have := hR.inj id j c d p p1 h1 (by rw [hchunk j (List.mem_of_getElem? g1)]; exact g2) hq t2 k h3 (g3.occ.2 t3)
                subst this
                exact hnot id hg (List.mem_of_getElem? g1)
              · have := hblk id c p k h1 hq h3; omega
        refine ⟨hv.ren hm12 hFF, fun id c h => ?_⟩
        obtain ⟨i, c0, g1, rfl, rfl⟩ := hgone id c h
        obtain ⟨p, q1, q2, q3⟩ := hc' i c0 g1
        refine ⟨p, hm12 i p q1, q2.ren hm12 hFF, fun b hb => ?_⟩
        rcases hnewblk i c0 p b g1 q1 (occ_ren.1 hb) with h | ⟨j, c1, p0, _, t1, t2, t3⟩
        · exact .inr (Nat.le_trans hR.fr.size h)
        · obtain ⟨q, hq, _, hl⟩ := hR.ch j c1 t1
          rw [t2] at hq
          obtain rfl : p0 = q := by simpa using hq
          exact hl b t3
      · obtain ⟨i, c0, g1, rfl, rfl⟩ := hgone id c h1
        have hp1' := hm2 i c0 g1 p hp
        rw [ASt.chunk_app] at h2
        cases hg : getL id' (callU cs f r chs').ch with
        | some o =>
          rw [hg] at h2
          simp only at h2
          subst h2
          obtain ⟨i', c0', g1', rfl, rfl⟩ := hgone id' c' hg
          have := hi' i i' c0 c0' p p' b g1 g1' hp1' (hm2 i' c0' g1' p' hp') (occ_ren.1 hb) (occ_ren.1 hb')
          rw [this]
        | none =>
          rw [hg] at h2
          simp only at h2
          obtain ⟨q, hq, _⟩ := hR.ch id' c' h2
          have := hle id' q hq
          rw [hp'] at this
          obtain rfl : p' = q := by simpa using this
          have hlt := hblk id' c' p' b h2 hq hb'
          rcases hnewblk i c0 p b g1 hp1' (occ_ren.1 hb) with h | ⟨j, c1, p0, t0, t1, t2, t3⟩
          · omega
          · have := hR.inj id' j c' c1 p' p0 h2 t1 hq t2 b hb' t3
            subst this
            exact absurd t0 (hnot id' hg)
    · intro k hk
      refine ⟨hk.2.1, fun id c p h1 h2 => ?_⟩
      obtain ⟨j, d, g1, g2, g3⟩ := hch id c h1
      rw [hmc id j g1] at h2
      exact fun ho => hk.2.2 j d p (by rw [hchunk j (List.mem_of_getElem? g1)]; exact g2) h2 (g3.occ.2 ho)
    · have : ys.length = xs.size + caps.length := by rw [← hys]; simp
      simp only [Array.size_append, Array.size_map]
      omega
    · intro i x hx
      obtain ⟨y, hy, hxy⟩ := hl2 i x hx
      exact (harg i y hy).lead (fun id j p h1 h2 => by rw [hmc id j h1]; exact h2) (fun _ h => h) x hxy
    · intro id c hc
      obtain ⟨j, d, g1, g2, g3⟩ := hch id c hc
      have hj := List.mem_of_getElem? g1
      obtain ⟨p, hp, hr, _⟩ := hR.ch j d (by rw [hchunk j hj]; exact g2)
      refine ⟨by rw [hlen]; exact (List.getElem?_eq_some_iff.1 g1).1, p, by rw [hmc id j g1]; exact hp, hr.lead (fun id j p h1 h2 => by rw [hmc id j h1]; exact h2) (fun _ h => h) g3⟩
    · intro id id' c c' p p' b h1 h2 hp hp' hb hb'
      obtain ⟨j, d, g1, g2, g3⟩ := hch id c h1
      obtain ⟨j', d', g1', g2', g3'⟩ := hch id' c' h2
      rw [hmc id j g1] at hp
      rw [hmc id' j' g1'] at hp'
      have := hR.inj j j' d d' p p' (by rw [hchunk j (List.mem_of_getElem? g1)]; exact g2) (by rw [hchunk j' (List.mem_of_getElem? g1')]; exact g2') hp hp' b (g3.occ.2 hb) (g3'.occ.2 hb')
      subst this
      exact hnd id id' j g1 g1'
    · intro id hid
      simp [mc, List.getElem?_eq_none (show cs.length ≤ id by omega)]
end
section
variable {P : Program} [PT P] {C : Ctx} {Q : Exit → ASt → Prop} {s : ASt} {ops : Array Oper}
theorem AL.callI {ids : List Nat} {o : Oper} {rest : List Oper} {Us : Upd → Prop} (hw : ∀ a w, Rel C s a w → Region.wanted o (yielded ops a.tmps) = true) (hop : NOpRI C P ids s o s.nx Us) (hd : dstOk o.dst s.n = true) (h : ∀ u, Us u → AL P C ops rest Q (s.nxt o.dst u)) : AL P C ops (o :: rest) Q s := by
  refine ⟨fun a w hR' => ?_⟩
  have hwt := hw a w hR'
  obtain ⟨m, hR⟩ := hR'
  refine wpList_step fun K hK => ?_
  rw [if_pos hwt]
  refine hop.run s (Agr.refl _ _ _) (fun id => s.nx ≤ id) (fun id => s.nx + 8 ≤ id) a w m hR (fun k hk => Nat.le_add_right _ _) (fun j hj => ⟨by omega, .inr hj⟩) hd K _ (fun u hu a' w' m' hR' => hK _ _ ((h u hu).run a' w' ⟨m', hR'.weaken ?_ (fun i => .inr ?_) (fun id c hc => ?_) (fun id hid => ?_)⟩))
  · cases o.dst <;> rfl
  · cases o.dst <;> rfl
  · cases hdst : o.dst <;> (rw [hdst] at hc; exact hc)
  · cases hdst : o.dst <;> (rw [hdst] at hid; exact hid)
theorem AL.pureI {I : World → Prop} {dst : Option Nat} {ty : Nat} {pos : String} {af : Array Edge} {rest : List Oper} {g : FuncId} {caps ys ars : List AV} {fx : Operand} {xs : Array Operand} {ats : Array TypeId} {r : AV} (hI : ∀ w', Fr C.S C.w w' → I w') (hen : Enters P g) (hf : s.ev fx = .clo g caps) (hys : xs.toList.map s.ev ++ caps = ys)
    (hlead : AV.leadsL (sigC []) ars ys) (hspec : ASpecI I P g ars [] (Pure1 r)) (hr : r.ren (tauC [] s.nx) = r) (hd : dstOk dst s.n = true) (h : AL P C ops rest Q (s.nxt dst ⟨r, []⟩)) :
    AL P C ops (⟨dst, .call { callee := .value fx, args := xs, argTypes := ats }, ty, pos, af, none⟩ :: rest) Q s :=
  AL.callI (fun a w _ => wanted_none rfl a) (h_callI (cs := []) hen hf hys hI hspec hlead rfl (fun id c h => by simp [getL] at h) (fun id j h => by simp at h) (fun i i' j h => by simp at h)) hd (by
    rintro u ⟨r', chs', ⟨rfl, rfl⟩, rfl⟩
    simp only [callU, mapC, noneC, hr]
    exact h)
end
theorem ASpecI.law {I : World → Prop} {P : Program} {f : FuncId} {ars : List AV} {W : World} {vs : Array Value} (h : ASpecI I P f ars [] (Pure1 (aT true))) (hIW : I W) (hn : vs.size = ars.length) (ha : ∀ (i : Nat) x, ars[i]? = some x → ARep (fun _ => none) (fun k => k < W.heap.size) W x (vs.getD i undef)) :
    Calls P f vs W fun e W' => e = .returned (.bool true) ∧ Below W.heap.size W W' := by
  refine (h W (fun _ => none) (fun k => k < W.heap.size) vs hIW (fun k hk => ⟨hk, fun id c p hc => by simp [getL] at hc⟩) hn ha (fun id c hc => by simp [getL] at hc) (fun id id' c c' p p' b hc => by simp [getL] at hc) (fun id _ => rfl)).mono ?_
  rintro e W' ⟨v, r, chs', m', F', rfl, ⟨rfl, rfl⟩, _, _, _, ⟨h1, h2, h3, h4, h5⟩, hv, _⟩
  refine ⟨?_, h1, h2, h3, h4, fun k hk => h5 k hk (fun id c p hc => by simp [getL] at hc)⟩
  cases hv with
  | d hd => cases hd; rfl
/-- A library function of one number that gives a text, leaning on a variable. -/
theorem ASpecI.ofNum {I : World → Prop} {P : Program} {g : FuncId} {n : Int} {b : ByteArray} (hb : b.size ≤ 1000) (h : ∀ w, I w → Calls P g #[.int .i64 n] w fun e w' => e = .returned (.string b) ∧ w'.os = w.os ∧ w'.tape = w.tape ∧ w'.output = w.output ∧ w.heap.size ≤ w'.heap.size ∧ ∀ k, k < w.heap.size → w'.heap[k]? = w.heap[k]?) : ASpecI I P g [aI n] [] (Pure1 (aS b)) := by
  intro w m Fin vs hI hfin hn ha hch hinj hm
  have h0 := ha 0 _ rfl
  have hv : vs = #[.int .i64 n] := by
    apply Array.ext
    · rw [hn]; rfl
    · intro i hi1 hi2
      match i with
      | 0 => have := h0.val_eq.1; rw [Array.getD_eq_getD_getElem?, Array.getElem?_eq_getElem hi1] at this; simpa using this
      | i + 1 => simp at hi2
  subst hv
  refine (h w hI).mono ?_
  rintro e w' ⟨rfl, q1, q2, q3, q4, q5⟩
  exact ⟨_, _, [], m, fun k => (Fin k ∨ (∃ id c p, getL id ([] : List (Nat × Chunk)) = some c ∧ m id = some p ∧ occ p c k) ∨ w.heap.size ≤ k) ∧ k < w'.heap.size ∧ ∀ id c p, getL id ([] : List (Nat × Chunk)) = some c → m id = some p → ¬ occ p c k, rfl, ⟨rfl, rfl⟩, fun _ _ _ h => h, fun id hid => hm id (by simp only [List.length_nil] at hid ⊢; omega), fun k => Iff.rfl, ⟨q1, q2, q3, q4, fun k hk _ => q5 k hk⟩, .d (.val (by show b.size ≤ maxLen; simp only [maxLen]; omega)), fun id c hc => by simp [getL] at hc, fun id id' c c' p p' b hc => by simp [getL] at hc⟩
end Go.Proofs.YtgikfbfagdhopaaGreatDoor

set_option linter.all false
set_option maxRecDepth 20000
namespace Go.Proofs.YtgikfbfagdhopaaGreatDoor
open Go.RowKit

/-- The table of powers of ten lies where the program's text lays it. -/
def powI (W : World) : Prop := Lib.TabIs Tryz.prog W "internal/strconv.uint64pow10" .u64 Lib.pow10Tab
theorem tabIs_turn {P : Program} {w w' : World} {name : String} {k : IntKind} {zs : List Int} (h : Lib.TabIs P w name k zs) (hh : ∀ k, k < w.heap.size → w'.heap[k]? = w.heap[k]?) : Lib.TabIs P w' name k zs := by
  unfold Lib.TabIs World.var? at h ⊢
  cases hg : P.globalNamed name with
  | none => rw [hg] at h; cases h
  | some g =>
    rw [hg] at h
    simp only [Option.bind_some] at h ⊢
    cases hb : w.heap[g]? with
    | none => rw [hb] at h; cases h
    | some o =>
      rw [hb] at h
      rw [hh g (lt_of_block hb), hb]
      exact h
theorem powI_turn : ∀ w w', powI w → (∀ k, k < w.heap.size → w'.heap[k]? = w.heap[k]?) → powI w' := fun _ _ h hh => tabIs_turn h hh
def numN (n : Int) : List UInt8 := Lib.decDigits n.toNat
theorem dec_len : ∀ n : Nat, (Lib.decDigits n).length ≤ n + 1 := by
  intro n
  induction n using Nat.strongRecOn with
  | _ n ih =>
    unfold Lib.decDigits
    split
    · simp
    · have := ih (n / 10) (by omega)
      rw [List.length_append]
      simp only [List.length_cons, List.length_nil]; omega
theorem numN_len {n : Int} (h : 0 ≤ n ∧ n < 1000) : (numN n).length ≤ 1000 := by
  have := dec_len n.toNat
  unfold numN
  omega
theorem itoaI_spec (n : Int) (h : 0 ≤ n ∧ n < 1000) : ASpecI powI Tryz.prog 38 [aI n] [] (Pure1 (aS (bstr (numN n)))) := by
  have e : Lib.itoa n = numN n := by unfold Lib.itoa numN; rw [if_neg (by omega)]
  refine ASpecI.ofNum (by rw [bstr_size]; exact numN_len h) fun w hw => ?_
  have := Tryz.strconv_Itoa n (by omega) (by omega) w hw
  rw [e] at this
  refine this.mono ?_
  rintro e w' ⟨he, k, os, rfl⟩
  refine ⟨he, rfl, rfl, rfl, by show _ ≤ (w.heap ++ os).size; rw [Array.size_append]; omega, fun q hq => ?_⟩
  show (w.heap ++ os)[q]? = _
  rw [Array.getElem?_append_left hq]
theorem en_itoa : Enters Tryz.prog 38 := enters_of Tryz.func38 rfl rfl
theorem en_sJoin : Enters Tryz.prog 39 := enters_of Tryz.func39 rfl rfl
theorem sJoinL_spec (l : List (List UInt8)) (sep : List UInt8) (h0 : l ≠ []) (hl : l.length ≤ 1000000) (hb : (Lib.join l sep).length ≤ 70368744177664) : ASpec Tryz.prog 39 [.d (.view 9 1 (l.map fun x => [dS (bstr x)])), aS (bstr sep)] [] (Pure1 (aS (bstr (Lib.join l sep)))) := by
  have e1 : (l.map fun x => [dS (bstr x)]) = (l.map bstr).map fun x => [dS x] := by simp
  have e2 : ((l.map bstr).map (·.data.toList)) = l := by { rw [List.map_map]; have : ((fun x : ByteArray => x.data.toList) ∘ bstr) = id := funext fun x => rfl; rw [this, List.map_id] }
  rw [e1]
  refine ASpec.ofJoin (by cases l with | nil => exact absurd rfl h0 | cons _ _ => simp) (by simp; omega) (by rw [bstr_size]; exact hb) fun bk o c w hc hb2 hN hcap => ?_
  have := Tryz.strings_Join bk o c (l.map bstr) (bstr sep) w hc hb2 hN hcap (by rw [e2]; show (Lib.join l sep).length ≤ _; omega)
  rw [e2] at this
  exact this
/-- strings.Join of no texts. -/
theorem sJoin0_spec (sep : List UInt8) : ASpec Tryz.prog 39 [.d (.view 9 1 []), aS (bstr sep)] [] (Pure1 (aS (bstr []))) := by
  intro w m Fin vs hfin hn ha hch hinj hm
  have hv0 := ha 0 _ rfl
  have hv1 := ha 1 _ rfl
  have hv : vs = #[vs.getD 0 undef, .string (bstr sep)] := by
    apply Array.ext
    · rw [hn]; rfl
    · intro i hi1 hi2
      match i with
      | 0 => simp [Array.getD_eq_getD_getElem?, Array.getElem?_eq_getElem hi1]
      | 1 => have := hv1.val_eq.1; rw [Array.getD_eq_getD_getElem?, Array.getElem?_eq_getElem hi1] at this; simpa using this
      | i + 2 => simp at hi2; omega
  generalize vs.getD 0 undef = v0 at hv0 hv
  subst hv
  have hs : ∃ a c, v0 = .slice a 0 c := by
    cases hv0 with
    | d hd => cases hd with
      | nil => exact ⟨_, _, rfl⟩
      | empty => exact ⟨_, _, rfl⟩
      | view => exact ⟨_, _, rfl⟩
  obtain ⟨a, c, rfl⟩ := hs
  refine (Tryz.strings_Join_none a c (bstr sep) w).mono ?_
  rintro e w' ⟨rfl, rfl⟩
  refine ⟨_, _, [], m, Fin, rfl, ⟨rfl, rfl⟩, fun _ _ _ h => h, fun id hid => hm id (by simp only [List.length_nil] at hid ⊢; omega), fun k => ?_, ⟨rfl, rfl, rfl, Nat.le_refl _, fun _ _ _ => rfl⟩, .d (.val (by show (0 : Nat) ≤ maxLen; simp only [maxLen]; omega)), fun id c hc => by simp [getL] at hc, fun id id' c c' p p' b hc => by simp [getL] at hc⟩
  constructor
  · intro hk
    exact ⟨.inl hk, (hfin k hk).1, fun id c p hc => by simp [getL] at hc⟩
  · rintro ⟨h | ⟨id, c, p, hc, _⟩ | h, hlt, _⟩
    · exact h
    · simp [getL] at hc
    · omega
theorem sJoinA_spec (l : List (List UInt8)) (sep : List UInt8) (hl : l.length ≤ 1000000) (hb : (Lib.join l sep).length ≤ 70368744177664) : ASpec Tryz.prog 39 [.d (.view 9 1 (l.map fun x => [dS (bstr x)])), aS (bstr sep)] [] (Pure1 (aS (bstr (Lib.join l sep)))) := by
  cases l with
  | nil => exact sJoin0_spec sep
  | cons x l => exact sJoinL_spec _ sep (by simp) hl hb
theorem join_succ {l : List (List UInt8)} {sep : List UInt8} {k : Nat} (hk : k < l.length) : Lib.join (l.take (k + 1)) sep = Lib.join (l.take k) sep ++ (if 0 < k then sep else []) ++ l[k] := by
  cases l with
  | nil => simp at hk
  | cons x r =>
    rcases Nat.eq_zero_or_pos k with rfl | h0
    · simp [Lib.join_one, Lib.join_nil]
    · obtain ⟨q, rfl⟩ : ∃ q, k = q + 1 := ⟨k - 1, by omega⟩
      have hq : q < r.length := by simpa using hk
      rw [if_pos h0, List.take_succ_cons, List.take_succ_cons, Lib.join_cons, Lib.join_cons, Lib.joinTail_take_succ _ _ _ _ (List.getElem?_eq_getElem hq)]
      simp [List.append_assoc]
theorem join_len {sep : List UInt8} {c : Nat} (hs : sep.length ≤ 2) : ∀ {l : List (List UInt8)} (_ : ∀ x, x ∈ l → x.length ≤ c) (k : Nat), k ≤ l.length → (Lib.join (l.take k) sep).length ≤ (c + 2) * k
  | l, h, 0, _ => by simp [Lib.join_nil]
  | l, h, k + 1, hk => by
    have ih := join_len hs h k (by omega)
    have hx := h _ (List.getElem_mem (show k < l.length by omega))
    rw [join_succ (by omega), List.length_append, List.length_append, Nat.mul_succ]
    have : (if 0 < k then sep else []).length ≤ 2 := by { split; exact hs; simp }
    omega
abbrev txL (l : List (List UInt8)) : List (List DV) := l.map (fun s => [dS (bstr s)])
theorem txL_len (l : List (List UInt8)) : (txL l).length = l.length := List.length_map _
theorem h_appendTx (acc new : List (List UInt8)) {s : ASt} {dst : Option Nat} {ty : Nat} {pos : String} {af : Array Edge} {gd : Option (Nat × Bool)} {x y : Operand} {f : Nat} {ids ids2 : List Nat} {gone : List (Nat × Option Chunk)}
    (hto : AppTo s x 9 1 (txL acc) ids gone) (harg : AppArg s y 1 (txL new) ids2) (h : (acc ++ new).length ≤ 100000000) (hnew : gone = [] → 0 < new.length) :
    NOp Tryz.prog (ids ++ ids2) s ⟨dst, .call { callee := .builtin .append, args := #[x, y], argTypes := #[82, 82] }, ty, pos, af, gd⟩ f ⟨.own f (acc ++ new).length, (f, some (.arr 9 1 (txL (acc ++ new)))) :: gone⟩ := by
  have := h_append (P := Tryz.prog) (s := s) (dst := dst) (ty := ty) (pos := pos) (af := af) (gd := gd) (x := x) (y := y) (f := f) (t := 82) (tx := 82) (k := (acc ++ new).length) rfl rfl rfl rfl rfl rfl hto harg (by simp) (by omega) (by show (acc ++ new).length * 16 ≤ _; omega) (fun h => by rw [txL_len]; exact hnew h)
  rwa [← List.map_append] at this
def numsT (l : List Int) : List UInt8 := Lib.join (l.map numN) [44]
def evT (h : Ev) : List UInt8 := numN h.t ++ [58] ++ numsT h.pre
def evsT (l : List Ev) : List UInt8 := Lib.join (l.map evT) [59, 32]
/-- Events whose numbers are small. -/
def SmallE (l : List Ev) : Prop := l.length ≤ 60 ∧ ∀ h, h ∈ l → (0 ≤ h.t ∧ h.t < 1000) ∧ h.pre.length ≤ 1000000 ∧ ∀ c, c ∈ h.pre → 0 ≤ c ∧ c < 1000
theorem numsT_len {l : List Int} (hl : l.length ≤ 1000000) (h : ∀ c, c ∈ l → 0 ≤ c ∧ c < 1000) : (numsT l).length ≤ 1002 * l.length := by
  have := join_len (sep := [44]) (c := 1000) (by simp) (l := l.map numN) (fun x hx => by obtain ⟨c, hc, rfl⟩ := List.mem_map.1 hx; exact numN_len (h c hc)) l.length (by simp)
  rw [List.take_of_length_le (by simp)] at this
  exact this
theorem evT_len {h : Ev} (h1 : 0 ≤ h.t ∧ h.t < 1000) (h2 : h.pre.length ≤ 1000000) (h3 : ∀ c, c ∈ h.pre → 0 ≤ c ∧ c < 1000) : (evT h).length ≤ 1002001001 := by
  have a := numN_len h1
  have b := numsT_len h2 h3
  unfold evT
  simp only [List.length_append, List.length_cons, List.length_nil]; omega
theorem en_l1Num : Enters Tryz.prog 32 := enters_of Tryz.func32 rfl rfl
theorem l1Num_step (k : Nat) (hk : k < 1000) (ih : ∀ q, q < k → q < 1000 → ASpec Tryz.prog 32 [aI q] [] (Pure1 (aS (bstr (numN (q : Int)))))) : ASpec Tryz.prog 32 [aI k] [] (Pure1 (aS (bstr (numN (k : Int))))) := by
  have hu8 : ((UInt8.ofNat (48 + k)).toNat : Int) = 48 + k ∨ 10 ≤ k := by
    rcases Nat.lt_or_ge k 10 with h | h
    · left; rw [UInt8.toNat_ofNat']; omega
    · exact .inr h
  have hu9 : ((UInt8.ofNat (48 + k % 10)).toNat : Int) = 48 + ((k % 10 : Nat) : Int) := by rw [UInt8.toNat_ofNat']; omega
  have hrm : ((k : Nat) : Int).tmod 10 = ((k % 10 : Nat) : Int) := by rw [Int.tmod_eq_emod_of_nonneg (by omega)]; omega
  have hqo : ((k : Nat) : Int).tdiv 10 = ((k / 10 : Nat) : Int) := by rw [Int.tdiv_eq_ediv_of_nonneg (by omega)]; omega
  have hdl := numN_len (n := ((k / 10 : Nat) : Int)) (by omega)
  have e1 : k < 10 → numN (k : Int) = [UInt8.ofNat (48 + k)] := fun h => by unfold numN Lib.decDigits; rw [Int.toNat_natCast, dif_pos h]
  have e2 : ¬ k < 10 → numN (k : Int) = numN ((k / 10 : Nat) : Int) ++ [UInt8.ofNat (48 + k % 10)] := fun h => by
    unfold numN
    rw [Int.toNat_natCast, Int.toNat_natCast]
    conv => lhs; unfold Lib.decDigits
    rw [dif_neg h]
  refine ASpec.of Tryz.func32 rfl rfl fun C hC => ?_
  refine AC.seq ?_
  refine AC.region ?_
  refine AL.p (by exact as1 rfl) rfl ?_
  refine AL.nil ?_
  refine th_n ?_
  refine AC.seq ?_
  refine AC.seq ?_
  refine AC.region ?_
  refine AL.p (by exact mv1 rfl) rfl ?_
  refine AL.p (by exact g_cmp rfl rfl rfl) rfl ?_
  refine AL.nil ?_
  refine th_n ?_
  refine AC.condD rfl (fun h0 => ?_) (fun h0 => ?_)
  · refine AC.seq ?_
    refine AC.region ?_
    refine AL.p (by exact mv1 rfl) rfl ?_
    refine AL.p (by exact g_arith rfl rfl rfl (by exact wrap_i64 (by omega))) rfl ?_
    refine AL.p (by exact g_convI (c := 48 + (k : Int)) rfl rfl rfl (wrap_u8 (by omega))) rfl ?_
    refine AL.q (by exact h_lit rfl rfl rfl rfl rfl rfl rfl rfl) rfl ?_
    refine AL.p (by exact g_strOfBytes (l := [UInt8.ofNat (48 + k)]) rfl rfl rfl rfl rfl (by show _ = [[DV.val (.int .u8 ((UInt8.ofNat (48 + k)).toNat : Int))]]; rw [hu8.resolve_right (by omega)]) rfl) rfl ?_
    refine AL.p (by exact as1 rfl) rfl ?_
    refine AL.nil ?_
    refine th_n ?_
    refine AC.ret ?_
    refine th_r ?_
    refine bq_r ?_
    exact ret1 rfl (by rw [e1 (by omega)])
  · refine AC.skip ?_
    refine th_n ?_
    refine AC.seq ?_
    have hIH := ih (k / 10) (by omega) (by omega)
    refine AC.drawn' mixed_ok [[], [0], [0,1], [], [3], [3,4], [3,4,5], [3,4,5,6], [3,4,5,6,7], [0,1,2,3,4,5,6,7,8], [0,1,2,3,4,5,6,7,8,9]] (by decide) ?_
    refine DF.op 0 [] 11 rfl rfl rfl (.free rfl (NOp.of (by exact mv1 rfl))) rfl ?_
    refine DF.op 1 [0] 11 rfl rfl rfl (.free rfl (NOp.of (by exact g_quo (c := ((k / 10 : Nat) : Int)) rfl rfl (by decide) (by rw [hqo]; exact wrap_i64 (by omega))))) rfl ?_
    refine DF.op 2 [0,1] 11 rfl rfl rfl (.free rfl (by exact h_pure en_l1Num rfl rfl (by repeat (first | exact rfl | exact DLead.same | refine ⟨_, _, rfl, ?_, ?_⟩)) hIH rfl)) rfl ?_
    refine DF.op 3 [] 11 rfl rfl rfl (.free rfl (NOp.of (by exact mv1 rfl))) rfl ?_
    refine DF.op 4 [3] 11 rfl rfl rfl (.free rfl (NOp.of (by exact g_rem rfl rfl (by decide) hrm))) rfl ?_
    refine DF.op 5 [3,4] 11 rfl rfl rfl (.free rfl (NOp.of (by exact g_arith (e := 48 + ((k % 10 : Nat) : Int)) rfl rfl rfl (wrap_i64 (by omega))))) rfl ?_
    refine DF.op 6 [3,4,5] 11 rfl rfl rfl (.free rfl (NOp.of (by exact g_convI (c := 48 + ((k % 10 : Nat) : Int)) rfl rfl rfl (wrap_u8 (by omega))))) rfl ?_
    refine DF.op 7 [3,4,5,6] 11 rfl rfl rfl (.free rfl (by exact h_lit rfl rfl rfl rfl rfl rfl rfl rfl)) rfl ?_
    refine DF.op 8 [3,4,5,6,7] 11 rfl rfl rfl (.free rfl (NOp.of (by exact g_strOfBytes (l := [UInt8.ofNat (48 + k % 10)]) rfl rfl rfl rfl rfl (by show _ = [[DV.val (.int .u8 ((UInt8.ofNat (48 + k % 10)).toNat : Int))]]; rw [hu9]) rfl))) rfl ?_
    refine DF.op 9 [0,1,2,3,4,5,6,7,8] 11 rfl rfl rfl (.free rfl (NOp.of (by exact g_saddB (a := numN ((k / 10 : Nat) : Int)) (b := [UInt8.ofNat (48 + k % 10)]) rfl rfl (by (simp only [List.length_append, List.length_cons, List.length_nil]; omega))))) rfl ?_
    refine DF.op 10 [0,1,2,3,4,5,6,7,8,9] 11 rfl rfl rfl (.free rfl (NOp.of (by exact as1 rfl))) rfl ?_
    refine DF.fin (ps := [(0, 3), (0, 4), (0, 5), (0, 6), (0, 7), (0, 8), (1, 3), (1, 4), (1, 5), (1, 6), (1, 7), (1, 8), (2, 3), (2, 4), (2, 5), (2, 6), (2, 7), (2, 8), (3, 0), (3, 1), (3, 2), (4, 0), (4, 1), (4, 2), (5, 0), (5, 1), (5, 2), (6, 0), (6, 1), (6, 2), (7, 0), (7, 1), (7, 2), (8, 0), (8, 1), (8, 2)]) 11 rfl (by decide +kernel) (by decide +kernel) (by rfl) ?_
    refine th_n ?_
    refine AC.ret ?_
    refine bq_r ?_
    exact ret1 rfl (by rw [e2 (by omega)])
theorem l1NumN_spec (n : Int) (h : 0 ≤ n ∧ n < 1000) : ASpec Tryz.prog 32 [aI n] [] (Pure1 (aS (bstr (numN n)))) := by
  obtain ⟨k, rfl⟩ : ∃ k : Nat, n = k := ⟨n.toNat, by omega⟩
  have hk : k < 1000 := by omega
  clear h
  induction k using Nat.strongRecOn with
  | _ k ih => exact l1Num_step k hk (fun q h1 h2 => ih q h1 h2)
set_option maxHeartbeats 1000000 in
theorem l8Nums_spec (l : List Int) (hl : l.length ≤ 1000000) (h : ∀ c, c ∈ l → 0 ≤ c ∧ c < 1000) : ASpec Tryz.prog 33 [.d (vI l)] [] (Pure1 (aS (bstr (numsT l)))) := by
  have hjl := join_len (sep := [44]) (c := 1000) (by simp) (l := l.map numN) (fun x hx => by obtain ⟨c, hc, rfl⟩ := List.mem_map.1 hx; exact numN_len (h c hc))
  refine ASpec.of Tryz.func33 rfl rfl fun C hC => ?_
  refine AC.seq ?_
  refine AC.region ?_
  refine AL.p (by exact as1 rfl) rfl ?_
  refine AL.nil ?_
  refine th_n ?_
  refine AC.seq ?_
  refine AC.region ?_
  refine AL.p (by exact as1 rfl) rfl ?_
  refine AL.nil ?_
  refine th_n ?_
  refine AC.seq ?_
  refine AC.seq ?_
  refine AC.region ?_
  refine AL.p (by exact mv1 rfl) rfl ?_
  refine AL.p (by exact g_len_view rfl rfl (by exact List.length_map _)) rfl ?_
  refine AL.p (by exact mv1 rfl) rfl ?_
  refine AL.nil ?_
  refine th_n ?_
  refine AC.block ?_
  refine AC.loop (ι := Nat) (fun k => ⟨23, 0, [(3, aS (bstr (Lib.join ((l.map numN).take k) [44]))), (6, .d (vI l)), (7, aI l.length), (8, aI k)], []⟩) (fun k => k ≤ l.length) (fun k => l.length - k) (0) ?_ (Nat.zero_le _) ?_
  · refine Weak.ren _ [] hC rfl ?_ ?_ rfl rfl rfl <;> repeat (first | exact True.intro | refine And.intro ?_ ?_ | exact DLead.same)
  · intro k hk
    refine AC.seq ?_
    refine AC.region ?_
    refine AL.p (by exact g_cmp rfl rfl rfl) rfl ?_
    refine AL.nil ?_
    refine th_n ?_
    refine AC.seq ?_
    refine AC.condD rfl (fun h0 => ?_) (fun h0 => ?_)
    · refine AC.skip ?_
      refine th_n ?_
      refine AC.seq ?_
      refine AC.block ?_
      refine AC.seq ?_
      have hk1 : k < l.length := by omega
      have hget := ints_at hk1
      have hjk := hjl k (by rw [List.length_map]; omega)
      have hcb := h _ (List.getElem_mem hk1)
      have hnl := numN_len hcb
      have hN := l1NumN_spec l[k] hcb
      have hsu := join_succ (l := l.map numN) (sep := [44]) (k := k) (by rw [List.length_map]; exact hk1)
      rw [List.getElem_map] at hsu
      have hkp : ((0 : Int) < (k : Int)) → 0 < k := by omega
      have hkn : ¬ ((0 : Int) < (k : Int)) → ¬ 0 < k := by omega
      refine AC.region ?_
      refine AL.p (by exact mv1 rfl) rfl ?_
      refine AL.p (by exact g_ia_view rfl rfl rfl rfl rfl (by rfl) (by assumption)) rfl ?_
      refine AL.p (by exact g_load_ref rfl rfl rfl) rfl ?_
      refine AL.p (by exact as1 rfl) rfl ?_
      refine AL.p (by exact as1 rfl) rfl ?_
      refine AL.nil ?_
      refine th_n ?_
      refine AC.cut (fun (_ : Unit) => ⟨23, 0, [(3, aS (bstr (Lib.join ((l.map numN).take k) [44] ++ (if 0 < k then [44] else [])))), (5, aI l[k]), (6, .d (vI l)), (7, aI l.length), (8, aI k)], []⟩) (fun _ => True) ?_ ?_
      · refine AC.seq ?_
        refine AC.region ?_
        refine AL.p (by exact mv1 rfl) rfl ?_
        refine AL.p (by exact g_cmp rfl rfl rfl) rfl ?_
        refine AL.nil ?_
        refine th_n ?_
        refine AC.condD rfl (fun h1 => ?_) (fun h1 => ?_)
        · refine AC.region ?_
          refine AL.p (by exact mv1 rfl) rfl ?_
          refine AL.p (by exact g_saddB (a := Lib.join ((l.map numN).take k) [44]) (b := [44]) rfl rfl (by (simp only [List.length_append, List.length_cons, List.length_nil]; omega))) rfl ?_
          refine AL.p (by exact as1 rfl) rfl ?_
          refine AL.nil ?_
          refine th_n ?_
          (have e := hkp h1; exact ⟨(), trivial, Weak.ren _ [] hC rfl (by rw [if_pos e]; repeat (first | exact True.intro | refine And.intro ?_ ?_ | exact DLead.same)) (by repeat (exact True.intro)) rfl rfl rfl⟩)
        · refine AC.skip ?_
          refine th_n ?_
          (have e := hkn h1; exact ⟨(), trivial, Weak.ren _ [] hC rfl (by rw [if_neg e, List.append_nil]; repeat (first | exact True.intro | refine And.intro ?_ ?_ | exact DLead.same)) (by repeat (exact True.intro)) rfl rfl rfl⟩)
      · intro _ _
        have hil : (if 0 < k then [44] else ([] : List UInt8)).length ≤ 1 := by split <;> simp
        refine AC.region ?_
        refine AL.p (by exact mv1 rfl) rfl ?_
        refine AL.p (by exact mv1 rfl) rfl ?_
        refine AL.q (by exact h_pure en_l1Num rfl rfl (by repeat (first | exact rfl | exact DLead.same | refine ⟨_, _, rfl, ?_, ?_⟩)) hN rfl) rfl ?_
        refine AL.p (by exact g_saddB (a := Lib.join ((l.map numN).take k) [44] ++ (if 0 < k then [44] else [])) (b := numN l[k]) rfl rfl (by (simp only [List.length_append, List.length_cons, List.length_nil]; omega))) rfl ?_
        refine AL.p (by exact as1 rfl) rfl ?_
        refine AL.nil ?_
        refine ib_n ?_
        refine th_n ?_
        refine AC.region ?_
        refine AL.p (by exact g_arith rfl rfl rfl (by exact wrap_i64 (by omega))) rfl ?_
        refine AL.p (by exact mv1 rfl) rfl ?_
        refine AL.nil ?_
        refine th_n ?_
        exact ⟨k + 1, by omega, by omega, Weak.ren _ [] hC rfl (by rw [hsu]; repeat (first | exact True.intro | refine And.intro ?_ ?_ | exact DLead.same)) (by repeat (exact True.intro)) rfl rfl rfl⟩
    · refine AC.exit ?_
      refine th_e ?_
      refine th_e ?_
      refine ib_y ?_
      refine th_n ?_
      refine AC.seq ?_
      refine AC.region ?_
      refine AL.p (by exact mv1 rfl) rfl ?_
      refine AL.p (by exact as1 rfl) rfl ?_
      refine AL.nil ?_
      refine th_n ?_
      refine AC.ret ?_
      refine bq_r ?_
      have hkk : k = l.length := by omega
      exact ret1 rfl (by rw [numsT, hkk, List.take_of_length_le (by simp)])
theorem en_l8Nums : Enters Tryz.prog 33 := enters_of Tryz.func33 rfl rfl
set_option maxHeartbeats 2000000 in
theorem l8Text_spec (u : Unf) (hE : SmallE u.es) : ASpec Tryz.prog 16 [unfA u] [] (Pure1 (aS (bstr (evsT u.es)))) := by
  have hel := hE.1
  have hjl := join_len (sep := [59, 32]) (c := 1002001001) (by simp) (l := u.es.map evT) (fun x hx => by obtain ⟨c, hc, rfl⟩ := List.mem_map.1 hx; have := hE.2 c hc; exact evT_len this.1 this.2.1 this.2.2)
  refine ASpec.of Tryz.func16 rfl rfl fun C hC => ?_
  refine AC.seq ?_
  refine AC.region ?_
  refine AL.q (by exact h_boxF rfl rfl) rfl ?_
  refine AL.p (by exact as1 rfl) rfl ?_
  refine AL.nil ?_
  refine th_n ?_
  refine AC.seq ?_
  refine AC.region ?_
  refine AL.p (by exact as1 rfl) rfl ?_
  refine AL.nil ?_
  refine th_n ?_
  refine AC.seq ?_
  refine AC.seq ?_
  refine AC.region ?_
  refine AL.p (by exact g_fa_ref rfl rfl rfl rfl rfl rfl) rfl ?_
  refine AL.p (by exact g_load_ref rfl rfl rfl) rfl ?_
  refine AL.p (by exact g_len_view rfl rfl (by exact List.length_map _)) rfl ?_
  refine AL.p (by exact mv1 rfl) rfl ?_
  refine AL.nil ?_
  refine th_n ?_
  refine AC.block ?_
  refine AC.loop (ι := Nat) (fun k => ⟨30, 0, [(1, .d (.ref (unfD u))), (3, aS (bstr (Lib.join ((u.es.map evT).take k) [59, 32]))), (7, .d (vEs u.es)), (8, aI u.es.length), (9, aI k)], []⟩) (fun k => k ≤ u.es.length) (fun k => u.es.length - k) (0) ?_ (Nat.zero_le _) ?_
  · refine Weak.ren _ [] hC rfl ?_ ?_ rfl rfl rfl <;> repeat (first | exact True.intro | refine And.intro ?_ ?_ | exact DLead.same)
  · intro k hk
    refine AC.seq ?_
    refine AC.region ?_
    refine AL.p (by exact g_cmp rfl rfl rfl) rfl ?_
    refine AL.nil ?_
    refine th_n ?_
    refine AC.seq ?_
    refine AC.condD rfl (fun h0 => ?_) (fun h0 => ?_)
    · refine AC.skip ?_
      refine th_n ?_
      refine AC.seq ?_
      refine AC.block ?_
      refine AC.seq ?_
      have hk1 : k < u.es.length := by omega
      have hget := evsL_get hk1
      have hjk := hjl k (by rw [List.length_map]; omega)
      obtain ⟨hb1, hb2, hb3⟩ := hE.2 _ (List.getElem_mem hk1)
      have hn1 := numN_len hb1
      have hn2 := numsT_len hb2 hb3
      have hN := l1NumN_spec u.es[k].t hb1
      have hM := l8Nums_spec u.es[k].pre hb2 hb3
      have hsu := join_succ (l := u.es.map evT) (sep := [59, 32]) (k := k) (by rw [List.length_map]; exact hk1)
      rw [List.getElem_map] at hsu
      have hkp : ((0 : Int) < (k : Int)) → 0 < k := by omega
      have hkn : ¬ ((0 : Int) < (k : Int)) → ¬ 0 < k := by omega
      refine AC.region ?_
      refine AL.p (by exact mv1 rfl) rfl ?_
      refine AL.p (by exact g_ia_view rfl rfl rfl rfl rfl (by rfl) (by assumption)) rfl ?_
      refine AL.p (by exact g_load_refN rfl rfl rfl rfl) rfl ?_
      refine AL.q (by exact h_alloc rfl) rfl ?_
      refine AL.p (by exact as1 rfl) rfl ?_
      refine AL.q (by exact h_store rfl rfl rfl rfl rfl rfl) rfl ?_
      refine AL.nil ?_
      refine th_n ?_
      refine AC.cut (fun (_ : Unit) => ⟨30, 0, [(1, .d (.ref (unfD u))), (3, aS (bstr (Lib.join ((u.es.map evT).take k) [59, 32] ++ (if 0 < k then [59, 32] else [])))), (5, .d (.ref (evD u.es[k]))), (7, .d (vEs u.es)), (8, aI u.es.length), (9, aI k)], []⟩) (fun _ => True) ?_ ?_
      · refine AC.seq ?_
        refine AC.weak (Weak.freezeRef (ds := evD u.es[k]) 5 rfl rfl) ?_
        refine AC.region ?_
        refine AL.p (by exact mv1 rfl) rfl ?_
        refine AL.p (by exact g_cmp rfl rfl rfl) rfl ?_
        refine AL.nil ?_
        refine th_n ?_
        refine AC.condD rfl (fun h1 => ?_) (fun h1 => ?_)
        · refine AC.region ?_
          refine AL.p (by exact mv1 rfl) rfl ?_
          refine AL.p (by exact g_saddB (a := Lib.join ((u.es.map evT).take k) [59, 32]) (b := [59, 32]) rfl rfl (by (simp only [List.length_append, List.length_cons, List.length_nil]; omega))) rfl ?_
          refine AL.p (by exact as1 rfl) rfl ?_
          refine AL.nil ?_
          refine th_n ?_
          (have e := hkp h1; exact ⟨(), trivial, Weak.ren _ [] hC rfl (by rw [if_pos e]; repeat (first | exact True.intro | refine And.intro ?_ ?_ | exact DLead.same)) (by repeat (exact True.intro)) rfl rfl rfl⟩)
        · refine AC.skip ?_
          refine th_n ?_
          (have e := hkn h1; exact ⟨(), trivial, Weak.ren _ [] hC rfl (by rw [if_neg e, List.append_nil]; repeat (first | exact True.intro | refine And.intro ?_ ?_ | exact DLead.same)) (by repeat (exact True.intro)) rfl rfl rfl⟩)
      · intro _ _
        have hil : (if 0 < k then [59, 32] else ([] : List UInt8)).length ≤ 2 := by split <;> simp
        refine AC.drawn' mixed_ok [[], [], [1], [1,2], [1,2,3], [], [5], [1,2,3,5,6], [1,2,3,4,5,6,7], [0,1,2,3,4,5,6,7,8], [0,1,2,3,4,5,6,7,8,9]] (by decide) ?_
        refine DF.op 0 [] 11 rfl rfl rfl (.free rfl (NOp.of (by exact mv1 rfl))) rfl ?_
        refine DF.op 1 [] 11 rfl rfl rfl (.free rfl (NOp.of (by exact g_fa_ref rfl rfl rfl rfl rfl rfl))) rfl ?_
        refine DF.op 2 [1] 11 rfl rfl rfl (.free rfl (NOp.of (by exact g_load_ref rfl rfl rfl))) rfl ?_
        refine DF.op 3 [1,2] 11 rfl rfl rfl (.free rfl (by exact h_pure en_l1Num rfl rfl (by repeat (first | exact rfl | exact DLead.same | refine ⟨_, _, rfl, ?_, ?_⟩)) hN rfl)) rfl ?_
        refine DF.op 4 [1,2,3] 11 rfl rfl rfl (.free rfl (NOp.of (by exact g_saddB (a := numN u.es[k].t) (b := [58]) rfl rfl (by (simp only [List.length_append, List.length_cons, List.length_nil]; omega))))) rfl ?_
        refine DF.op 5 [] 11 rfl rfl rfl (.free rfl (NOp.of (by exact g_fa_ref rfl rfl rfl rfl rfl rfl))) rfl ?_
        refine DF.op 6 [5] 11 rfl rfl rfl (.free rfl (NOp.of (by exact g_load_ref rfl rfl rfl))) rfl ?_
        refine DF.op 7 [1,2,3,5,6] 11 rfl rfl rfl (.free rfl (by exact h_pure en_l8Nums rfl rfl (by repeat (first | exact rfl | exact DLead.same | refine ⟨_, _, rfl, ?_, ?_⟩)) hM rfl)) rfl ?_
        refine DF.op 8 [1,2,3,4,5,6,7] 11 rfl rfl rfl (.free rfl (NOp.of (by exact g_saddB (a := numN u.es[k].t ++ [58]) (b := numsT u.es[k].pre) rfl rfl (by (simp only [List.length_append, List.length_cons, List.length_nil]; omega))))) rfl ?_
        refine DF.op 9 [0,1,2,3,4,5,6,7,8] 11 rfl rfl rfl (.free rfl (NOp.of (by exact g_saddB (a := Lib.join ((u.es.map evT).take k) [59, 32] ++ (if 0 < k then [59, 32] else [])) (b := numN u.es[k].t ++ [58] ++ numsT u.es[k].pre) rfl rfl (by (simp only [List.length_append, List.length_cons, List.length_nil]; omega))))) rfl ?_
        refine DF.op 10 [0,1,2,3,4,5,6,7,8,9] 11 rfl rfl rfl (.free rfl (NOp.of (by exact as1 rfl))) rfl ?_
        refine DF.fin (ps := [(0, 1), (0, 2), (0, 3), (0, 4), (0, 5), (0, 6), (0, 7), (0, 8), (1, 0), (1, 5), (1, 6), (2, 0), (2, 5), (2, 6), (3, 0), (3, 5), (3, 6), (4, 0), (4, 5), (4, 6), (4, 7), (5, 0), (5, 1), (5, 2), (5, 3), (5, 4), (6, 0), (6, 1), (6, 2), (6, 3), (6, 4), (7, 0), (7, 4), (8, 0)]) 11 rfl (by decide +kernel) (by decide +kernel) (by rfl) ?_
        refine ib_n ?_
        refine th_n ?_
        refine AC.region ?_
        refine AL.p (by exact g_arith rfl rfl rfl (by exact wrap_i64 (by omega))) rfl ?_
        refine AL.p (by exact mv1 rfl) rfl ?_
        refine AL.nil ?_
        refine th_n ?_
        exact ⟨k + 1, by omega, by omega, Weak.ren _ [] hC rfl (by rw [hsu]; repeat (first | exact True.intro | refine And.intro ?_ ?_ | exact DLead.same)) (by repeat (exact True.intro)) rfl rfl rfl⟩
    · refine AC.exit ?_
      refine th_e ?_
      refine th_e ?_
      refine ib_y ?_
      refine th_n ?_
      refine AC.seq ?_
      refine AC.region ?_
      refine AL.p (by exact mv1 rfl) rfl ?_
      refine AL.p (by exact as1 rfl) rfl ?_
      refine AL.nil ?_
      refine th_n ?_
      refine AC.ret ?_
      refine bq_r ?_
      have hkk : k = u.es.length := by omega
      exact ret1 rfl (by rw [evsT, hkk, List.take_of_length_le (by simp)])
theorem en_l8Text : Enters Tryz.prog 16 := enters_of Tryz.func16 rfl rfl
set_option maxHeartbeats 2000000 in
theorem fmtEvents_spec (l : List Ev) (hE : SmallE l) : ASpecI powI Tryz.prog 21 [.d (vEs l)] [] (Pure1 (aS (bstr (evsT l)))) := by
  have hel := hE.1
  have hjl := join_len (sep := [59, 32]) (c := 1002001001) (by simp) (l := l.map evT) (fun x hx => by obtain ⟨c, hc, rfl⟩ := List.mem_map.1 hx; have := hE.2 c hc; exact evT_len this.1 this.2.1 this.2.2)
  refine ASpecI.of Tryz.func21 rfl rfl powI_turn fun C hC hIc => ?_
  have hI := hIc rfl
  refine AC.seq ?_
  refine AC.region ?_
  refine AL.p (by exact as1 rfl) rfl ?_
  refine AL.nil ?_
  refine th_n ?_
  refine AC.seq ?_
  refine AC.region ?_
  refine AL.q (by exact h_lit rfl rfl rfl rfl rfl rfl rfl rfl) rfl ?_
  refine AL.p (by exact as2 rfl) rfl ?_
  refine AL.nil ?_
  refine th_n ?_
  refine AC.seq ?_
  refine AC.seq ?_
  refine AC.region ?_
  refine AL.p (by exact mv1 rfl) rfl ?_
  refine AL.p (by exact g_len_view rfl rfl (by exact List.length_map _)) rfl ?_
  refine AL.p (by exact mv1 rfl) rfl ?_
  refine AL.nil ?_
  refine th_n ?_
  refine AC.block ?_
  refine AC.loop (ι := Nat) (fun k => ⟨43, 108, [(3, .own 100 ((l.map evT).take k).length), (10, .d (vEs l)), (11, aI l.length), (12, aI k)], [(100, some (.arr 9 1 (txL ((l.map evT).take k))))]⟩) (fun k => k ≤ l.length) (fun k => l.length - k) (0) ?_ (Nat.zero_le _) ?_
  · exact Weak.ren _ [(100, 0)] hC rfl (by repeat (first | exact True.intro | refine And.intro ?_ ?_ | exact DLead.same | exact rfl | refine ⟨_, rfl, ?_⟩)) (by repeat (first | exact True.intro | refine And.intro ?_ ?_ | exact rfl | refine ⟨_, _, rfl, rfl, ?_⟩)) rfl rfl rfl
  · intro k hk
    refine AC.seq ?_
    refine AC.region ?_
    refine AL.p (by exact g_cmp rfl rfl rfl) rfl ?_
    refine AL.nil ?_
    refine th_n ?_
    refine AC.seq ?_
    refine AC.condD rfl (fun h0 => ?_) (fun h0 => ?_)
    · refine AC.skip ?_
      refine th_n ?_
      refine AC.seq ?_
      refine AC.block ?_
      refine AC.seq ?_
      have hk1 : k < l.length := by omega
      have hget := evsL_get hk1
      obtain ⟨hb1, hb2, hb3⟩ := hE.2 _ (List.getElem_mem hk1)
      have hn1 := numN_len hb1
      have hn2 := numsT_len hb2 hb3
      have hst : (l.map evT).take (k + 1) = (l.map evT).take k ++ [evT l[k]] := by rw [List.take_add_one, List.getElem?_map, List.getElem?_eq_getElem hk1]; rfl
      have htl : ((l.map evT).take k).length = k := by rw [List.length_take, List.length_map]; omega
      refine AC.region ?_
      refine AL.p (by exact g_ia_view rfl rfl rfl rfl rfl (by rfl) (by assumption)) rfl ?_
      refine AL.p (by exact g_load_refN rfl rfl rfl rfl) rfl ?_
      refine AL.q (by exact h_alloc rfl) rfl ?_
      refine AL.q (by exact h_store rfl rfl rfl rfl rfl rfl) rfl ?_
      refine AL.nil ?_
      refine th_n ?_
      refine AC.seq ?_
      refine AC.weak (Weak.freezeRef (ds := evD l[k]) 5 rfl rfl) ?_
      refine AC.region ?_
      refine AL.q (by exact h_lit rfl rfl rfl rfl rfl rfl rfl rfl) rfl ?_
      refine AL.p (by exact as2 rfl) rfl ?_
      refine AL.nil ?_
      refine th_n ?_
      refine AC.seq ?_
      refine AC.seq ?_
      refine AC.region ?_
      refine AL.p (by exact g_fa_ref rfl rfl rfl rfl rfl rfl) rfl ?_
      refine AL.p (by exact g_load_ref rfl rfl rfl) rfl ?_
      refine AL.p (by exact g_len_view rfl rfl (by exact List.length_map _)) rfl ?_
      refine AL.p (by exact mv1 rfl) rfl ?_
      refine AL.nil ?_
      refine th_n ?_
      refine AC.block ?_
      refine AC.loop (ι := Nat) (fun j => ⟨43, 116, [(3, .own 100 ((l.map evT).take k).length), (5, .d (.ref (evD l[k]))), (6, .own 101 ((l[k].pre.map numN).take j).length), (10, .d (vEs l)), (11, aI l.length), (12, aI k), (18, .d (vI l[k].pre)), (19, aI l[k].pre.length), (20, aI j)], [(100, some (.arr 9 1 (txL ((l.map evT).take k)))), (101, some (.arr 9 1 (txL ((l[k].pre.map numN).take j))))]⟩) (fun j => j ≤ l[k].pre.length) (fun j => l[k].pre.length - j) (0) ?_ (Nat.zero_le _) ?_
      · exact Weak.ren _ [(100, 100), (101, 124)] hC rfl (by repeat (first | exact True.intro | refine And.intro ?_ ?_ | exact DLead.same | exact rfl | refine ⟨_, rfl, ?_⟩)) (by repeat (first | exact True.intro | refine And.intro ?_ ?_ | exact rfl | refine ⟨_, _, rfl, rfl, ?_⟩)) rfl rfl rfl
      · intro j hj
        refine AC.seq ?_
        refine AC.region ?_
        refine AL.p (by exact g_cmp rfl rfl rfl) rfl ?_
        refine AL.nil ?_
        refine th_n ?_
        refine AC.seq ?_
        refine AC.condD rfl (fun h1 => ?_) (fun h1 => ?_)
        · refine AC.skip ?_
          refine th_n ?_
          refine AC.seq ?_
          refine AC.block ?_
          refine AC.seq ?_
          have hj1 : j < l[k].pre.length := by omega
          have hgetj := ints_at hj1
          have hcb := hb3 _ (List.getElem_mem hj1)
          have hN := itoaI_spec l[k].pre[j] hcb
          have htj : ((l[k].pre.map numN).take j).length = j := by rw [List.length_take, List.length_map]; omega
          have hsj : (l[k].pre.map numN).take (j + 1) = (l[k].pre.map numN).take j ++ [numN l[k].pre[j]] := by rw [List.take_add_one, List.getElem?_map, List.getElem?_eq_getElem hj1]; rfl
          refine AC.region ?_
          refine AL.p (by exact g_ia_view rfl rfl rfl rfl rfl (by rfl) (by assumption)) rfl ?_
          refine AL.p (by exact g_load_ref rfl rfl rfl) rfl ?_
          refine AL.p (by exact as1 rfl) rfl ?_
          refine AL.nil ?_
          refine th_n ?_
          refine AC.region ?_
          refine AL.p (by exact mv2 rfl) rfl ?_
          refine AL.p (by exact mv1 rfl) rfl ?_
          refine AL.pureI hI en_itoa rfl rfl (by repeat (first | exact rfl | exact DLead.same | refine ⟨_, _, rfl, ?_, ?_⟩)) hN rfl rfl ?_
          refine AL.q (by exact h_litF rfl rfl rfl rfl rfl rfl rfl rfl) rfl ?_
          refine AL.q (by exact h_appendTx ((l[k].pre.map numN).take j) [numN l[k].pre[j]] (.own rfl rfl (txL_len _).symm) (.view rfl) (by rw [List.length_append, htj]; simp only [List.length_cons, List.length_nil]; omega) (by simp)) rfl ?_
          refine AL.p (by exact as2 rfl) rfl ?_
          refine AL.nil ?_
          refine ib_n ?_
          refine th_n ?_
          refine AC.region ?_
          refine AL.p (by exact g_arith rfl rfl rfl (by exact wrap_i64 (by omega))) rfl ?_
          refine AL.p (by exact mv1 rfl) rfl ?_
          refine AL.nil ?_
          refine th_n ?_
          exact ⟨j + 1, by omega, by omega, Weak.ren _ [(100, 100), (101, _)] hC rfl (by rw [hsj]; repeat (first | exact True.intro | refine And.intro ?_ ?_ | exact DLead.same | exact rfl | refine ⟨_, rfl, ?_⟩)) (by rw [hsj]; repeat (first | exact True.intro | refine And.intro ?_ ?_ | exact rfl | refine ⟨_, _, rfl, rfl, ?_⟩)) rfl rfl rfl⟩
        · refine AC.exit ?_
          refine th_e ?_
          refine th_e ?_
          refine ib_y ?_
          refine th_n ?_
          have hjj : j = l[k].pre.length := by omega
          subst hjj
          rw [List.take_of_length_le (show (l[k].pre.map numN).length ≤ l[k].pre.length by simp)]
          refine AC.weak (Weak.freeze (i := 6) rfl rfl (Nat.le_of_eq (txL_len _).symm) (List.take_of_length_le (Nat.le_of_eq (txL_len _)))) ?_
          have hN := itoaI_spec l[k].t hb1
          have hJ := sJoinA_spec (l[k].pre.map numN) [44] (by rw [List.length_map]; exact hb2) (by show (numsT l[k].pre).length ≤ _; omega)
          change ASpec Tryz.prog 39 _ _ (Pure1 (aS (bstr (numsT l[k].pre)))) at hJ
          refine AC.region ?_
          refine AL.p (by exact mv2 rfl) rfl ?_
          refine AL.p (by exact g_fa_ref rfl rfl rfl rfl rfl rfl) rfl ?_
          refine AL.p (by exact g_load_ref rfl rfl rfl) rfl ?_
          refine AL.pureI hI en_itoa rfl rfl (by repeat (first | exact rfl | exact DLead.same | refine ⟨_, _, rfl, ?_, ?_⟩)) hN rfl rfl ?_
          refine AL.p (by exact g_saddB (a := numN l[k].t) (b := [58]) rfl rfl (by (simp only [List.length_append, List.length_cons, List.length_nil]; omega))) rfl ?_
          refine AL.p (by exact mv1 rfl) rfl ?_
          refine AL.q (by exact h_pure en_sJoin rfl rfl (by repeat (first | exact rfl | exact DLead.same | refine ⟨_, _, rfl, ?_, ?_⟩)) hJ rfl) rfl ?_
          refine AL.p (by exact g_saddB (a := numN l[k].t ++ [58]) (b := numsT l[k].pre) rfl rfl (by (simp only [List.length_append, List.length_cons, List.length_nil]; omega))) rfl ?_
          refine AL.q (by exact h_litF rfl rfl rfl rfl rfl rfl rfl rfl) rfl ?_
          refine AL.q (by exact h_appendTx ((l.map evT).take k) [evT l[k]] (.own rfl rfl (txL_len _).symm) (.view rfl) (by rw [List.length_append, htl]; simp only [List.length_cons, List.length_nil]; omega) (by simp)) rfl ?_
          refine AL.p (by exact as2 rfl) rfl ?_
          refine AL.nil ?_
          refine ib_n ?_
          refine th_n ?_
          refine AC.region ?_
          refine AL.p (by exact g_arith rfl rfl rfl (by exact wrap_i64 (by omega))) rfl ?_
          refine AL.p (by exact mv1 rfl) rfl ?_
          refine AL.nil ?_
          refine th_n ?_
          exact ⟨k + 1, by omega, by omega, Weak.ren _ [(100, _)] hC rfl (by rw [hst]; repeat (first | exact True.intro | refine And.intro ?_ ?_ | exact DLead.same | exact rfl | refine ⟨_, rfl, ?_⟩)) (by rw [hst]; repeat (first | exact True.intro | refine And.intro ?_ ?_ | exact rfl | refine ⟨_, _, rfl, rfl, ?_⟩)) rfl rfl rfl⟩
    · refine AC.exit ?_
      refine th_e ?_
      refine th_e ?_
      refine ib_y ?_
      refine th_n ?_
      refine AC.seq ?_
      have hkk : k = l.length := by omega
      subst hkk
      have hjl2 := hjl l.length (by simp)
      rw [List.take_of_length_le (show (l.map evT).length ≤ l.length by simp)] at hjl2 ⊢
      refine AC.weak (Weak.freeze (i := 3) rfl rfl (Nat.le_of_eq (txL_len _).symm) (List.take_of_length_le (Nat.le_of_eq (txL_len _)))) ?_
      have hJ := sJoinA_spec (l.map evT) [59, 32] (by rw [List.length_map]; omega) (by omega)
      refine AC.region ?_
      refine AL.p (by exact mv1 rfl) rfl ?_
      refine AL.q (by exact h_pure en_sJoin rfl rfl (by repeat (first | exact rfl | exact DLead.same | refine ⟨_, _, rfl, ?_, ?_⟩)) hJ rfl) rfl ?_
      refine AL.p (by exact as1 rfl) rfl ?_
      refine AL.nil ?_
      refine th_n ?_
      refine AC.ret ?_
      refine bq_r ?_
      exact ret1 rfl rfl
theorem en_fmtEvents : Enters Tryz.prog 21 := enters_of Tryz.func21 rfl rfl
end Go.Proofs.YtgikfbfagdhopaaGreatDoor

