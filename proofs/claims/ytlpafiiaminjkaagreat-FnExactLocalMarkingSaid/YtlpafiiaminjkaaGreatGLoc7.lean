/- Contracts of the functions of the program and of the reference, each proved by a walk through its code. -/
import Derived.WalkKit
import Derived.WalkSpells
import Derived.WalkLawsBesides
import Derived.Deep.Draws
import Derived.Lib.Hide
import Derived.Maps.AppendAt
import Derived.OwnWalk
import Derived.Deep.MidRow
import Derived.Laws.ResultCell
import Derived.Deep.Upon
import Derived.Great.FillDense
import Derived.Laws.Tables
import Derived.Laws.BytesArg
import Derived.Laws.MakeOwn
import Derived.Great.BuildSlice
import Derived.ArgAppend
import Derived.Deep.AppendSrc
import Derived.Test.YtlpafiiaminjkaaGreatProg
import Derived.KernelRfl
import Derived.Orders
import Derived.Laws.IdiomStrings
import Derived.Lib.AppendZerosOnto
import Derived.ProofKit
import Derived.OpenShut
import Derived.Laws.StructEq
import Derived.ChangeKeysEq
import Derived.Sort.Grow
import Derived.Shelf.Small.Bits
import Derived.Shelf.Strconv.Itoa0
import Derived.Shelf.Sort.Plain
import Derived.Ground.Names2Prog
import Derived.Shelf.Slices.Clone
import Derived.Shelf.Slices.SearchI
import Derived.Shelf.Slices.In.SortNone
import Derived.Ground.SlgnProg
import Derived.Shelf.SlicesE.Clone
import Derived.Test.YtlpafiiaminjkaaGreatRows
import Derived.Test.YtlpafiiaminjkaaGreatChecked
import Derived.Test.YtlpafiiaminjkaaGreatGLoc6
set_option linter.all false
set_option maxRecDepth 20000
namespace Go.Proofs.YtlpafiiaminjkaaGreat
open Go.RowKit

def askB (N : Net) (m : List UInt8) (u : Unf) (e : Int) : Bool := goodU N m u && inE u e
theorem l8Asked_spec (N : Net) (m : List UInt8) (u : Unf) (e : Int) (hB : NetL N) (hm : m.length ≤ 2000000) (hu : UnfL u) : ASpec Tryz.prog 48 [netA N, aS (bstr m), unfA u, aI e] [] (Pure1 (aT (askB N m u e))) := by
  have hG := l7Good_spec N m u hB hm hu
  have hX := l1In_spec e 0 ((u.es.length : Int) - 1)
  have hue := hu.e
  change ASpec Tryz.prog 63 _ _ (Pure1 (aT (inE u e))) at hX
  unfold askB
  obtain ⟨g, hg⟩ : ∃ g, g = goodU N m u := ⟨_, rfl⟩
  obtain ⟨b, hb⟩ : ∃ b, b = inE u e := ⟨_, rfl⟩
  rw [← hg] at hG ⊢
  rw [← hb] at hX ⊢
  refine ASpec.of Tryz.func48 rfl rfl fun C hC => ?_
  refine AC.seq ?_
  refine AC.region ?_
  refine AL.q (by exact h_boxF rfl rfl) rfl ?_
  refine AL.q (by exact h_boxF rfl rfl) rfl ?_
  refine AL.p (by exact as1 rfl) rfl ?_
  refine AL.nil ?_
  refine th_n ?_
  refine AC.seq ?_
  refine AC.region ?_
  refine AL.p (by exact g_load_refN rfl rfl rfl rfl) rfl ?_
  refine AL.p (by exact mv1 rfl) rfl ?_
  refine AL.p (by exact g_load_refN rfl rfl rfl rfl) rfl ?_
  refine AL.q (by exact h_pure en_l7Good rfl rfl (by repeat (first | exact rfl | exact DLead.same | refine ⟨_, _, rfl, ?_, ?_⟩ | refine ⟨_, rfl, ?_⟩)) hG rfl) rfl ?_
  refine AL.p (by exact mv1 rfl) rfl ?_
  refine AL.caseGB rfl rfl (fun h0 => ?_) (fun h0 => ?_)
  · refine AL.yes rfl rfl rfl ?_
    refine AL.p (by exact mv1 rfl) rfl ?_
    refine AL.yes rfl rfl rfl ?_
    refine AL.p (by exact g_fa_ref rfl rfl rfl rfl rfl rfl) rfl ?_
    refine AL.yes rfl rfl rfl ?_
    refine AL.p (by exact g_load_ref rfl rfl rfl) rfl ?_
    refine AL.yes rfl rfl rfl ?_
    refine AL.p (by exact g_len_view rfl rfl (by exact List.length_map _)) rfl ?_
    refine AL.yes rfl rfl rfl ?_
    refine AL.p (by exact g_arith rfl rfl rfl (by exact wrap_i64 (by omega))) rfl ?_
    refine AL.yes rfl rfl rfl ?_
    refine AL.q (by exact h_pure en_l1In rfl rfl (by repeat (first | exact rfl | exact DLead.same | refine ⟨_, _, rfl, ?_, ?_⟩)) hX rfl) rfl ?_
    refine AL.p (by exact g_pickT (r := .d _) rfl rfl) rfl ?_
    refine AL.p (by exact as1 rfl) rfl ?_
    refine AL.nil ?_
    refine th_n ?_
    refine AC.ret ?_
    refine bq_r ?_
    exact ret1 rfl (by rw [h0]; rfl)
  · refine AL.not rfl rfl rfl rfl rfl ?_
    refine AL.not rfl rfl rfl rfl rfl ?_
    refine AL.not rfl rfl rfl rfl rfl ?_
    refine AL.not rfl rfl rfl rfl rfl ?_
    refine AL.not rfl rfl rfl rfl rfl ?_
    refine AL.not rfl rfl rfl rfl rfl ?_
    refine AL.p (by exact g_pickF (r := .d _) rfl rfl) rfl ?_
    refine AL.p (by exact as1 rfl) rfl ?_
    refine AL.nil ?_
    refine th_n ?_
    refine AC.ret ?_
    refine bq_r ?_
    exact ret1 rfl (by rw [h0]; rfl)
theorem en_l8Asked : Enters Tryz.prog 48 := enters_of Tryz.func48 rfl rfl
def hasRes (N : Net) (m : List UInt8) (u : Unf) (es : List Int) : AV → List (Nat × Chunk) → Prop := if (goodU N m u && es.all (inE u)) = true then Fun1 (.tup [.ptr 0 0, aT true]) (brChs N u (locL N m u) (agaA N m u)) else Pure1 (.tup [.dead, aT false])
theorem hasRes_t {N : Net} {m : List UInt8} {u : Unf} {es : List Int} (h : (goodU N m u && es.all (inE u)) = true) : hasRes N m u es = Fun1 (.tup [.ptr 0 0, aT true]) (brChs N u (locL N m u) (agaA N m u)) := if_pos h
theorem hasRes_f {N : Net} {m : List UInt8} {u : Unf} {es : List Int} (h : (goodU N m u && es.all (inE u)) = false) : hasRes N m u es = Pure1 (.tup [.dead, aT false]) := if_neg (by rw [h]; exact Bool.false_ne_true)
theorem all_take {p : Int → Bool} {l : List Int} {k : Nat} (hk : k < l.length) : (l.take (k + 1)).all p = ((l.take k).all p && p l[k]) := by
  rw [List.take_add_one, List.getElem?_eq_getElem hk, List.all_append]; simp
set_option maxHeartbeats 2000000 in
theorem hasEvents_f (N : Net) (m : List UInt8) (u : Unf) (es : List Int) (hB : NetL N) (hm : m.length ≤ 2000000) (hu : UnfL u) (hes : es.length ≤ 1000) (hg : goodU N m u = false) : ASpec Tryz.prog 53 [netA N, aS (bstr m), unfA u, .d (vI es)] [] (hasRes N m u es) := by
  have hS := branchingOf_spec N m u hB hm hu
  have hue := hu.e
  rw [brRes_f hg] at hS
  rw [hasRes_f (by rw [hg]; rfl)]
  refine ASpec.of Tryz.func53 rfl rfl fun C hC => ?_
  refine AC.seq ?_
  refine AC.region ?_
  refine AL.q (by exact h_boxF rfl rfl) rfl ?_
  refine AL.q (by exact h_boxF rfl rfl) rfl ?_
  refine AL.p (by exact as1 rfl) rfl ?_
  refine AL.p (by exact as1 rfl) rfl ?_
  refine AL.nil ?_
  refine th_n ?_
  refine AC.seq ?_
  refine AC.region ?_
  refine AL.p (by exact g_load_refN rfl rfl rfl rfl) rfl ?_
  refine AL.p (by exact mv1 rfl) rfl ?_
  refine AL.p (by exact g_load_refN rfl rfl rfl rfl) rfl ?_
  refine AL.q (by exact h_fun (cs := []) en_branchingOf rfl rfl (by repeat (first | exact rfl | exact DLead.same | refine ⟨_, _, rfl, ?_, ?_⟩ | refine ⟨_, rfl, ?_⟩)) (by repeat (exact True.intro)) hS rfl rfl rfl rfl) rfl ?_
  refine AL.p (by exact mv5 rfl) rfl ?_
  refine AL.p (by exact g_extract (r := .dead) rfl rfl) rfl ?_
  refine AL.p (by exact g_extract (r := .d _) rfl rfl) rfl ?_
  refine AL.p (by exact as9 rfl) rfl ?_
  refine AL.p (by exact as1 rfl) rfl ?_
  refine AL.nil ?_
  refine th_n ?_
  refine AC.seq ?_
  refine AC.seq ?_
  refine AC.region ?_
  refine AL.p (by exact mv1 rfl) rfl ?_
  refine AL.p (by exact g_len_view rfl rfl (by exact List.length_map _)) rfl ?_
  refine AL.p (by exact mv1 rfl) rfl ?_
  refine AL.nil ?_
  refine th_n ?_
  refine AC.block ?_
  refine AC.loop (ι := Nat) (fun k => ⟨39, 108, [(6, .d (.ref (unfD u))), (11, aT false), (21, .d (vI es)), (22, aI es.length), (23, aI k)], []⟩) (fun k => k ≤ es.length) (fun k => es.length - k) (0) ?_ (Nat.zero_le _) ?_
  · exact Weak.ren _ [] hC rfl (by repeat (first | exact True.intro | refine And.intro ?_ ?_ | exact DLead.same)) (by repeat (exact True.intro)) rfl rfl rfl
  · intro k hk
    refine AC.seq ?_
    refine AC.region ?_
    refine AL.p (by exact g_cmp rfl rfl rfl) rfl ?_
    refine AL.nil ?_
    refine th_n ?_
    refine AC.seq ?_
    refine AC.condD rfl (fun h0 => ?_) (fun h0 => ?_)
    · refine AC.skip ?_
      refine th_n ?_
      refine AC.seq ?_
      refine AC.block ?_
      refine AC.seq ?_
      have hk1 : k < es.length := by omega
      have hget := ints_at hk1
      refine AC.region ?_
      refine AL.p (by exact g_ia_view rfl rfl rfl rfl rfl (by rfl) (by assumption)) rfl ?_
      refine AL.p (by exact g_load_ref rfl rfl rfl) rfl ?_
      refine AL.p (by exact as1 rfl) rfl ?_
      refine AL.nil ?_
      refine th_n ?_
      refine AC.region ?_
      refine AL.p (by exact mv1 rfl) rfl ?_
      refine AL.p (by exact mv1 rfl) rfl ?_
      refine AL.caseGB rfl rfl (fun h1 => ?_) (fun h1 => ?_)
      · refine AL.yes rfl rfl rfl ?_
        refine AL.p (by exact mv1 rfl) rfl ?_
        refine AL.yes rfl rfl rfl ?_
        refine AL.p (by exact g_fa_ref rfl rfl rfl rfl rfl rfl) rfl ?_
        refine AL.yes rfl rfl rfl ?_
        refine AL.p (by exact g_load_ref rfl rfl rfl) rfl ?_
        refine AL.yes rfl rfl rfl ?_
        refine AL.p (by exact g_len_view rfl rfl (by exact List.length_map _)) rfl ?_
        refine AL.yes rfl rfl rfl ?_
        refine AL.p (by exact g_arith rfl rfl rfl (by exact wrap_i64 (by omega))) rfl ?_
        refine AL.yes rfl rfl rfl ?_
        refine AL.q (by exact h_pure en_within rfl rfl (by repeat (first | exact rfl | exact DLead.same | refine ⟨_, _, rfl, ?_, ?_⟩)) (within_spec _ _ _) rfl) rfl ?_
        refine AL.p (by exact g_pickT (r := .d _) rfl rfl) rfl ?_
        refine AL.p (by exact as1 rfl) rfl ?_
        refine AL.nil ?_
        refine ib_n ?_
        refine th_n ?_
        refine AC.region ?_
        refine AL.p (by exact g_arith rfl rfl rfl (by exact wrap_i64 (by omega))) rfl ?_
        refine AL.p (by exact mv1 rfl) rfl ?_
        refine AL.nil ?_
        refine th_n ?_
        exact absurd h1 Bool.false_ne_true
      · refine AL.not rfl rfl rfl rfl rfl ?_
        refine AL.not rfl rfl rfl rfl rfl ?_
        refine AL.not rfl rfl rfl rfl rfl ?_
        refine AL.not rfl rfl rfl rfl rfl ?_
        refine AL.not rfl rfl rfl rfl rfl ?_
        refine AL.not rfl rfl rfl rfl rfl ?_
        refine AL.p (by exact g_pickF (r := .d _) rfl rfl) rfl ?_
        refine AL.p (by exact as1 rfl) rfl ?_
        refine AL.nil ?_
        refine ib_n ?_
        refine th_n ?_
        refine AC.region ?_
        refine AL.p (by exact g_arith rfl rfl rfl (by exact wrap_i64 (by omega))) rfl ?_
        refine AL.p (by exact mv1 rfl) rfl ?_
        refine AL.nil ?_
        refine th_n ?_
        exact ⟨k + 1, by omega, by omega, Weak.ren _ [] hC rfl (by repeat (first | exact True.intro | refine And.intro ?_ ?_ | exact DLead.same)) (by repeat (exact True.intro)) rfl rfl rfl⟩
    · refine AC.exit ?_
      refine th_e ?_
      refine th_e ?_
      refine ib_y ?_
      refine th_n ?_
      refine AC.seq ?_
      refine AC.region ?_
      refine AL.p (by exact mv9 rfl) rfl ?_
      refine AL.p (by exact mv1 rfl) rfl ?_
      refine AL.p (by exact as9 rfl) rfl ?_
      refine AL.p (by exact as1 rfl) rfl ?_
      refine AL.nil ?_
      refine th_n ?_
      refine AC.ret ?_
      refine bq_r ?_
      exact ret0 rfl (by repeat (first | exact rfl | exact DLead.same | exact True.intro | refine ⟨_, _, rfl, ?_, ?_⟩ | refine ⟨_, rfl, ?_⟩))
set_option maxHeartbeats 4000000 in
theorem hasEvents_t (N : Net) (m : List UInt8) (u : Unf) (es : List Int) (hB : NetL N) (hm : m.length ≤ 2000000) (hu : UnfL u) (hes : es.length ≤ 1000) (hg : goodU N m u = true) : ASpec Tryz.prog 53 [netA N, aS (bstr m), unfA u, .d (vI es)] [] (hasRes N m u es) := by
  have hS := branchingOf_spec N m u hB hm hu
  have hue := hu.e
  rw [brRes_t hg] at hS
  have hrt := fun h => hasRes_t (N := N) (m := m) (u := u) (es := es) h
  have hrf := fun h => hasRes_f (N := N) (m := m) (u := u) (es := es) h
  rw [hg, Bool.true_and] at hrt hrf
  obtain ⟨L, hL⟩ : ∃ L, L = locL N m u := ⟨_, rfl⟩
  obtain ⟨A, hA⟩ : ∃ A, A = agaA N m u := ⟨_, rfl⟩
  rw [← hL, ← hA] at hS hrt
  refine ASpec.of Tryz.func53 rfl rfl fun C hC => ?_
  refine AC.seq ?_
  refine AC.region ?_
  refine AL.q (by exact h_boxF rfl rfl) rfl ?_
  refine AL.q (by exact h_boxF rfl rfl) rfl ?_
  refine AL.p (by exact as1 rfl) rfl ?_
  refine AL.p (by exact as1 rfl) rfl ?_
  refine AL.nil ?_
  refine th_n ?_
  refine AC.seq ?_
  refine AC.region ?_
  refine AL.p (by exact g_load_refN rfl rfl rfl rfl) rfl ?_
  refine AL.p (by exact mv1 rfl) rfl ?_
  refine AL.p (by exact g_load_refN rfl rfl rfl rfl) rfl ?_
  refine AL.q (by exact h_fun (cs := []) en_branchingOf rfl rfl (by repeat (first | exact rfl | exact DLead.same | refine ⟨_, _, rfl, ?_, ?_⟩ | refine ⟨_, rfl, ?_⟩)) (by repeat (exact True.intro)) hS rfl rfl rfl rfl) rfl ?_
  refine AL.p (by exact mv5 rfl) rfl ?_
  refine AL.p (by exact g_extract (r := .ptr _ _) rfl rfl) rfl ?_
  refine AL.p (by exact g_extract (r := .d _) rfl rfl) rfl ?_
  refine AL.p (by exact as3 rfl) rfl ?_
  refine AL.p (by exact as1 rfl) rfl ?_
  refine AL.nil ?_
  refine th_n ?_
  refine AC.seq ?_
  refine AC.seq ?_
  refine AC.region ?_
  refine AL.p (by exact mv1 rfl) rfl ?_
  refine AL.p (by exact g_len_view rfl rfl (by exact List.length_map _)) rfl ?_
  refine AL.p (by exact mv1 rfl) rfl ?_
  refine AL.nil ?_
  refine th_n ?_
  refine AC.block ?_
  refine AC.loop (ι := Nat) (fun k => ⟨39, 136, [(6, .d (.ref (unfD u))), (10, .ptr 100 0), (11, aT ((es.take k).all (inE u))), (21, .d (vI es)), (22, aI es.length), (23, aI k)], [(100, some (brC N 101 u.cs.length 102 u.es.length 103 L.length 104 A.length)), (101, some (.arr 142 2 (condsL u.cs))), (102, some (.arr 78 2 (evsL u.es))), (103, some (.arr 100 1 (esL L))), (104, some (.arr 100 1 (esL A)))]⟩) (fun k => k ≤ es.length) (fun k => es.length - k) (0) ?_ (Nat.zero_le _) ?_
  · exact Weak.ren _ [(100, _), (101, _), (102, _), (103, _), (104, _)] hC rfl (by repeat (first | exact True.intro | refine And.intro ?_ ?_ | exact DLead.same | exact rfl | refine ⟨_, rfl, ?_⟩)) (by repeat (first | exact True.intro | refine And.intro ?_ ?_ | exact DLead.same | exact rfl | refine ⟨_, _, rfl, rfl, ?_⟩ | refine ⟨_, rfl, ?_⟩ | refine ⟨_, _, rfl, ?_, ?_⟩)) rfl rfl rfl
  · intro k hk
    refine AC.seq ?_
    refine AC.region ?_
    refine AL.p (by exact g_cmp rfl rfl rfl) rfl ?_
    refine AL.nil ?_
    refine th_n ?_
    refine AC.seq ?_
    refine AC.condD rfl (fun h0 => ?_) (fun h0 => ?_)
    · refine AC.skip ?_
      refine th_n ?_
      refine AC.seq ?_
      refine AC.block ?_
      refine AC.seq ?_
      have hk1 : k < es.length := by omega
      have hget := ints_at hk1
      have hat := all_take (p := inE u) hk1
      have hW := within_spec es[k] 0 ((u.es.length : Int) - 1)
      change ASpec Tryz.prog 75 _ _ (Pure1 (aT (inE u es[k]))) at hW
      obtain ⟨b, hb⟩ : ∃ b, b = (es.take k).all (inE u) := ⟨_, rfl⟩
      obtain ⟨b2, hb2⟩ : ∃ b2, b2 = inE u es[k] := ⟨_, rfl⟩
      rw [← hb2] at hW
      rw [← hb, ← hb2] at hat
      rw [← hb]
      refine AC.region ?_
      refine AL.p (by exact g_ia_view rfl rfl rfl rfl rfl (by rfl) (by assumption)) rfl ?_
      refine AL.p (by exact g_load_ref rfl rfl rfl) rfl ?_
      refine AL.p (by exact as1 rfl) rfl ?_
      refine AL.nil ?_
      refine th_n ?_
      refine AC.region ?_
      refine AL.p (by exact mv1 rfl) rfl ?_
      refine AL.p (by exact mv1 rfl) rfl ?_
      refine AL.caseGB rfl rfl (fun h1 => ?_) (fun h1 => ?_)
      · refine AL.yes rfl rfl rfl ?_
        refine AL.p (by exact mv1 rfl) rfl ?_
        refine AL.yes rfl rfl rfl ?_
        refine AL.p (by exact g_fa_ref rfl rfl rfl rfl rfl rfl) rfl ?_
        refine AL.yes rfl rfl rfl ?_
        refine AL.p (by exact g_load_ref rfl rfl rfl) rfl ?_
        refine AL.yes rfl rfl rfl ?_
        refine AL.p (by exact g_len_view rfl rfl (by exact List.length_map _)) rfl ?_
        refine AL.yes rfl rfl rfl ?_
        refine AL.p (by exact g_arith rfl rfl rfl (by exact wrap_i64 (by omega))) rfl ?_
        refine AL.yes rfl rfl rfl ?_
        refine AL.q (by exact h_pure en_within rfl rfl (by repeat (first | exact rfl | exact DLead.same | refine ⟨_, _, rfl, ?_, ?_⟩)) hW rfl) rfl ?_
        refine AL.p (by exact g_pickT (r := .d _) rfl rfl) rfl ?_
        refine AL.p (by exact as1 rfl) rfl ?_
        refine AL.nil ?_
        refine ib_n ?_
        refine th_n ?_
        refine AC.region ?_
        refine AL.p (by exact g_arith rfl rfl rfl (by exact wrap_i64 (by omega))) rfl ?_
        refine AL.p (by exact mv1 rfl) rfl ?_
        refine AL.nil ?_
        refine th_n ?_
        exact ⟨k + 1, by omega, by omega, Weak.ren _ [(100, _), (101, _), (102, _), (103, _), (104, _)] hC rfl (by rw [hat, h1]; repeat (first | exact True.intro | refine And.intro ?_ ?_ | exact DLead.same | exact rfl | refine ⟨_, rfl, ?_⟩)) (by repeat (first | exact True.intro | refine And.intro ?_ ?_ | exact DLead.same | exact rfl | refine ⟨_, _, rfl, rfl, ?_⟩ | refine ⟨_, rfl, ?_⟩ | refine ⟨_, _, rfl, ?_, ?_⟩)) rfl rfl rfl⟩
      · refine AL.not rfl rfl rfl rfl rfl ?_
        refine AL.not rfl rfl rfl rfl rfl ?_
        refine AL.not rfl rfl rfl rfl rfl ?_
        refine AL.not rfl rfl rfl rfl rfl ?_
        refine AL.not rfl rfl rfl rfl rfl ?_
        refine AL.not rfl rfl rfl rfl rfl ?_
        refine AL.p (by exact g_pickF (r := .d _) rfl rfl) rfl ?_
        refine AL.p (by exact as1 rfl) rfl ?_
        refine AL.nil ?_
        refine ib_n ?_
        refine th_n ?_
        refine AC.region ?_
        refine AL.p (by exact g_arith rfl rfl rfl (by exact wrap_i64 (by omega))) rfl ?_
        refine AL.p (by exact mv1 rfl) rfl ?_
        refine AL.nil ?_
        refine th_n ?_
        exact ⟨k + 1, by omega, by omega, Weak.ren _ [(100, _), (101, _), (102, _), (103, _), (104, _)] hC rfl (by rw [hat, h1]; repeat (first | exact True.intro | refine And.intro ?_ ?_ | exact DLead.same | exact rfl | refine ⟨_, rfl, ?_⟩)) (by repeat (first | exact True.intro | refine And.intro ?_ ?_ | exact DLead.same | exact rfl | refine ⟨_, _, rfl, rfl, ?_⟩ | refine ⟨_, rfl, ?_⟩ | refine ⟨_, _, rfl, ?_, ?_⟩)) rfl rfl rfl⟩
    · refine AC.exit ?_
      refine th_e ?_
      refine th_e ?_
      refine ib_y ?_
      refine th_n ?_
      refine AC.seq ?_
      refine AC.region ?_
      refine AL.p (by exact mv3 rfl) rfl ?_
      refine AL.p (by exact mv1 rfl) rfl ?_
      refine AL.p (by exact as3 rfl) rfl ?_
      refine AL.p (by exact as1 rfl) rfl ?_
      refine AL.nil ?_
      refine th_n ?_
      refine AC.ret ?_
      refine bq_r ?_
      have hkk : k = es.length := by omega
      rw [hkk, List.take_length]
      cases hz : es.all (inE u)
      rw [hrf hz]
      exact ret0 rfl (by repeat (first | exact rfl | exact DLead.same | exact True.intro | refine ⟨_, _, rfl, ?_, ?_⟩ | refine ⟨_, rfl, ?_⟩))
      rw [hrt hz]
      exact retN [(0, _), (1, _), (2, _), (3, _), (4, _)] rfl (by repeat (first | exact rfl | exact DLead.same | refine ⟨_, _, rfl, ?_, ?_⟩ | refine ⟨_, rfl, ?_⟩)) (by repeat (first | exact True.intro | refine And.intro ?_ ?_ | exact DLead.same | exact rfl | refine ⟨_, _, rfl, rfl, ?_⟩ | refine ⟨_, rfl, ?_⟩ | refine ⟨_, _, rfl, ?_, ?_⟩)) rfl rfl
theorem en_hasEvents : Enters Tryz.prog 53 := enters_of Tryz.func53 rfl rfl
theorem hasEvents_spec (N : Net) (m : List UInt8) (u : Unf) (es : List Int) (hB : NetL N) (hm : m.length ≤ 2000000) (hu : UnfL u) (hes : es.length ≤ 1000) : ASpec Tryz.prog 53 [netA N, aS (bstr m), unfA u, .d (vI es)] [] (hasRes N m u es) := by
  cases hg : goodU N m u with
  | true => exact hasEvents_t N m u es hB hm hu hes hg
  | false => exact hasEvents_f N m u es hB hm hu hes hg
end Go.Proofs.YtlpafiiaminjkaaGreat

set_option linter.all false
set_option maxRecDepth 20000
namespace Go.Proofs.YtlpafiiaminjkaaGreat
open Go.RowKit

theorem ask_iff {N : Net} {m : List UInt8} {u : Unf} {e : Int} (h : askB N m u e = true) : Good N m u ∧ 0 ≤ e ∧ e < u.es.length := by
  unfold askB at h
  rw [Bool.and_eq_true] at h
  exact ⟨goodU_iff h.1, inE_iff h.2⟩
theorem ask_all (N : Net) (m : List UInt8) (u : Unf) (e : Int) : (goodU N m u && [e].all (inE u)) = askB N m u e := by unfold askB; simp
def locR (N : Net) (m : List UInt8) (u : Unf) (e : Int) : List UInt8 := if askB N m u e = true then locM N u e else []
set_option maxHeartbeats 1000000 in
theorem sLocalM_spec (N : Net) (m : List UInt8) (u : Unf) (e : Int) (hB : NetL N) (hm : m.length ≤ 2000000) (hu : UnfL u) (he : okI e) : ASpec Tryz.prog 12 [netA N, aS (bstr m), unfA u, aI e] [] (Pure1 (.tup [aS (bstr (locR N m u e)), aT (askB N m u e)])) := by
  have hA := l8Asked_spec N m u e hB hm hu
  obtain ⟨a, ha⟩ : ∃ a, a = askB N m u e := ⟨_, rfl⟩
  have hR : locR N m u e = if a = true then locM N u e else [] := by rw [ha]; rfl
  have hi : a = true → Good N m u ∧ 0 ≤ e ∧ e < u.es.length := fun q => ask_iff (ha.symm.trans q)
  rw [← ha] at hA ⊢
  rw [hR]
  refine ASpec.of Tryz.func12 rfl rfl fun C hC => ?_
  refine AC.seq ?_
  refine AC.region ?_
  refine AL.q (by exact h_boxF rfl rfl) rfl ?_
  refine AL.q (by exact h_boxF rfl rfl) rfl ?_
  refine AL.p (by exact as1 rfl) rfl ?_
  refine AL.p (by exact as1 rfl) rfl ?_
  refine AL.nil ?_
  refine th_n ?_
  refine AC.seq ?_
  refine AC.seq ?_
  refine AC.region ?_
  refine AL.p (by exact g_load_refN rfl rfl rfl rfl) rfl ?_
  refine AL.p (by exact mv1 rfl) rfl ?_
  refine AL.p (by exact g_load_refN rfl rfl rfl rfl) rfl ?_
  refine AL.p (by exact mv1 rfl) rfl ?_
  refine AL.q (by exact h_pure en_l8Asked rfl rfl (by repeat (first | exact rfl | exact DLead.same | refine ⟨_, _, rfl, ?_, ?_⟩ | refine ⟨_, rfl, ?_⟩)) hA rfl) rfl ?_
  refine AL.p (by exact g_not rfl) rfl ?_
  refine AL.nil ?_
  refine th_n ?_
  refine AC.condB rfl (fun h0 => ?_) (fun h0 => ?_)
  · refine AC.seq ?_
    refine AC.region ?_
    refine AL.p (by exact as1 rfl) rfl ?_
    refine AL.p (by exact as1 rfl) rfl ?_
    refine AL.nil ?_
    refine th_n ?_
    refine AC.ret ?_
    refine th_r ?_
    refine bq_r ?_
    have h0' := (Bool.not_eq_true' _).mp h0
    exact ret2 rfl (by rw [h0']; rfl) (by rw [h0'])
  · refine AC.skip ?_
    refine th_n ?_
    refine AC.seq ?_
    have h0' := (Bool.not_eq_false' _).mp h0
    obtain ⟨hG, hin⟩ := hi h0'
    have hL := l8Local_spec N u e hG.n hG.tru.w.w hin
    obtain ⟨lm, hlm⟩ : ∃ lm, lm = locM N u e := ⟨_, rfl⟩
    rw [← hlm] at hL
    refine AC.region ?_
    refine AL.p (by exact g_load_refN rfl rfl rfl rfl) rfl ?_
    refine AL.p (by exact g_load_refN rfl rfl rfl rfl) rfl ?_
    refine AL.p (by exact mv1 rfl) rfl ?_
    refine AL.q (by exact h_pure en_l8Local rfl rfl (by repeat (first | exact rfl | exact DLead.same | refine ⟨_, _, rfl, ?_, ?_⟩ | refine ⟨_, rfl, ?_⟩)) hL rfl) rfl ?_
    refine AL.p (by exact as1 rfl) rfl ?_
    refine AL.p (by exact as1 rfl) rfl ?_
    refine AL.nil ?_
    refine th_n ?_
    refine AC.ret ?_
    refine bq_r ?_
    exact ret2 rfl (by rw [h0', hlm]; rfl) (by rw [h0'])
theorem en_sLocalM : Enters Tryz.prog 12 := enters_of Tryz.func12 rfl rfl
theorem iLocalM_f (N : Net) (m : List UInt8) (u : Unf) (e : Int) (hB : NetL N) (hm : m.length ≤ 2000000) (hu : UnfL u) (ha : askB N m u e = false) : ASpec Tryz.prog 15 [netA N, aS (bstr m), unfA u, aI e] [] (Pure1 (.tup [aS (bstr (locR N m u e)), aT (askB N m u e)])) := by
  have hS := hasEvents_spec N m u [e] hB hm hu (by simp)
  rw [hasRes_f ((ask_all N m u e).trans ha)] at hS
  have hR : locR N m u e = [] := by unfold locR; rw [ha]; rfl
  rw [hR, ha]
  refine ASpec.of Tryz.func15 rfl rfl fun C hC => ?_
  refine AC.seq ?_
  refine AC.region ?_
  refine AL.q (by exact h_boxF rfl rfl) rfl ?_
  refine AL.q (by exact h_boxF rfl rfl) rfl ?_
  refine AL.p (by exact as1 rfl) rfl ?_
  refine AL.p (by exact as1 rfl) rfl ?_
  refine AL.nil ?_
  refine th_n ?_
  refine AC.seq ?_
  refine AC.region ?_
  refine AL.p (by exact g_load_refN rfl rfl rfl rfl) rfl ?_
  refine AL.p (by exact mv1 rfl) rfl ?_
  refine AL.p (by exact g_load_refN rfl rfl rfl rfl) rfl ?_
  refine AL.p (by exact mv1 rfl) rfl ?_
  refine AL.q (by exact h_litF rfl rfl rfl rfl rfl rfl rfl rfl) rfl ?_
  refine AL.q (by exact h_fun (cs := []) en_hasEvents rfl rfl (by repeat (first | exact rfl | exact DLead.same | refine ⟨_, _, rfl, ?_, ?_⟩ | refine ⟨_, rfl, ?_⟩)) (by repeat (exact True.intro)) hS rfl rfl rfl rfl) rfl ?_
  refine AL.p (by exact mv5 rfl) rfl ?_
  refine AL.p (by exact g_extract (r := .dead) rfl rfl) rfl ?_
  refine AL.p (by exact g_extract (r := .d _) rfl rfl) rfl ?_
  refine AL.p (by exact as9 rfl) rfl ?_
  refine AL.p (by exact as1 rfl) rfl ?_
  refine AL.nil ?_
  refine th_n ?_
  refine AC.seq ?_
  refine AC.seq ?_
  refine AC.region ?_
  refine AL.p (by exact mv1 rfl) rfl ?_
  refine AL.p (by exact g_not rfl) rfl ?_
  refine AL.nil ?_
  refine th_n ?_
  refine AC.condB rfl (fun h0 => ?_) (fun h0 => ?_)
  · refine AC.seq ?_
    refine AC.region ?_
    refine AL.p (by exact as1 rfl) rfl ?_
    refine AL.p (by exact as1 rfl) rfl ?_
    refine AL.nil ?_
    refine th_n ?_
    refine AC.ret ?_
    refine th_r ?_
    refine bq_r ?_
    exact ret2 rfl rfl rfl
  · refine AC.skip ?_
    refine th_n ?_
    refine AC.seq ?_
    exact absurd h0 (by decide)
set_option maxHeartbeats 1000000 in
theorem iLocalM_t (N : Net) (m : List UInt8) (u : Unf) (e : Int) (hB : NetL N) (hm : m.length ≤ 2000000) (hu : UnfL u) (ha : askB N m u e = true) : ASpec Tryz.prog 15 [netA N, aS (bstr m), unfA u, aI e] [] (Pure1 (.tup [aS (bstr (locR N m u e)), aT (askB N m u e)])) := by
  have hS := hasEvents_spec N m u [e] hB hm hu (by simp)
  rw [hasRes_t ((ask_all N m u e).trans ha)] at hS
  obtain ⟨hG, hin⟩ := ask_iff ha
  have hT := hG.tru
  have hR : locR N m u e = locM N u e := by unfold locR; rw [ha]; rfl
  rw [hR, ha]
  obtain ⟨L, hL⟩ : ∃ L, L = locL N m u := ⟨_, rfl⟩
  obtain ⟨A, hA⟩ : ∃ A, A = agaA N m u := ⟨_, rfl⟩
  rw [← hL, ← hA] at hT hS
  have hLo := brLocal_spec N u L A e hG.n hG.pl hT hin
  obtain ⟨lm, hlm⟩ : ∃ lm, lm = locM N u e := ⟨_, rfl⟩
  rw [← hlm] at hLo ⊢
  refine ASpec.of Tryz.func15 rfl rfl fun C hC => ?_
  refine AC.seq ?_
  refine AC.region ?_
  refine AL.q (by exact h_boxF rfl rfl) rfl ?_
  refine AL.q (by exact h_boxF rfl rfl) rfl ?_
  refine AL.p (by exact as1 rfl) rfl ?_
  refine AL.p (by exact as1 rfl) rfl ?_
  refine AL.nil ?_
  refine th_n ?_
  refine AC.seq ?_
  refine AC.region ?_
  refine AL.p (by exact g_load_refN rfl rfl rfl rfl) rfl ?_
  refine AL.p (by exact mv1 rfl) rfl ?_
  refine AL.p (by exact g_load_refN rfl rfl rfl rfl) rfl ?_
  refine AL.p (by exact mv1 rfl) rfl ?_
  refine AL.q (by exact h_litF rfl rfl rfl rfl rfl rfl rfl rfl) rfl ?_
  refine AL.q (by exact h_fun (cs := []) en_hasEvents rfl rfl (by repeat (first | exact rfl | exact DLead.same | refine ⟨_, _, rfl, ?_, ?_⟩ | refine ⟨_, rfl, ?_⟩)) (by repeat (exact True.intro)) hS rfl rfl rfl rfl) rfl ?_
  refine AL.p (by exact mv5 rfl) rfl ?_
  refine AL.p (by exact g_extract (r := .ptr _ _) rfl rfl) rfl ?_
  refine AL.p (by exact g_extract (r := .d _) rfl rfl) rfl ?_
  refine AL.p (by exact as3 rfl) rfl ?_
  refine AL.p (by exact as1 rfl) rfl ?_
  refine AL.nil ?_
  refine th_n ?_
  refine AC.seq ?_
  refine AC.seq ?_
  refine AC.region ?_
  refine AL.p (by exact mv1 rfl) rfl ?_
  refine AL.p (by exact g_not rfl) rfl ?_
  refine AL.nil ?_
  refine th_n ?_
  refine AC.condB rfl (fun h0 => ?_) (fun h0 => ?_)
  · refine AC.seq ?_
    exact absurd h0 (by decide)
  · refine AC.skip ?_
    refine th_n ?_
    refine AC.seq ?_
    refine AC.region ?_
    refine AL.p (by exact mv3 rfl) rfl ?_
    refine AL.p (by exact mv1 rfl) rfl ?_
    refine AL.q (by exact h_borrow [24, 25, 26, 27, 28] en_brLocal rfl rfl hLo (br_lent [24, 25, 26, 27, 28] 24 25 26 27 28 rfl rfl rfl rfl rfl rfl rfl rfl rfl rfl (.cons (.of .d) .nil)) rfl) rfl ?_
    refine AL.p (by exact as1 rfl) rfl ?_
    refine AL.p (by exact as1 rfl) rfl ?_
    refine AL.nil ?_
    refine th_n ?_
    refine AC.ret ?_
    refine bq_r ?_
    exact ret2 rfl rfl rfl
theorem en_iLocalM : Enters Tryz.prog 15 := enters_of Tryz.func15 rfl rfl
theorem iLocalM_spec (N : Net) (m : List UInt8) (u : Unf) (e : Int) (hB : NetL N) (hm : m.length ≤ 2000000) (hu : UnfL u) (he : okI e) : ASpec Tryz.prog 15 [netA N, aS (bstr m), unfA u, aI e] [] (Pure1 (.tup [aS (bstr (locR N m u e)), aT (askB N m u e)])) := by
  cases ha : askB N m u e with
  | true => rw [← ha]; exact iLocalM_t N m u e hB hm hu ha
  | false => rw [← ha]; exact iLocalM_f N m u e hB hm hu ha
end Go.Proofs.YtlpafiiaminjkaaGreat

set_option linter.all false
set_option maxRecDepth 20000
namespace Go.Proofs.YtlpafiiaminjkaaGreat
open Go.RowKit

set_option maxRecDepth 20000 in
set_option maxHeartbeats 8000000 in
theorem FnExactLocalMarking_spec (N : Net) (m : List UInt8) (u : Unf) (i : Int) (hN : ArgN N) (hm : m.length ≤ 9223372036854775807) (hu : ArgU u) (hi : okI i) : ASpec Tryz.prog 3 [lnetA N, aS (bstr m), lunfA u, aI i] [] (Pure1 (aT true)) := by
  have hsz := bstr_size m
  have hS1 := szNet_spec N 1048576 (by omega) hN.l hN.t
  have hI1 := szNt_in (ts := N.ts) (left := 1048576) (by omega)
  obtain ⟨a, ha⟩ : ∃ a, a = szNt N.ts 1048576 := ⟨_, rfl⟩
  rw [← ha] at hS1 hI1
  refine ASpec.of Tryz.func3 rfl rfl fun C hC => ?_
  refine AC.seq ?_
  refine AC.region ?_
  refine AL.q (by exact h_boxF rfl rfl) rfl ?_
  refine AL.q (by exact h_boxF rfl rfl) rfl ?_
  refine AL.p (by exact as1 rfl) rfl ?_
  refine AL.nil ?_
  refine th_n ?_
  refine AC.seq ?_
  refine AC.seq ?_
  refine AC.region ?_
  refine AL.p (by exact mv1 rfl) rfl ?_
  refine AL.p (by exact g_len_str rfl rfl rfl) rfl ?_
  refine AL.p (by exact g_cmp rfl rfl rfl) rfl ?_
  refine AL.nil ?_
  refine th_n ?_
  refine AC.condD rfl (fun h0 => ?_) (fun h0 => ?_)
  · refine AC.seq ?_
    refine AC.region ?_
    refine AL.p (by exact as1 rfl) rfl ?_
    refine AL.nil ?_
    refine th_n ?_
    refine AC.ret ?_
    refine th_r ?_
    refine bq_r ?_
    exact ret1 rfl rfl
  · refine AC.skip ?_
    refine th_n ?_
    refine AC.seq ?_
    refine AC.region ?_
    refine AL.p (by exact as1 rfl) rfl ?_
    refine AL.nil ?_
    refine th_n ?_
    refine AC.seq ?_
    refine AC.region ?_
    refine AL.p (by exact g_load_refN rfl rfl rfl rfl) rfl ?_
    refine AL.p (by exact mv1 rfl) rfl ?_
    refine AL.q (by exact h_pure en_szNet rfl rfl (by repeat (first | exact rfl | exact DLead.same | refine ⟨_, _, rfl, ?_, ?_⟩ | refine ⟨_, rfl, ?_⟩)) hS1 rfl) rfl ?_
    refine AL.p (by exact as1 rfl) rfl ?_
    refine AL.nil ?_
    refine th_n ?_
    refine AC.seq ?_
    refine AC.seq ?_
    refine AC.region ?_
    refine AL.p (by exact mv1 rfl) rfl ?_
    refine AL.p (by exact g_cmp rfl rfl rfl) rfl ?_
    refine AL.nil ?_
    refine th_n ?_
    refine AC.condD rfl (fun h1 => ?_) (fun h1 => ?_)
    · refine AC.seq ?_
      refine AC.region ?_
      refine AL.p (by exact as1 rfl) rfl ?_
      refine AL.nil ?_
      refine th_n ?_
      refine AC.ret ?_
      refine th_r ?_
      refine bq_r ?_
      exact ret1 rfl rfl
    · refine AC.skip ?_
      refine th_n ?_
      refine AC.seq ?_
      have hNl : (N.ts.length : Int) ≤ 1048576 ∧ ∀ t, t ∈ N.ts → (t.pre.length : Int) ≤ 1048576 ∧ (t.post.length : Int) ≤ 1048576 := by rcases hI1 with h | h; omega; exact h.2.2
      have haI : 0 ≤ a ∧ a ≤ 1048576 := by omega
      have hS2 := szUnf_spec u a haI hu.c hu.l hu.t
      have hI2 := szU_in (u := u) haI
      obtain ⟨b, hb⟩ : ∃ b, b = szU u a := ⟨_, rfl⟩
      rw [← hb] at hS2 hI2
      refine AC.region ?_
      refine AL.p (by exact g_load_refN rfl rfl rfl rfl) rfl ?_
      refine AL.p (by exact mv1 rfl) rfl ?_
      refine AL.q (by exact h_pure en_szUnf rfl rfl (by repeat (first | exact rfl | exact DLead.same | refine ⟨_, _, rfl, ?_, ?_⟩ | refine ⟨_, rfl, ?_⟩)) hS2 rfl) rfl ?_
      refine AL.p (by exact as1 rfl) rfl ?_
      refine AL.nil ?_
      refine th_n ?_
      refine AC.seq ?_
      refine AC.seq ?_
      refine AC.region ?_
      refine AL.p (by exact mv1 rfl) rfl ?_
      refine AL.p (by exact g_cmp rfl rfl rfl) rfl ?_
      refine AL.nil ?_
      refine th_n ?_
      refine AC.condD rfl (fun h2 => ?_) (fun h2 => ?_)
      · refine AC.seq ?_
        refine AC.region ?_
        refine AL.p (by exact as1 rfl) rfl ?_
        refine AL.nil ?_
        refine th_n ?_
        refine AC.ret ?_
        refine th_r ?_
        refine bq_r ?_
        exact ret1 rfl rfl
      · refine AC.skip ?_
        refine th_n ?_
        refine AC.seq ?_
        have hm' : m.length ≤ 1048576 := by omega
        have hUl : (u.cs.length : Int) ≤ 1048576 ∧ (u.es.length : Int) ≤ 1048576 ∧ ∀ e, e ∈ u.es → (e.pre.length : Int) ≤ 1048576 := by rcases hI2 with h | h; omega; exact ⟨by omega, by omega, fun e he => by have := h.2.2.2.2 e he; omega⟩
        have hNl1 : N.ts.length ≤ 1048576 := by omega
        have hNl2 : ∀ t, t ∈ N.ts → t.pre.length ≤ 1048576 ∧ t.post.length ≤ 1048576 := fun t ht => by have := hNl.2 t ht; omega
        have hUc : u.cs.length ≤ 1048576 := by omega
        have hUe : u.es.length ≤ 1048576 := by omega
        have hUt : ∀ e, e ∈ u.es → e.pre.length ≤ 1048576 := fun e he => by have := hUl.2.2 e he; omega
        have hNL : NetL N := ⟨hN.p, by omega, fun t ht => by have := hNl2 t ht; omega⟩
        have hUL : UnfL u := ⟨hUe, hUc, fun e he => by have := hUt e he; omega⟩
        have hcToNet := toNet_spec N hNl1 hNl2
        have hcToUnf := toUnf_spec u hUc hUe hUt
        have hcEqNet := eqNet_spec N N hNl1 hNl1 hNl2 hNl2
        have hcEqUnf := eqUnf_spec u u hUe hUe hUt hUt hUc hUc
        rw [decide_eq_true rfl] at hcEqNet hcEqUnf
        have hG1 := sLocalM_spec N m u i hNL (by omega) hUL hi
        have hG2 := iLocalM_spec N m u i hNL (by omega) hUL hi
        obtain ⟨g0, hg0⟩ : ∃ g, g = locR N m u i := ⟨_, rfl⟩
        rw [← hg0] at hG1 hG2
        obtain ⟨g1, hg1⟩ : ∃ g, g = askB N m u i := ⟨_, rfl⟩
        rw [← hg1] at hG1 hG2
        refine AC.drawn' mixed_ok [[], [0], [], [], [0,1,3], [], [0,1,2,3,4,5], [0,1,2,3,4,5,6], [0,1,2,3,4,5,6,7], [0,1,2,3,4,5,6,7], [0,1,2,3,4,5,6,7,8], [0,1,2,3,4,5,6,7,8,9,10]] (by decide) ?_
        refine DF.op 0 [] 12 rfl rfl rfl (.free rfl (NOp.of (by exact g_load_refN rfl rfl rfl rfl))) rfl ?_
        refine DF.op 1 [0] 12 rfl rfl rfl (.free rfl (by exact h_pure en_toNet rfl rfl (by repeat (first | exact rfl | exact DLead.same | refine ⟨_, _, rfl, ?_, ?_⟩ | refine ⟨_, rfl, ?_⟩)) hcToNet rfl)) rfl ?_
        refine DF.op 2 [] 12 rfl rfl rfl (.free rfl (NOp.of (by exact mv1 rfl))) rfl ?_
        refine DF.op 3 [] 12 rfl rfl rfl (.free rfl (NOp.of (by exact g_load_refN rfl rfl rfl rfl))) rfl ?_
        refine DF.op 4 [0,1,3] 12 rfl rfl rfl (.free rfl (by exact h_pure en_toUnf rfl rfl (by repeat (first | exact rfl | exact DLead.same | refine ⟨_, _, rfl, ?_, ?_⟩ | refine ⟨_, rfl, ?_⟩)) hcToUnf rfl)) rfl ?_
        refine DF.op 5 [] 12 rfl rfl rfl (.free rfl (NOp.of (by exact mv1 rfl))) rfl ?_
        refine DF.op 6 [0,1,2,3,4,5] 12 rfl rfl rfl (.free rfl (by exact h_pure en_sLocalM rfl rfl (by repeat (first | exact rfl | exact DLead.same | refine ⟨_, _, rfl, ?_, ?_⟩ | refine ⟨_, rfl, ?_⟩)) hG1 rfl)) rfl ?_
        refine DF.op 7 [0,1,2,3,4,5,6] 12 rfl rfl rfl (.free rfl (NOp.of (by exact mv5 rfl))) rfl ?_
        refine DF.op 8 [0,1,2,3,4,5,6,7] 12 rfl rfl rfl (.free rfl (NOp.of (by exact g_extract (r := .d _) rfl rfl))) rfl ?_
        refine DF.op 9 [0,1,2,3,4,5,6,7] 12 rfl rfl rfl (.free rfl (NOp.of (by exact g_extract (r := .d _) rfl rfl))) rfl ?_
        refine DF.op 10 [0,1,2,3,4,5,6,7,8] 12 rfl rfl rfl (.free rfl (NOp.of (by exact as1 rfl))) rfl ?_
        refine DF.op 11 [0,1,2,3,4,5,6,7,8,9,10] 12 rfl rfl rfl (.free rfl (NOp.of (by exact as1 rfl))) rfl ?_
        refine DF.fin (ps := [(0, 2), (0, 3), (0, 5), (1, 2), (1, 3), (1, 5), (2, 0), (2, 1), (2, 3), (2, 4), (2, 5), (3, 0), (3, 1), (3, 2), (3, 5), (4, 2), (4, 5), (5, 0), (5, 1), (5, 2), (5, 3), (5, 4), (8, 9), (9, 8), (9, 10), (10, 9)]) 12 rfl (by decide +kernel) (by decide +kernel) (by rfl) ?_
        refine th_n ?_
        refine AC.seq ?_
        refine AC.region ?_
        refine AL.p (by exact g_load_refN rfl rfl rfl rfl) rfl ?_
        refine AL.q (by exact h_pure en_toNet rfl rfl (by repeat (first | exact rfl | exact DLead.same | refine ⟨_, _, rfl, ?_, ?_⟩ | refine ⟨_, rfl, ?_⟩)) hcToNet rfl) rfl ?_
        refine AL.q (by exact h_alloc rfl) rfl ?_
        refine AL.q (by exact h_store rfl rfl rfl rfl rfl rfl) rfl ?_
        refine AL.nil ?_
        refine th_n ?_
        refine AC.seq ?_
        refine AC.region ?_
        refine AL.p (by exact g_load_refN rfl rfl rfl rfl) rfl ?_
        refine AL.q (by exact h_pure en_toUnf rfl rfl (by repeat (first | exact rfl | exact DLead.same | refine ⟨_, _, rfl, ?_, ?_⟩ | refine ⟨_, rfl, ?_⟩)) hcToUnf rfl) rfl ?_
        refine AL.q (by exact h_alloc rfl) rfl ?_
        refine AL.q (by exact h_store rfl rfl rfl rfl rfl rfl) rfl ?_
        refine AL.nil ?_
        refine th_n ?_
        refine AC.seq ?_
        refine AC.region ?_
        refine AL.p (by exact g_load_ptrN rfl rfl rfl rfl rfl) rfl ?_
        refine AL.p (by exact mv1 rfl) rfl ?_
        refine AL.p (by exact g_load_ptrN rfl rfl rfl rfl rfl) rfl ?_
        refine AL.p (by exact mv1 rfl) rfl ?_
        refine AL.q (by exact h_pure en_iLocalM rfl rfl (by repeat (first | exact rfl | exact DLead.same | refine ⟨_, _, rfl, ?_, ?_⟩ | refine ⟨_, rfl, ?_⟩)) hG2 rfl) rfl ?_
        refine AL.p (by exact mv5 rfl) rfl ?_
        refine AL.p (by exact g_extract (r := .d _) rfl rfl) rfl ?_
        refine AL.p (by exact g_extract (r := .d _) rfl rfl) rfl ?_
        refine AL.p (by exact as1 rfl) rfl ?_
        refine AL.p (by exact as1 rfl) rfl ?_
        refine AL.nil ?_
        refine th_n ?_
        refine AC.seq ?_
        refine AC.seq ?_
        refine AC.region ?_
        refine AL.p (by exact mv1 rfl) rfl ?_
        refine AL.p (by exact mv1 rfl) rfl ?_
        refine AL.p (by exact g_scmp rfl rfl rfl) rfl ?_
        refine AL.p (by exact mv1 rfl) rfl ?_
        refine AL.caseGN rfl rfl (fun h3 => ?_) (fun h3 => ?_)
        · refine AL.not rfl rfl rfl rfl rfl ?_
          refine AL.not rfl rfl rfl rfl rfl ?_
          refine AL.not rfl rfl rfl rfl rfl ?_
          refine AL.p (by exact g_pickT (r := .d _) rfl rfl) rfl ?_
          refine AL.nil ?_
          refine th_n ?_
          refine AC.condT rfl ?_
          refine AC.seq ?_
          exact absurd h3 (by simp)
        · refine AL.yes rfl rfl rfl ?_
          refine AL.p (by exact mv1 rfl) rfl ?_
          refine AL.yes rfl rfl rfl ?_
          refine AL.p (by exact mv1 rfl) rfl ?_
          refine AL.yes rfl rfl rfl ?_
          refine AL.p (by exact g_neB rfl rfl rfl) rfl ?_
          refine AL.p (by exact g_pickF (r := .d _) rfl rfl) rfl ?_
          refine AL.nil ?_
          refine th_n ?_
          refine AC.condND rfl (fun h4 => ?_) (fun h4 => ?_)
          · refine AC.seq ?_
            exact absurd h4 (by simp)
          · refine AC.skip ?_
            refine th_n ?_
            refine AC.seq ?_
            refine AC.seq ?_
            refine AC.drawn' mixed_ok [[], [], [1], [0,1,2], [0,1,2,3]] (by decide) ?_
            refine DF.op 0 [] 5 rfl rfl rfl (.free rfl (NOp.of (by exact g_load_ptrN rfl rfl rfl rfl rfl))) rfl ?_
            refine DF.op 1 [] 5 rfl rfl rfl (.free rfl (NOp.of (by exact g_load_refN rfl rfl rfl rfl))) rfl ?_
            refine DF.op 2 [1] 5 rfl rfl rfl (.free rfl (by exact h_pure en_toNet rfl rfl (by repeat (first | exact rfl | exact DLead.same | refine ⟨_, _, rfl, ?_, ?_⟩ | refine ⟨_, rfl, ?_⟩)) hcToNet rfl)) rfl ?_
            refine DF.op 3 [0,1,2] 5 rfl rfl rfl (.free rfl (by exact h_pure en_eqNet rfl rfl (by repeat (first | exact rfl | exact DLead.same | refine ⟨_, _, rfl, ?_, ?_⟩ | refine ⟨_, rfl, ?_⟩)) hcEqNet rfl)) rfl ?_
            refine DF.op 4 [0,1,2,3] 5 rfl rfl rfl (.free rfl (NOp.of (by exact g_not rfl))) rfl ?_
            refine DF.fin (ps := [(0, 1), (0, 2), (1, 0), (2, 0)]) 5 rfl (by decide +kernel) (by decide +kernel) (by rfl) ?_
            refine th_n ?_
            refine AC.condB rfl (fun h5 => ?_) (fun h5 => ?_)
            · refine AC.seq ?_
              exact absurd h5 (by simp)
            · refine AC.skip ?_
              refine th_n ?_
              refine AC.seq ?_
              refine AC.seq ?_
              refine AC.drawn' mixed_ok [[], [], [1], [0,1,2], [0,1,2,3]] (by decide) ?_
              refine DF.op 0 [] 5 rfl rfl rfl (.free rfl (NOp.of (by exact g_load_ptrN rfl rfl rfl rfl rfl))) rfl ?_
              refine DF.op 1 [] 5 rfl rfl rfl (.free rfl (NOp.of (by exact g_load_refN rfl rfl rfl rfl))) rfl ?_
              refine DF.op 2 [1] 5 rfl rfl rfl (.free rfl (by exact h_pure en_toUnf rfl rfl (by repeat (first | exact rfl | exact DLead.same | refine ⟨_, _, rfl, ?_, ?_⟩ | refine ⟨_, rfl, ?_⟩)) hcToUnf rfl)) rfl ?_
              refine DF.op 3 [0,1,2] 5 rfl rfl rfl (.free rfl (by exact h_pure en_eqUnf rfl rfl (by repeat (first | exact rfl | exact DLead.same | refine ⟨_, _, rfl, ?_, ?_⟩ | refine ⟨_, rfl, ?_⟩)) hcEqUnf rfl)) rfl ?_
              refine DF.op 4 [0,1,2,3] 5 rfl rfl rfl (.free rfl (NOp.of (by exact g_not rfl))) rfl ?_
              refine DF.fin (ps := [(0, 1), (0, 2), (1, 0), (2, 0)]) 5 rfl (by decide +kernel) (by decide +kernel) (by rfl) ?_
              refine th_n ?_
              refine AC.condB rfl (fun h6 => ?_) (fun h6 => ?_)
              · refine AC.seq ?_
                exact absurd h6 (by simp)
              · refine AC.skip ?_
                refine th_n ?_
                refine AC.seq ?_
                refine AC.region ?_
                refine AL.p (by exact as1 rfl) rfl ?_
                refine AL.nil ?_
                refine th_n ?_
                refine AC.ret ?_
                refine bq_r ?_
                exact ret1 rfl rfl
end Go.Proofs.YtlpafiiaminjkaaGreat

