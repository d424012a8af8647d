/- Contracts of the functions of the program and of the reference, each proved by a walk through its code. -/
import Derived.WalkKit
import Derived.WalkSpells
import Derived.WalkLawsBesides
import Derived.Deep.Draws
import Derived.Lib.Hide
import Derived.Maps.AppendAt
import Derived.OwnWalk
import Derived.Deep.MidRow
import Derived.Laws.ResultCell
import Derived.Deep.Upon
import Derived.Great.FillDense
import Derived.Laws.Tables
import Derived.Laws.BytesArg
import Derived.Laws.MakeOwn
import Derived.Great.BuildSlice
import Derived.ArgAppend
import Derived.Deep.AppendSrc
import Derived.Test.YtnklhbfdfddigaaDoorProg
import Derived.KernelRfl
import Derived.Orders
import Derived.Laws.IdiomStrings
import Derived.Lib.AppendZerosOnto
import Derived.ProofKit
import Derived.OpenShut
import Derived.Laws.StructEq
import Derived.ChangeKeysEq
import Derived.Shelf.Strconv.Itoa0
import Derived.Shelf.Strconv.Itoa1
import Derived.Shelf.LaysM
import Derived.Shelf.Strconv.Itoa2
import Derived.Shelf.Strconv.Itoa3
import Derived.Shelf.Slices.Turned
import Derived.Test.YtnklhbfdfddigaaDoorRows
import Derived.Below
import Derived.Test.YtnklhbfdfddigaaDoorGNm5
set_option linter.all false
set_option maxRecDepth 20000
namespace Go.Proofs.YtnklhbfdfddigaaDoor
open Go.RowKit

def okS (s : Stg) : Bool := decide (0 ≤ s.net.places) && decide (s.net.places ≤ 40) && decide (s.net.ts.length ≤ 20) && s.net.ts.all (fun t => decide (t.pre.length ≤ 4) && decide (t.post.length ≤ 4)) && decide (1 ≤ s.sigs.length) && decide (s.sigs.length ≤ 8) && s.sigs.all (fun x => decide (x.name.length ≤ 10)) && decide (1 ≤ s.labs.length) && decide (s.labs.length ≤ 20) && s.labs.all (fun x => decide (-10 ≤ x.sig) && decide (x.sig ≤ 10)) && decide (s.start.length ≤ 40)
/-- A small graph. -/
structure StgS (s : Stg) : Prop where
  p : 0 ≤ s.net.places ∧ s.net.places ≤ 40
  tl : s.net.ts.length ≤ 20
  t : ∀ t, t ∈ s.net.ts → t.pre.length ≤ 4 ∧ t.post.length ≤ 4
  s0 : 1 ≤ s.sigs.length
  sl : s.sigs.length ≤ 8
  sn : ∀ x, x ∈ s.sigs → x.name.length ≤ 10
  ll : s.labs.length ≤ 20
  lb : ∀ x, x ∈ s.labs → -10 ≤ x.sig ∧ x.sig ≤ 10
  st : s.start.length ≤ 60
theorem okS_S {s : Stg} (h : okS s = true) : StgS s ∧ 1 ≤ s.labs.length ∧ s.start.length ≤ 40 := by
  simp only [okS, Bool.and_eq_true, decide_eq_true_eq, List.all_eq_true] at h
  obtain ⟨⟨⟨⟨⟨⟨⟨⟨⟨⟨h1, h2⟩, h3⟩, h4⟩, h5⟩, h6⟩, h7⟩, h8⟩, h9⟩, h10⟩, h11⟩ := h
  exact ⟨⟨⟨h1, h2⟩, h3, h4, h5, h6, h7, h9, h10, by omega⟩, h8, h11⟩
theorem StgS.B {s : Stg} (h : StgS s) : StgB s := ⟨⟨by have := h.p; omega, by have := h.tl; omega, fun t ht => by have := h.t t ht; omega⟩, by have := h.sl; omega, fun t ht => by have := h.sn t ht; omega, by have := h.ll; omega, fun x hx => by have := h.lb x hx; omega, by have := h.st; omega⟩
def plS0 : Stg := buildS [97, 98] [99] [] [97, 43, 62, 99, 43, 32, 98, 43, 62, 99, 43, 32, 99, 43, 62, 97, 45, 32, 99, 43, 62, 98, 45, 32, 97, 45, 62, 99, 45, 32, 98, 45, 62, 99, 45, 32, 42, 99, 45, 62, 97, 43, 32, 42, 99, 45, 62, 98, 43]
theorem plS0_ok : okS plS0 = true := by decide +kernel
def plS1 : Stg := buildS [97] [98] [] [97, 43, 62, 98, 43, 32, 98, 43, 62, 97, 45, 32, 97, 45, 62, 98, 45, 32, 42, 98, 45, 62, 97, 43]
theorem plS1_ok : okS plS1 = true := by decide +kernel
def plS2 : Stg := buildS [114] [120, 121] [] [114, 43, 62, 120, 43, 32, 114, 43, 62, 121, 43, 32, 120, 43, 62, 114, 45, 32, 121, 43, 62, 114, 45, 32, 114, 45, 62, 120, 45, 32, 114, 45, 62, 121, 45, 32, 42, 120, 45, 62, 114, 43, 32, 42, 121, 45, 62, 114, 43]
theorem plS2_ok : okS plS2 = true := by decide +kernel
def plS3 : Stg := buildS [97, 100] [98, 99] [] [97, 43, 62, 98, 43, 32, 98, 43, 62, 100, 43, 32, 100, 43, 62, 99, 43, 32, 99, 43, 62, 97, 45, 32, 97, 45, 62, 98, 45, 32, 98, 45, 62, 100, 45, 32, 100, 45, 62, 99, 45, 32, 42, 99, 45, 62, 97, 43]
theorem plS3_ok : okS plS3 = true := by decide +kernel
def plS4 : Stg := buildS [97] [98] [120] [97, 43, 62, 120, 43, 32, 120, 43, 62, 98, 43, 32, 98, 43, 62, 97, 45, 32, 97, 45, 62, 120, 45, 32, 120, 45, 62, 98, 45, 32, 42, 98, 45, 62, 97, 43]
theorem plS4_ok : okS plS4 = true := by decide +kernel
def plS5 : Stg := buildS [97, 98] [99] [] [42, 95, 112, 62, 97, 43, 32, 95, 112, 62, 98, 43, 32, 97, 43, 62, 99, 43, 47, 49, 32, 99, 43, 47, 49, 62, 97, 45, 32, 97, 45, 62, 99, 45, 47, 49, 32, 99, 45, 47, 49, 62, 95, 112, 32, 98, 43, 62, 99, 43, 47, 50, 32, 99, 43, 47, 50, 62, 98, 45, 32, 98, 45, 62, 99, 45, 47, 50, 32, 99, 45, 47, 50, 62, 95, 112]
theorem plS5_ok : okS plS5 = true := by decide +kernel
def plS6 : Stg := buildS [97] [98] [] [97, 43, 62, 126, 32, 126, 62, 98, 43, 32, 98, 43, 62, 97, 45, 32, 97, 45, 62, 98, 45, 32, 42, 98, 45, 62, 97, 43]
theorem plS6_ok : okS plS6 = true := by decide +kernel
def grS0 : Stg := buildS [114] [120, 121] [] [42, 121, 45, 62, 114, 43, 32, 114, 43, 62, 120, 43, 32, 120, 43, 62, 120, 45, 32, 120, 45, 62, 121, 43, 32, 121, 43, 62, 114, 45, 32, 114, 45, 62, 121, 45]
theorem grS0_ok : okS grS0 = true := by decide +kernel
def grS1 : Stg := buildS [97] [98, 99] [] [42, 97, 45, 62, 97, 43, 32, 97, 43, 62, 95, 112, 32, 95, 112, 62, 98, 43, 32, 95, 112, 62, 99, 43, 32, 98, 43, 62, 98, 45, 32, 99, 43, 62, 99, 45, 32, 98, 45, 62, 95, 113, 32, 99, 45, 62, 95, 113, 32, 95, 113, 62, 97, 45]
theorem grS1_ok : okS grS1 = true := by decide +kernel
def grS2 : Stg := buildS [97] [98] [] [97, 43, 47, 49, 62, 98, 43, 32, 98, 43, 62, 97, 43, 47, 50, 32, 97, 43, 47, 50, 62, 98, 45, 32, 42, 98, 45, 62, 97, 43, 47, 49]
theorem grS2_ok : okS grS2 = true := by decide +kernel
def grS4 : Stg := buildS [97] [98] [] [42, 95, 112, 62, 97, 43, 32, 97, 43, 62, 98, 43, 32, 98, 43, 62, 95, 113]
theorem grS4_ok : okS grS4 = true := by decide +kernel
def twS0 : Stg := buildS [112] [113] [] [112, 43, 62, 113, 43, 32, 113, 43, 62, 112, 45, 32, 112, 45, 62, 113, 45, 32, 42, 113, 45, 62, 112, 43]
theorem twS0_ok : okS twS0 = true := by decide +kernel
def twS1 : Stg := buildS [97] [98] [] [97, 43, 62, 98, 43, 32, 98, 43, 62, 97, 45, 32, 97, 45, 62, 98, 45, 32, 42, 98, 45, 62, 97, 43]
theorem twS1_ok : okS twS1 = true := by decide +kernel
def grS3 : Stg := unionT twS0 twS1
theorem grS3_ok : okS grS3 = true := by decide +kernel
theorem twS_ok : (unionS twS0 twS1).2 = true := by decide +kernel
theorem twS_net : okS ⟨(unionR twS0.net twS1.net).1, twS0.sigs, twS0.labs, []⟩ = true := by decide +kernel
def plS (i : Int) : Stg := if i = 0 then plS0 else if i = 1 then plS1 else if i = 2 then plS2 else if i = 3 then plS3 else if i = 4 then plS4 else if i = 5 then plS5 else plS6
theorem plS_ok (i : Int) : okS (plS i) = true := by
  unfold plS
  split
  · exact plS0_ok
  split
  · exact plS1_ok
  split
  · exact plS2_ok
  split
  · exact plS3_ok
  split
  · exact plS4_ok
  split
  · exact plS5_ok
  exact plS6_ok
def stgI (c : Cur) : Stg × Cur := if (c.pick 9).1 = 0 then (grS0, (c.pick 9).2) else if (c.pick 9).1 = 1 then (grS1, (c.pick 9).2) else if (c.pick 9).1 = 2 then (grS2, (c.pick 9).2) else if (c.pick 9).1 = 3 then (grS3, (c.pick 9).2) else if (c.pick 9).1 = 4 then (grS4, (c.pick 9).2) else (plS ((c.pick 9).2.pick 7).1, ((c.pick 9).2.pick 7).2)
theorem stgI_in (c : Cur) : okS (stgI c).1 = true ∧ (stgI c).2.pos ≤ c.pos + 4 ∧ (stgI c).2.code = c.code := by
  have h1 := c.pick_pos 9
  have h2 := (c.pick 9).2.pick_pos 7
  have k1 := c.pick_code 9
  have k2 := (c.pick 9).2.pick_code 7
  unfold stgI
  split
  · exact ⟨grS0_ok, by dsimp only; omega, k1⟩
  split
  · exact ⟨grS1_ok, by dsimp only; omega, k1⟩
  split
  · exact ⟨grS2_ok, by dsimp only; omega, k1⟩
  split
  · exact ⟨grS3_ok, by dsimp only; omega, k1⟩
  split
  · exact ⟨grS4_ok, by dsimp only; omega, k1⟩
  exact ⟨plS_ok _, by dsimp only; omega, k2.trans k1⟩
theorem plS0_spec : ASpec Tryd.prog 59 [aS (bstr [97, 98]), aS (bstr [99]), aS (bstr []), aS (bstr [97, 43, 62, 99, 43, 32, 98, 43, 62, 99, 43, 32, 99, 43, 62, 97, 45, 32, 99, 43, 62, 98, 45, 32, 97, 45, 62, 99, 45, 32, 98, 45, 62, 99, 45, 32, 42, 99, 45, 62, 97, 43, 32, 42, 99, 45, 62, 98, 43])] [] (Fun1 (stgO plS0 0 1 2) (stgChs plS0 0 1 2)) := l2Build_spec _ _ _ _ (by decide) (by decide) (by decide) (by decide) (by decide +kernel)
theorem plS1_spec : ASpec Tryd.prog 59 [aS (bstr [97]), aS (bstr [98]), aS (bstr []), aS (bstr [97, 43, 62, 98, 43, 32, 98, 43, 62, 97, 45, 32, 97, 45, 62, 98, 45, 32, 42, 98, 45, 62, 97, 43])] [] (Fun1 (stgO plS1 0 1 2) (stgChs plS1 0 1 2)) := l2Build_spec _ _ _ _ (by decide) (by decide) (by decide) (by decide) (by decide +kernel)
theorem plS2_spec : ASpec Tryd.prog 59 [aS (bstr [114]), aS (bstr [120, 121]), aS (bstr []), aS (bstr [114, 43, 62, 120, 43, 32, 114, 43, 62, 121, 43, 32, 120, 43, 62, 114, 45, 32, 121, 43, 62, 114, 45, 32, 114, 45, 62, 120, 45, 32, 114, 45, 62, 121, 45, 32, 42, 120, 45, 62, 114, 43, 32, 42, 121, 45, 62, 114, 43])] [] (Fun1 (stgO plS2 0 1 2) (stgChs plS2 0 1 2)) := l2Build_spec _ _ _ _ (by decide) (by decide) (by decide) (by decide) (by decide +kernel)
theorem plS3_spec : ASpec Tryd.prog 59 [aS (bstr [97, 100]), aS (bstr [98, 99]), aS (bstr []), aS (bstr [97, 43, 62, 98, 43, 32, 98, 43, 62, 100, 43, 32, 100, 43, 62, 99, 43, 32, 99, 43, 62, 97, 45, 32, 97, 45, 62, 98, 45, 32, 98, 45, 62, 100, 45, 32, 100, 45, 62, 99, 45, 32, 42, 99, 45, 62, 97, 43])] [] (Fun1 (stgO plS3 0 1 2) (stgChs plS3 0 1 2)) := l2Build_spec _ _ _ _ (by decide) (by decide) (by decide) (by decide) (by decide +kernel)
theorem plS4_spec : ASpec Tryd.prog 59 [aS (bstr [97]), aS (bstr [98]), aS (bstr [120]), aS (bstr [97, 43, 62, 120, 43, 32, 120, 43, 62, 98, 43, 32, 98, 43, 62, 97, 45, 32, 97, 45, 62, 120, 45, 32, 120, 45, 62, 98, 45, 32, 42, 98, 45, 62, 97, 43])] [] (Fun1 (stgO plS4 0 1 2) (stgChs plS4 0 1 2)) := l2Build_spec _ _ _ _ (by decide) (by decide) (by decide) (by decide) (by decide +kernel)
theorem plS5_spec : ASpec Tryd.prog 59 [aS (bstr [97, 98]), aS (bstr [99]), aS (bstr []), aS (bstr [42, 95, 112, 62, 97, 43, 32, 95, 112, 62, 98, 43, 32, 97, 43, 62, 99, 43, 47, 49, 32, 99, 43, 47, 49, 62, 97, 45, 32, 97, 45, 62, 99, 45, 47, 49, 32, 99, 45, 47, 49, 62, 95, 112, 32, 98, 43, 62, 99, 43, 47, 50, 32, 99, 43, 47, 50, 62, 98, 45, 32, 98, 45, 62, 99, 45, 47, 50, 32, 99, 45, 47, 50, 62, 95, 112])] [] (Fun1 (stgO plS5 0 1 2) (stgChs plS5 0 1 2)) := l2Build_spec _ _ _ _ (by decide) (by decide) (by decide) (by decide) (by decide +kernel)
theorem plS6_spec : ASpec Tryd.prog 59 [aS (bstr [97]), aS (bstr [98]), aS (bstr []), aS (bstr [97, 43, 62, 126, 32, 126, 62, 98, 43, 32, 98, 43, 62, 97, 45, 32, 97, 45, 62, 98, 45, 32, 42, 98, 45, 62, 97, 43])] [] (Fun1 (stgO plS6 0 1 2) (stgChs plS6 0 1 2)) := l2Build_spec _ _ _ _ (by decide) (by decide) (by decide) (by decide) (by decide +kernel)
theorem grS0_spec : ASpec Tryd.prog 59 [aS (bstr [114]), aS (bstr [120, 121]), aS (bstr []), aS (bstr [42, 121, 45, 62, 114, 43, 32, 114, 43, 62, 120, 43, 32, 120, 43, 62, 120, 45, 32, 120, 45, 62, 121, 43, 32, 121, 43, 62, 114, 45, 32, 114, 45, 62, 121, 45])] [] (Fun1 (stgO grS0 0 1 2) (stgChs grS0 0 1 2)) := l2Build_spec _ _ _ _ (by decide) (by decide) (by decide) (by decide) (by decide +kernel)
theorem grS1_spec : ASpec Tryd.prog 59 [aS (bstr [97]), aS (bstr [98, 99]), aS (bstr []), aS (bstr [42, 97, 45, 62, 97, 43, 32, 97, 43, 62, 95, 112, 32, 95, 112, 62, 98, 43, 32, 95, 112, 62, 99, 43, 32, 98, 43, 62, 98, 45, 32, 99, 43, 62, 99, 45, 32, 98, 45, 62, 95, 113, 32, 99, 45, 62, 95, 113, 32, 95, 113, 62, 97, 45])] [] (Fun1 (stgO grS1 0 1 2) (stgChs grS1 0 1 2)) := l2Build_spec _ _ _ _ (by decide) (by decide) (by decide) (by decide) (by decide +kernel)
theorem grS2_spec : ASpec Tryd.prog 59 [aS (bstr [97]), aS (bstr [98]), aS (bstr []), aS (bstr [97, 43, 47, 49, 62, 98, 43, 32, 98, 43, 62, 97, 43, 47, 50, 32, 97, 43, 47, 50, 62, 98, 45, 32, 42, 98, 45, 62, 97, 43, 47, 49])] [] (Fun1 (stgO grS2 0 1 2) (stgChs grS2 0 1 2)) := l2Build_spec _ _ _ _ (by decide) (by decide) (by decide) (by decide) (by decide +kernel)
theorem grS4_spec : ASpec Tryd.prog 59 [aS (bstr [97]), aS (bstr [98]), aS (bstr []), aS (bstr [42, 95, 112, 62, 97, 43, 32, 97, 43, 62, 98, 43, 32, 98, 43, 62, 95, 113])] [] (Fun1 (stgO grS4 0 1 2) (stgChs grS4 0 1 2)) := l2Build_spec _ _ _ _ (by decide) (by decide) (by decide) (by decide) (by decide +kernel)
theorem twS0_spec : ASpec Tryd.prog 59 [aS (bstr [112]), aS (bstr [113]), aS (bstr []), aS (bstr [112, 43, 62, 113, 43, 32, 113, 43, 62, 112, 45, 32, 112, 45, 62, 113, 45, 32, 42, 113, 45, 62, 112, 43])] [] (Fun1 (stgO twS0 0 1 2) (stgChs twS0 0 1 2)) := l2Build_spec _ _ _ _ (by decide) (by decide) (by decide) (by decide) (by decide +kernel)
theorem twS1_spec : ASpec Tryd.prog 59 [aS (bstr [97]), aS (bstr [98]), aS (bstr []), aS (bstr [97, 43, 62, 98, 43, 32, 98, 43, 62, 97, 45, 32, 97, 45, 62, 98, 45, 32, 42, 98, 45, 62, 97, 43])] [] (Fun1 (stgO twS1 0 1 2) (stgChs twS1 0 1 2)) := l2Build_spec _ _ _ _ (by decide) (by decide) (by decide) (by decide) (by decide +kernel)
set_option maxHeartbeats 4000000 in
theorem l2Plain_spec (c : Cur) (hp : c.pos ≤ 100000000) : ASpec Tryd.prog 61 [.ptr 0 0] [(0, curC c)] (Fun1 (stgO (plS (c.pick 7).1) 1 2 3) ((0, curC (c.pick 7).2) :: stgChs (plS (c.pick 7).1) 1 2 3)) := by
  have hK := pick_spec c 7 (by decide) (by omega)
  obtain ⟨p, hpp⟩ : ∃ p, p = c.pick 7 := ⟨_, rfl⟩
  rw [← hpp] at hK ⊢
  have hS : plS p.1 = if p.1 = 0 then plS0 else if p.1 = 1 then plS1 else if p.1 = 2 then plS2 else if p.1 = 3 then plS3 else if p.1 = 4 then plS4 else if p.1 = 5 then plS5 else plS6 := rfl
  obtain ⟨s, hs⟩ : ∃ s, s = plS p.1 := ⟨_, rfl⟩
  rw [← hs] at hS ⊢
  refine ASpec.of Tryd.func61 rfl rfl fun C hC => ?_
  refine AC.seq ?_
  refine AC.region ?_
  refine AL.q (by exact h_alloc rfl) rfl ?_
  refine AL.nil ?_
  refine th_n ?_
  refine AC.seq ?_
  refine AC.seq ?_
  refine AC.region ?_
  refine AL.p (by exact mv3 rfl) rfl ?_
  refine AL.q (by exact h_fun (cs := [0]) en_pick rfl rfl (by repeat (first | exact rfl | exact DLead.same | refine ⟨_, _, rfl, ?_, ?_⟩ | refine ⟨_, rfl, ?_⟩)) (by repeat (first | exact True.intro | refine And.intro ?_ ?_ | exact DLead.same | exact rfl | refine ⟨_, _, rfl, rfl, ?_⟩ | refine ⟨_, rfl, ?_⟩ | refine ⟨_, _, rfl, ?_, ?_⟩)) hK rfl rfl rfl rfl) rfl ?_
  refine AL.nil ?_
  refine th_n ?_
  refine AC.block ?_
  refine AC.seq ?_
  refine AC.region ?_
  refine AL.p (by exact g_cmp rfl rfl rfl) rfl ?_
  refine AL.p (by exact as1 rfl) rfl ?_
  refine AL.nil ?_
  refine th_n ?_
  refine AC.condD rfl (fun h0 => ?_) (fun h0 => ?_)
  · refine AC.seq ?_
    refine AC.region ?_
    refine AL.q (by exact h_fun (cs := []) en_l2Build rfl rfl (by repeat (first | exact rfl | exact DLead.same | refine ⟨_, _, rfl, ?_, ?_⟩)) (by repeat (exact True.intro)) plS0_spec rfl rfl rfl rfl) rfl ?_
    refine AL.q (by exact h_store rfl rfl rfl rfl rfl rfl) rfl ?_
    refine AL.nil ?_
    refine th_n ?_
    refine AC.ret ?_
    refine ib_r ?_
    refine th_r ?_
    refine bq_r ?_
    have e : s = plS0 := by rw [hS, if_pos h0]
    exact retN [(1, _), (2, _), (3, _)] rfl (by rw [e]; repeat (first | exact rfl | exact DLead.same | refine ⟨_, _, rfl, ?_, ?_⟩ | refine ⟨_, rfl, ?_⟩)) (by rw [e]; repeat (first | exact True.intro | refine And.intro ?_ ?_ | exact DLead.same | exact rfl | refine ⟨_, _, rfl, rfl, ?_⟩ | refine ⟨_, rfl, ?_⟩ | refine ⟨_, _, rfl, ?_, ?_⟩)) rfl rfl
  · refine AC.seq ?_
    refine AC.region ?_
    refine AL.p (by exact g_cmp rfl rfl rfl) rfl ?_
    refine AL.p (by exact as1 rfl) rfl ?_
    refine AL.nil ?_
    refine th_n ?_
    refine AC.condD rfl (fun h1 => ?_) (fun h1 => ?_)
    · refine AC.seq ?_
      refine AC.region ?_
      refine AL.q (by exact h_fun (cs := []) en_l2Build rfl rfl (by repeat (first | exact rfl | exact DLead.same | refine ⟨_, _, rfl, ?_, ?_⟩)) (by repeat (exact True.intro)) plS1_spec rfl rfl rfl rfl) rfl ?_
      refine AL.q (by exact h_store rfl rfl rfl rfl rfl rfl) rfl ?_
      refine AL.nil ?_
      refine th_n ?_
      refine AC.ret ?_
      refine ib_r ?_
      refine th_r ?_
      refine bq_r ?_
      have e : s = plS1 := by rw [hS, if_neg h0, if_pos h1]
      exact retN [(1, _), (2, _), (3, _)] rfl (by rw [e]; repeat (first | exact rfl | exact DLead.same | refine ⟨_, _, rfl, ?_, ?_⟩ | refine ⟨_, rfl, ?_⟩)) (by rw [e]; repeat (first | exact True.intro | refine And.intro ?_ ?_ | exact DLead.same | exact rfl | refine ⟨_, _, rfl, rfl, ?_⟩ | refine ⟨_, rfl, ?_⟩ | refine ⟨_, _, rfl, ?_, ?_⟩)) rfl rfl
    · refine AC.seq ?_
      refine AC.region ?_
      refine AL.p (by exact g_cmp rfl rfl rfl) rfl ?_
      refine AL.p (by exact as1 rfl) rfl ?_
      refine AL.nil ?_
      refine th_n ?_
      refine AC.condD rfl (fun h2 => ?_) (fun h2 => ?_)
      · refine AC.seq ?_
        refine AC.region ?_
        refine AL.q (by exact h_fun (cs := []) en_l2Build rfl rfl (by repeat (first | exact rfl | exact DLead.same | refine ⟨_, _, rfl, ?_, ?_⟩)) (by repeat (exact True.intro)) plS2_spec rfl rfl rfl rfl) rfl ?_
        refine AL.q (by exact h_store rfl rfl rfl rfl rfl rfl) rfl ?_
        refine AL.nil ?_
        refine th_n ?_
        refine AC.ret ?_
        refine ib_r ?_
        refine th_r ?_
        refine bq_r ?_
        have e : s = plS2 := by rw [hS, if_neg h0, if_neg h1, if_pos h2]
        exact retN [(1, _), (2, _), (3, _)] rfl (by rw [e]; repeat (first | exact rfl | exact DLead.same | refine ⟨_, _, rfl, ?_, ?_⟩ | refine ⟨_, rfl, ?_⟩)) (by rw [e]; repeat (first | exact True.intro | refine And.intro ?_ ?_ | exact DLead.same | exact rfl | refine ⟨_, _, rfl, rfl, ?_⟩ | refine ⟨_, rfl, ?_⟩ | refine ⟨_, _, rfl, ?_, ?_⟩)) rfl rfl
      · refine AC.seq ?_
        refine AC.region ?_
        refine AL.p (by exact g_cmp rfl rfl rfl) rfl ?_
        refine AL.p (by exact as1 rfl) rfl ?_
        refine AL.nil ?_
        refine th_n ?_
        refine AC.condD rfl (fun h3 => ?_) (fun h3 => ?_)
        · refine AC.seq ?_
          refine AC.region ?_
          refine AL.q (by exact h_fun (cs := []) en_l2Build rfl rfl (by repeat (first | exact rfl | exact DLead.same | refine ⟨_, _, rfl, ?_, ?_⟩)) (by repeat (exact True.intro)) plS3_spec rfl rfl rfl rfl) rfl ?_
          refine AL.q (by exact h_store rfl rfl rfl rfl rfl rfl) rfl ?_
          refine AL.nil ?_
          refine th_n ?_
          refine AC.ret ?_
          refine ib_r ?_
          refine th_r ?_
          refine bq_r ?_
          have e : s = plS3 := by rw [hS, if_neg h0, if_neg h1, if_neg h2, if_pos h3]
          exact retN [(1, _), (2, _), (3, _)] rfl (by rw [e]; repeat (first | exact rfl | exact DLead.same | refine ⟨_, _, rfl, ?_, ?_⟩ | refine ⟨_, rfl, ?_⟩)) (by rw [e]; repeat (first | exact True.intro | refine And.intro ?_ ?_ | exact DLead.same | exact rfl | refine ⟨_, _, rfl, rfl, ?_⟩ | refine ⟨_, rfl, ?_⟩ | refine ⟨_, _, rfl, ?_, ?_⟩)) rfl rfl
        · refine AC.seq ?_
          refine AC.region ?_
          refine AL.p (by exact g_cmp rfl rfl rfl) rfl ?_
          refine AL.p (by exact as1 rfl) rfl ?_
          refine AL.nil ?_
          refine th_n ?_
          refine AC.condD rfl (fun h4 => ?_) (fun h4 => ?_)
          · refine AC.seq ?_
            refine AC.region ?_
            refine AL.q (by exact h_fun (cs := []) en_l2Build rfl rfl (by repeat (first | exact rfl | exact DLead.same | refine ⟨_, _, rfl, ?_, ?_⟩)) (by repeat (exact True.intro)) plS4_spec rfl rfl rfl rfl) rfl ?_
            refine AL.q (by exact h_store rfl rfl rfl rfl rfl rfl) rfl ?_
            refine AL.nil ?_
            refine th_n ?_
            refine AC.ret ?_
            refine ib_r ?_
            refine th_r ?_
            refine bq_r ?_
            have e : s = plS4 := by rw [hS, if_neg h0, if_neg h1, if_neg h2, if_neg h3, if_pos h4]
            exact retN [(1, _), (2, _), (3, _)] rfl (by rw [e]; repeat (first | exact rfl | exact DLead.same | refine ⟨_, _, rfl, ?_, ?_⟩ | refine ⟨_, rfl, ?_⟩)) (by rw [e]; repeat (first | exact True.intro | refine And.intro ?_ ?_ | exact DLead.same | exact rfl | refine ⟨_, _, rfl, rfl, ?_⟩ | refine ⟨_, rfl, ?_⟩ | refine ⟨_, _, rfl, ?_, ?_⟩)) rfl rfl
          · refine AC.seq ?_
            refine AC.region ?_
            refine AL.p (by exact g_cmp rfl rfl rfl) rfl ?_
            refine AL.p (by exact as1 rfl) rfl ?_
            refine AL.nil ?_
            refine th_n ?_
            refine AC.condD rfl (fun h5 => ?_) (fun h5 => ?_)
            · refine AC.seq ?_
              refine AC.region ?_
              refine AL.q (by exact h_fun (cs := []) en_l2Build rfl rfl (by repeat (first | exact rfl | exact DLead.same | refine ⟨_, _, rfl, ?_, ?_⟩)) (by repeat (exact True.intro)) plS5_spec rfl rfl rfl rfl) rfl ?_
              refine AL.q (by exact h_store rfl rfl rfl rfl rfl rfl) rfl ?_
              refine AL.nil ?_
              refine th_n ?_
              refine AC.ret ?_
              refine ib_r ?_
              refine th_r ?_
              refine bq_r ?_
              have e : s = plS5 := by rw [hS, if_neg h0, if_neg h1, if_neg h2, if_neg h3, if_neg h4, if_pos h5]
              exact retN [(1, _), (2, _), (3, _)] rfl (by rw [e]; repeat (first | exact rfl | exact DLead.same | refine ⟨_, _, rfl, ?_, ?_⟩ | refine ⟨_, rfl, ?_⟩)) (by rw [e]; repeat (first | exact True.intro | refine And.intro ?_ ?_ | exact DLead.same | exact rfl | refine ⟨_, _, rfl, rfl, ?_⟩ | refine ⟨_, rfl, ?_⟩ | refine ⟨_, _, rfl, ?_, ?_⟩)) rfl rfl
            · refine AC.skip ?_
              refine ib_n ?_
              refine th_n ?_
              refine AC.seq ?_
              refine AC.region ?_
              refine AL.q (by exact h_fun (cs := []) en_l2Build rfl rfl (by repeat (first | exact rfl | exact DLead.same | refine ⟨_, _, rfl, ?_, ?_⟩)) (by repeat (exact True.intro)) plS6_spec rfl rfl rfl rfl) rfl ?_
              refine AL.q (by exact h_store rfl rfl rfl rfl rfl rfl) rfl ?_
              refine AL.nil ?_
              refine th_n ?_
              refine AC.ret ?_
              refine bq_r ?_
              have e : s = plS6 := by rw [hS, if_neg h0, if_neg h1, if_neg h2, if_neg h3, if_neg h4, if_neg h5]
              exact retN [(1, _), (2, _), (3, _)] rfl (by rw [e]; repeat (first | exact rfl | exact DLead.same | refine ⟨_, _, rfl, ?_, ?_⟩ | refine ⟨_, rfl, ?_⟩)) (by rw [e]; repeat (first | exact True.intro | refine And.intro ?_ ?_ | exact DLead.same | exact rfl | refine ⟨_, _, rfl, rfl, ?_⟩ | refine ⟨_, rfl, ?_⟩ | refine ⟨_, _, rfl, ?_, ?_⟩)) rfl rfl
theorem en_l2Plain : Enters Tryd.prog 61 := enters_of Tryd.func61 rfl rfl
theorem twS_L : NetL (unionR twS0.net twS1.net).1 := ((okS_S twS_net).1.B.n).L
set_option maxHeartbeats 4000000 in
theorem stg_spec (c : Cur) (hp : c.pos ≤ 10000000) : ASpec Tryd.prog 38 [.ptr 0 0] [(0, curC c)] (Fun1 (stgQ (stgI c).1 1 2) [(0, curC (stgI c).2), (1, .arr 70 2 (sigsL (stgI c).1.sigs)), (2, .arr 39 2 (labsL (stgI c).1.labs))]) := by
  have hK := pick_spec c 9 (by decide) (by omega)
  have hpos := c.pick_pos 9
  have hS : stgI c = if (c.pick 9).1 = 0 then (grS0, (c.pick 9).2) else if (c.pick 9).1 = 1 then (grS1, (c.pick 9).2) else if (c.pick 9).1 = 2 then (grS2, (c.pick 9).2) else if (c.pick 9).1 = 3 then (grS3, (c.pick 9).2) else if (c.pick 9).1 = 4 then (grS4, (c.pick 9).2) else (plS ((c.pick 9).2.pick 7).1, ((c.pick 9).2.pick 7).2) := rfl
  obtain ⟨p, hpp⟩ : ∃ p, p = c.pick 9 := ⟨_, rfl⟩
  rw [← hpp] at hK hS hpos
  have hP := l2Plain_spec p.2 (by omega)
  obtain ⟨pp, hpq⟩ : ∃ pp, pp = plS (p.2.pick 7).1 := ⟨_, rfl⟩
  rw [← hpq] at hP hS
  obtain ⟨s, hs⟩ : ∃ s, s = stgI c := ⟨_, rfl⟩
  rw [← hs] at hS ⊢
  have hU := sUnionSTGs_own twS0 twS1 (okS_S twS0_ok).1.B (okS_S twS1_ok).1.B twS_L twS_ok
  rw [show unionT twS0 twS1 = grS3 from rfl] at hU
  refine ASpec.of Tryd.func38 rfl rfl fun C hC => ?_
  refine AC.seq ?_
  refine AC.region ?_
  refine AL.q (by exact h_alloc rfl) rfl ?_
  refine AL.nil ?_
  refine th_n ?_
  refine AC.seq ?_
  refine AC.seq ?_
  refine AC.region ?_
  refine AL.p (by exact mv3 rfl) rfl ?_
  refine AL.q (by exact h_fun (cs := [0]) en_pick rfl rfl (by repeat (first | exact rfl | exact DLead.same | refine ⟨_, _, rfl, ?_, ?_⟩ | refine ⟨_, rfl, ?_⟩)) (by repeat (first | exact True.intro | refine And.intro ?_ ?_ | exact DLead.same | exact rfl | refine ⟨_, _, rfl, rfl, ?_⟩ | refine ⟨_, rfl, ?_⟩ | refine ⟨_, _, rfl, ?_, ?_⟩)) hK rfl rfl rfl rfl) rfl ?_
  refine AL.nil ?_
  refine th_n ?_
  refine AC.block ?_
  refine AC.seq ?_
  refine AC.region ?_
  refine AL.p (by exact g_cmp rfl rfl rfl) rfl ?_
  refine AL.p (by exact as1 rfl) rfl ?_
  refine AL.nil ?_
  refine th_n ?_
  refine AC.condD rfl (fun h0 => ?_) (fun h0 => ?_)
  · refine AC.seq ?_
    refine AC.region ?_
    refine AL.q (by exact h_fun (cs := []) en_l2Build rfl rfl (by repeat (first | exact rfl | exact DLead.same | refine ⟨_, _, rfl, ?_, ?_⟩)) (by repeat (exact True.intro)) grS0_spec rfl rfl rfl rfl) rfl ?_
    refine AL.weak (Weak.freezeA (i := 9) (k := 1) rfl rfl rfl (ownl _ _) (ownt _ _)) ?_
    refine AL.q (by exact h_store rfl rfl rfl rfl rfl rfl) rfl ?_
    refine AL.nil ?_
    refine th_n ?_
    refine AC.ret ?_
    refine ib_r ?_
    refine th_r ?_
    refine bq_r ?_
    have e : s = (grS0, p.2) := by rw [hS, if_pos h0]
    exact retN [(1, _), (2, _)] rfl (by rw [e]; repeat (first | exact rfl | exact DLead.same | refine ⟨_, _, rfl, ?_, ?_⟩ | refine ⟨_, rfl, ?_⟩)) (by rw [e]; repeat (first | exact True.intro | refine And.intro ?_ ?_ | exact DLead.same | exact rfl | refine ⟨_, _, rfl, rfl, ?_⟩ | refine ⟨_, rfl, ?_⟩ | refine ⟨_, _, rfl, ?_, ?_⟩)) rfl rfl
  · refine AC.seq ?_
    refine AC.region ?_
    refine AL.p (by exact g_cmp rfl rfl rfl) rfl ?_
    refine AL.p (by exact as1 rfl) rfl ?_
    refine AL.nil ?_
    refine th_n ?_
    refine AC.condD rfl (fun h1 => ?_) (fun h1 => ?_)
    · refine AC.seq ?_
      refine AC.region ?_
      refine AL.q (by exact h_fun (cs := []) en_l2Build rfl rfl (by repeat (first | exact rfl | exact DLead.same | refine ⟨_, _, rfl, ?_, ?_⟩)) (by repeat (exact True.intro)) grS1_spec rfl rfl rfl rfl) rfl ?_
      refine AL.weak (Weak.freezeA (i := 12) (k := 1) rfl rfl rfl (ownl _ _) (ownt _ _)) ?_
      refine AL.q (by exact h_store rfl rfl rfl rfl rfl rfl) rfl ?_
      refine AL.nil ?_
      refine th_n ?_
      refine AC.ret ?_
      refine ib_r ?_
      refine th_r ?_
      refine bq_r ?_
      have e : s = (grS1, p.2) := by rw [hS, if_neg h0, if_pos h1]
      exact retN [(1, _), (2, _)] rfl (by rw [e]; repeat (first | exact rfl | exact DLead.same | refine ⟨_, _, rfl, ?_, ?_⟩ | refine ⟨_, rfl, ?_⟩)) (by rw [e]; repeat (first | exact True.intro | refine And.intro ?_ ?_ | exact DLead.same | exact rfl | refine ⟨_, _, rfl, rfl, ?_⟩ | refine ⟨_, rfl, ?_⟩ | refine ⟨_, _, rfl, ?_, ?_⟩)) rfl rfl
    · refine AC.seq ?_
      refine AC.region ?_
      refine AL.p (by exact g_cmp rfl rfl rfl) rfl ?_
      refine AL.p (by exact as1 rfl) rfl ?_
      refine AL.nil ?_
      refine th_n ?_
      refine AC.condD rfl (fun h2 => ?_) (fun h2 => ?_)
      · refine AC.seq ?_
        refine AC.region ?_
        refine AL.q (by exact h_fun (cs := []) en_l2Build rfl rfl (by repeat (first | exact rfl | exact DLead.same | refine ⟨_, _, rfl, ?_, ?_⟩)) (by repeat (exact True.intro)) grS2_spec rfl rfl rfl rfl) rfl ?_
        refine AL.weak (Weak.freezeA (i := 15) (k := 1) rfl rfl rfl (ownl _ _) (ownt _ _)) ?_
        refine AL.q (by exact h_store rfl rfl rfl rfl rfl rfl) rfl ?_
        refine AL.nil ?_
        refine th_n ?_
        refine AC.ret ?_
        refine ib_r ?_
        refine th_r ?_
        refine bq_r ?_
        have e : s = (grS2, p.2) := by rw [hS, if_neg h0, if_neg h1, if_pos h2]
        exact retN [(1, _), (2, _)] rfl (by rw [e]; repeat (first | exact rfl | exact DLead.same | refine ⟨_, _, rfl, ?_, ?_⟩ | refine ⟨_, rfl, ?_⟩)) (by rw [e]; repeat (first | exact True.intro | refine And.intro ?_ ?_ | exact DLead.same | exact rfl | refine ⟨_, _, rfl, rfl, ?_⟩ | refine ⟨_, rfl, ?_⟩ | refine ⟨_, _, rfl, ?_, ?_⟩)) rfl rfl
      · refine AC.seq ?_
        refine AC.region ?_
        refine AL.p (by exact g_cmp rfl rfl rfl) rfl ?_
        refine AL.p (by exact as1 rfl) rfl ?_
        refine AL.nil ?_
        refine th_n ?_
        refine AC.condD rfl (fun h3 => ?_) (fun h3 => ?_)
        · refine AC.seq ?_
          refine AC.region ?_
          refine AL.q (by exact h_fun (cs := []) en_l2Build rfl rfl (by repeat (first | exact rfl | exact DLead.same | refine ⟨_, _, rfl, ?_, ?_⟩)) (by repeat (exact True.intro)) twS0_spec rfl rfl rfl rfl) rfl ?_
          refine AL.weak (Weak.freezeA3 19 rfl rfl rfl rfl rfl rfl rfl (ownl _ _) (ownl _ _) (ownl _ _) (ownt _ _) (ownt _ _) (ownt _ _)) ?_
          refine AL.q (by exact h_fun (cs := []) en_l2Build rfl rfl (by repeat (first | exact rfl | exact DLead.same | refine ⟨_, _, rfl, ?_, ?_⟩)) (by repeat (exact True.intro)) twS1_spec rfl rfl rfl rfl) rfl ?_
          refine AL.weak (Weak.freezeA3 20 rfl rfl rfl rfl rfl rfl rfl (ownl _ _) (ownl _ _) (ownl _ _) (ownt _ _) (ownt _ _) (ownt _ _)) ?_
          refine AL.q (by exact h_fun (cs := []) en_sUnionSTGs rfl rfl (by repeat (first | exact rfl | exact DLead.same | refine ⟨_, _, rfl, ?_, ?_⟩ | refine ⟨_, rfl, ?_⟩)) (by repeat (exact True.intro)) hU rfl rfl rfl rfl) rfl ?_
          refine AL.p (by exact mv5 rfl) rfl ?_
          refine AL.p (by exact g_extract (r := .agg _) rfl rfl) rfl ?_
          refine AL.p (by exact g_extract (r := .d _) rfl rfl) rfl ?_
          refine AL.q (by exact h_alloc rfl) rfl ?_
          refine AL.q (by exact h_store rfl rfl rfl rfl rfl rfl) rfl ?_
          refine AL.p (by exact as1 rfl) rfl ?_
          refine AL.nil ?_
          refine th_n ?_
          refine AC.seq ?_
          refine AC.region ?_
          refine AL.p (by exact mv1 rfl) rfl ?_
          refine AL.nil ?_
          refine th_n ?_
          refine AC.condT rfl ?_
          refine AC.seq ?_
          refine AC.region ?_
          refine AL.p (by exact g_load_ptrN rfl rfl rfl rfl rfl) rfl ?_
          refine AL.q (by exact h_store rfl rfl rfl rfl rfl rfl) rfl ?_
          refine AL.nil ?_
          refine th_n ?_
          refine AC.ret ?_
          refine ib_r ?_
          refine th_r ?_
          refine bq_r ?_
          have e : s = (grS3, p.2) := by rw [hS, if_neg h0, if_neg h1, if_neg h2, if_pos h3]
          exact retN [(1, _), (2, _)] rfl (by rw [e]; repeat (first | exact rfl | exact DLead.same | refine ⟨_, _, rfl, ?_, ?_⟩ | refine ⟨_, rfl, ?_⟩)) (by rw [e]; repeat (first | exact True.intro | refine And.intro ?_ ?_ | exact DLead.same | exact rfl | refine ⟨_, _, rfl, rfl, ?_⟩ | refine ⟨_, rfl, ?_⟩ | refine ⟨_, _, rfl, ?_, ?_⟩)) rfl rfl
        · refine AC.seq ?_
          refine AC.region ?_
          refine AL.p (by exact g_cmp rfl rfl rfl) rfl ?_
          refine AL.p (by exact as1 rfl) rfl ?_
          refine AL.nil ?_
          refine th_n ?_
          refine AC.condD rfl (fun h4 => ?_) (fun h4 => ?_)
          · refine AC.seq ?_
            refine AC.region ?_
            refine AL.q (by exact h_fun (cs := []) en_l2Build rfl rfl (by repeat (first | exact rfl | exact DLead.same | refine ⟨_, _, rfl, ?_, ?_⟩)) (by repeat (exact True.intro)) grS4_spec rfl rfl rfl rfl) rfl ?_
            refine AL.weak (Weak.freezeA (i := 28) (k := 1) rfl rfl rfl (ownl _ _) (ownt _ _)) ?_
            refine AL.q (by exact h_store rfl rfl rfl rfl rfl rfl) rfl ?_
            refine AL.nil ?_
            refine th_n ?_
            refine AC.ret ?_
            refine ib_r ?_
            refine th_r ?_
            refine bq_r ?_
            have e : s = (grS4, p.2) := by rw [hS, if_neg h0, if_neg h1, if_neg h2, if_neg h3, if_pos h4]
            exact retN [(1, _), (2, _)] rfl (by rw [e]; repeat (first | exact rfl | exact DLead.same | refine ⟨_, _, rfl, ?_, ?_⟩ | refine ⟨_, rfl, ?_⟩)) (by rw [e]; repeat (first | exact True.intro | refine And.intro ?_ ?_ | exact DLead.same | exact rfl | refine ⟨_, _, rfl, rfl, ?_⟩ | refine ⟨_, rfl, ?_⟩ | refine ⟨_, _, rfl, ?_, ?_⟩)) rfl rfl
          · refine AC.skip ?_
            refine ib_n ?_
            refine th_n ?_
            refine AC.seq ?_
            refine AC.region ?_
            refine AL.p (by exact mv3 rfl) rfl ?_
            refine AL.q (by exact h_fun (cs := [0]) en_l2Plain rfl rfl (by repeat (first | exact rfl | refine ⟨_, _, rfl, ?_, ?_⟩ | refine ⟨_, rfl, ?_⟩)) (by repeat (first | exact True.intro | refine And.intro ?_ ?_ | exact DLead.same | exact rfl | refine ⟨_, _, rfl, rfl, ?_⟩ | refine ⟨_, rfl, ?_⟩ | refine ⟨_, _, rfl, ?_, ?_⟩)) hP rfl rfl rfl rfl) rfl ?_
            refine AL.weak (Weak.freezeA (i := 30) (k := 1) rfl rfl rfl (ownl _ _) (ownt _ _)) ?_
            refine AL.q (by exact h_store rfl rfl rfl rfl rfl rfl) rfl ?_
            refine AL.nil ?_
            refine th_n ?_
            refine AC.ret ?_
            refine bq_r ?_
            have e : s = (pp, (p.2.pick 7).2) := by rw [hS, if_neg h0, if_neg h1, if_neg h2, if_neg h3, if_neg h4]
            exact retN [(1, _), (2, _)] rfl (by rw [e]; repeat (first | exact rfl | exact DLead.same | refine ⟨_, _, rfl, ?_, ?_⟩ | refine ⟨_, rfl, ?_⟩)) (by rw [e]; repeat (first | exact True.intro | refine And.intro ?_ ?_ | exact DLead.same | exact rfl | refine ⟨_, _, rfl, rfl, ?_⟩ | refine ⟨_, rfl, ?_⟩ | refine ⟨_, _, rfl, ?_, ?_⟩)) rfl rfl
theorem en_stg : Enters Tryd.prog 38 := enters_of Tryd.func38 rfl rfl
end Go.Proofs.YtnklhbfdfddigaaDoor

set_option linter.all false
set_option maxRecDepth 20000
namespace Go.Proofs.YtnklhbfdfddigaaDoor
open Go.RowKit

/-- The places of a label among labels, below n. -/
def idxTo (l : List Lab) (x : Lab) : Nat → List Int
  | 0 => []
  | k + 1 => if lAt l k = x then idxTo l x k ++ [(k : Int)] else idxTo l x k
theorem idxTo_lt {l : List Lab} {x : Lab} : ∀ {n : Nat} {y : Int}, y ∈ idxTo l x n → 0 ≤ y ∧ y < n
  | 0, y, h => by cases h
  | n + 1, y, h => by
    rw [idxTo] at h
    split at h
    · rcases List.mem_append.1 h with h | h
      · have := idxTo_lt h; omega
      · rw [List.mem_singleton] at h; omega
    · have := idxTo_lt h; omega
theorem idxTo_len (l : List Lab) (x : Lab) : ∀ n, (idxTo l x n).length ≤ n
  | 0 => Nat.le_refl _
  | n + 1 => by have := idxTo_len l x n; rw [idxTo]; split <;> simp <;> omega
theorem idxTo_split {l : List Lab} {x : Lab} {t : Nat} (ht : lAt l t = x) : ∀ {n : Nat}, t < n → ∃ r, idxTo l x n = idxTo l x t ++ (t : Int) :: r
  | n + 1, h => by
    rcases Nat.lt_or_ge t n with hn | hn
    · obtain ⟨r, e⟩ := idxTo_split ht hn
      rw [idxTo]
      split
      · exact ⟨r ++ [(n : Int)], by rw [e]; simp⟩
      · exact ⟨r, e⟩
    · obtain rfl : t = n := by omega
      exact ⟨[], by rw [idxTo, if_pos ht]⟩
theorem idx_pos {l : List Lab} {x : Lab} {t n : Nat} (ht : lAt l t = x) (hn : t < n) : findI (fun y => decide ((t : Int) = y)) (idxTo l x n) = ((idxTo l x t).length : Int) := by
  obtain ⟨r, e⟩ := idxTo_split ht hn
  have hl : (idxTo l x t).length < (idxTo l x n).length := by rw [e, List.length_append, List.length_cons]; omega
  refine findI_at hl ?_ (fun j hj => ?_)
  · simp [e]
  · have h1 : (idxTo l x n)[j]'(by omega) = (idxTo l x t)[j]'hj := by
      have : (idxTo l x n)[j]? = (idxTo l x t)[j]? := by rw [e, List.getElem?_append_left hj]
      rw [List.getElem?_eq_getElem (show j < (idxTo l x n).length by omega), List.getElem?_eq_getElem hj] at this
      exact Option.some.inj this
    have h2 := idxTo_lt (List.getElem_mem hj)
    rw [h1]
    exact decide_eq_false (by omega)
/-- A label as a text. -/
def labT (s : List Sig) (x : Lab) : List UInt8 := if x.sig < 0 then [126] else (sAt s x.sig.toNat).name ++ [bif x.up then 43 else 45]
/-- A transition as a text. -/
def nameT (s : Stg) (t : Nat) : List UInt8 :=
  labT s.sigs (lAt s.labs t) ++ (if 1 < ((idxTo s.labs (lAt s.labs t) s.labs.length).length : Int) then [47] ++ Lib.decDigits ((idxTo s.labs (lAt s.labs t) t).length + 1) else [])
theorem dec_len : ∀ n : Nat, (Lib.decDigits n).length ≤ n + 1 := by
  intro n
  induction n using Nat.strongRecOn with
  | _ n ih =>
    rw [Lib.decDigits]
    split
    · simp
    · have := ih (n / 10) (by omega)
      rw [List.length_append]
      simp only [List.length_cons, List.length_nil]
      omega
theorem labT_len {s : List Sig} (hn : ∀ t, t ∈ s → t.name.length ≤ 1000) (x : Lab) : (labT s x).length ≤ 1001 := by
  unfold labT
  split
  · simp
  · rw [List.length_append]
    have : (sAt s x.sig.toNat).name.length ≤ 1000 := by
      unfold sAt
      rw [List.getD_eq_getElem?_getD]
      cases e : s[x.sig.toNat]? with
      | none => simp
      | some y => exact hn y (List.mem_of_getElem? e)
    simp only [List.length_cons, List.length_nil]; omega
set_option maxHeartbeats 2000000 in
theorem edgeTextG_spec (s : List Sig) (x : Lab) (hx : x.sig < s.length) (hn : ∀ t, t ∈ s → t.name.length ≤ 1000) : ASpec Tryd.prog 42 [.d (vSigs s), labA x] [] (Pure1 (aS (bstr (labT s x)))) := by
  have hI : ¬ x.sig < 0 → x.sig = ((x.sig.toNat : Nat) : Int) := by omega
  have hget : ¬ x.sig < 0 → (sigsL s)[x.sig.toNat]? = some (sigD (sAt s x.sig.toNat)) := by intro h; have h2 : x.sig.toNat < s.length := by { omega }; rw [sAt_nat h2]; exact sigsL_get h2
  have hnl : ¬ x.sig < 0 → (sAt s x.sig.toNat).name.length ≤ 1000 := by intro h; have h2 : x.sig.toNat < s.length := by { omega }; rw [sAt_nat h2]; exact hn _ (List.getElem_mem h2)
  have hT : labT s x = if x.sig < 0 then [126] else (sAt s x.sig.toNat).name ++ [bif x.up then 43 else 45] := rfl
  refine ASpec.of Tryd.func42 rfl rfl fun C hC => ?_
  refine AC.seq ?_
  refine AC.region ?_
  refine AL.q (by exact h_boxF rfl rfl) rfl ?_
  refine AL.p (by exact as1 rfl) rfl ?_
  refine AL.nil ?_
  refine th_n ?_
  refine AC.seq ?_
  refine AC.block ?_
  refine AC.seq ?_
  refine AC.region ?_
  refine AL.p (by exact g_fa_ref rfl rfl rfl rfl rfl rfl) rfl ?_
  refine AL.p (by exact g_load_ref rfl rfl rfl) rfl ?_
  refine AL.p (by exact g_cmp rfl rfl rfl) rfl ?_
  refine AL.p (by exact as1 rfl) rfl ?_
  refine AL.nil ?_
  refine th_n ?_
  refine AC.condD rfl (fun h0 => ?_) (fun h0 => ?_)
  · refine AC.seq ?_
    refine AC.region ?_
    refine AL.p (by exact as1 rfl) rfl ?_
    refine AL.nil ?_
    refine th_n ?_
    refine AC.ret ?_
    refine ib_r ?_
    refine th_r ?_
    refine bq_r ?_
    exact ret1 rfl (by rw [hT, if_pos h0]; rfl)
  · refine AC.seq ?_
    refine AC.region ?_
    refine AL.p (by exact g_fa_ref rfl rfl rfl rfl rfl rfl) rfl ?_
    refine AL.p (by exact g_load_ref rfl rfl rfl) rfl ?_
    refine AL.p (by exact as1 rfl) rfl ?_
    refine AL.nil ?_
    refine th_n ?_
    refine AC.condB rfl (fun h1 => ?_) (fun h1 => ?_)
    · refine AC.seq ?_
      have hI1 := hI h0
      have hget1 := hget h0
      have hnl1 := hnl h0
      refine AC.region ?_
      refine AL.p (by exact mv1 rfl) rfl ?_
      refine AL.p (by exact g_fa_ref rfl rfl rfl rfl rfl rfl) rfl ?_
      refine AL.p (by exact g_load_ref rfl rfl rfl) rfl ?_
      refine AL.p (by exact g_ia_view rfl rfl rfl rfl rfl (by assumption) (by assumption)) rfl ?_
      refine AL.p (by exact g_fa_ref rfl rfl rfl rfl rfl rfl) rfl ?_
      refine AL.p (by exact g_load_ref rfl rfl rfl) rfl ?_
      refine AL.p (by exact g_saddB (a := (sAt s x.sig.toNat).name) (b := [43]) rfl rfl (by simp only [List.length_cons, List.length_nil]; omega)) rfl ?_
      refine AL.p (by exact as1 rfl) rfl ?_
      refine AL.nil ?_
      refine th_n ?_
      refine AC.ret ?_
      refine ib_r ?_
      refine th_r ?_
      refine bq_r ?_
      exact ret1 rfl (by rw [hT, if_neg h0, h1]; rfl)
    · refine AC.skip ?_
      refine ib_n ?_
      refine th_n ?_
      refine AC.seq ?_
      have hI1 := hI h0
      have hget1 := hget h0
      have hnl1 := hnl h0
      refine AC.region ?_
      refine AL.p (by exact mv1 rfl) rfl ?_
      refine AL.p (by exact g_fa_ref rfl rfl rfl rfl rfl rfl) rfl ?_
      refine AL.p (by exact g_load_ref rfl rfl rfl) rfl ?_
      refine AL.p (by exact g_ia_view rfl rfl rfl rfl rfl (by assumption) (by assumption)) rfl ?_
      refine AL.p (by exact g_fa_ref rfl rfl rfl rfl rfl rfl) rfl ?_
      refine AL.p (by exact g_load_ref rfl rfl rfl) rfl ?_
      refine AL.p (by exact g_saddB (a := (sAt s x.sig.toNat).name) (b := [45]) rfl rfl (by simp only [List.length_cons, List.length_nil]; omega)) rfl ?_
      refine AL.p (by exact as1 rfl) rfl ?_
      refine AL.nil ?_
      refine th_n ?_
      refine AC.ret ?_
      refine bq_r ?_
      exact ret1 rfl (by rw [hT, if_neg h0, h1]; rfl)
theorem en_edgeText : Enters Tryd.prog 42 := enters_of Tryd.func42 rfl rfl
set_option maxHeartbeats 2000000 in
theorem l2Word_spec (s : Stg) (x : Lab) (hx : x.sig < s.sigs.length) (hn : ∀ t, t ∈ s.sigs → t.name.length ≤ 1000) : ASpec Tryd.prog 49 [stgA s, labA x] [] (Pure1 (aS (bstr (labT s.sigs x)))) := by
  have hI : ¬ x.sig < 0 → x.sig = ((x.sig.toNat : Nat) : Int) := by omega
  have hget : ¬ x.sig < 0 → (sigsL s.sigs)[x.sig.toNat]? = some (sigD (sAt s.sigs x.sig.toNat)) := by intro h; have h2 : x.sig.toNat < s.sigs.length := by { omega }; rw [sAt_nat h2]; exact sigsL_get h2
  have hnl : ¬ x.sig < 0 → (sAt s.sigs x.sig.toNat).name.length ≤ 1000 := by intro h; have h2 : x.sig.toNat < s.sigs.length := by { omega }; rw [sAt_nat h2]; exact hn _ (List.getElem_mem h2)
  have hT : labT s.sigs x = if x.sig < 0 then [126] else (sAt s.sigs x.sig.toNat).name ++ [bif x.up then 43 else 45] := rfl
  refine ASpec.of Tryd.func49 rfl rfl fun C hC => ?_
  refine AC.seq ?_
  refine AC.region ?_
  refine AL.q (by exact h_boxF rfl rfl) rfl ?_
  refine AL.q (by exact h_boxF rfl rfl) rfl ?_
  refine AL.p (by exact as1 rfl) rfl ?_
  refine AL.nil ?_
  refine th_n ?_
  refine AC.seq ?_
  refine AC.block ?_
  refine AC.seq ?_
  refine AC.region ?_
  refine AL.p (by exact g_fa_ref rfl rfl rfl rfl rfl rfl) rfl ?_
  refine AL.p (by exact g_load_ref rfl rfl rfl) rfl ?_
  refine AL.p (by exact g_cmp rfl rfl rfl) rfl ?_
  refine AL.p (by exact as1 rfl) rfl ?_
  refine AL.nil ?_
  refine th_n ?_
  refine AC.condD rfl (fun h0 => ?_) (fun h0 => ?_)
  · refine AC.seq ?_
    refine AC.region ?_
    refine AL.p (by exact as1 rfl) rfl ?_
    refine AL.nil ?_
    refine th_n ?_
    refine AC.ret ?_
    refine ib_r ?_
    refine th_r ?_
    refine bq_r ?_
    exact ret1 rfl (by rw [hT, if_pos h0]; rfl)
  · refine AC.seq ?_
    refine AC.region ?_
    refine AL.p (by exact g_fa_ref rfl rfl rfl rfl rfl rfl) rfl ?_
    refine AL.p (by exact g_load_ref rfl rfl rfl) rfl ?_
    refine AL.p (by exact as1 rfl) rfl ?_
    refine AL.nil ?_
    refine th_n ?_
    refine AC.condB rfl (fun h1 => ?_) (fun h1 => ?_)
    · refine AC.seq ?_
      have hI1 := hI h0
      have hget1 := hget h0
      have hnl1 := hnl h0
      refine AC.region ?_
      refine AL.p (by exact g_fa_ref rfl rfl rfl rfl rfl rfl) rfl ?_
      refine AL.p (by exact g_load_ref rfl rfl rfl) rfl ?_
      refine AL.p (by exact g_fa_ref rfl rfl rfl rfl rfl rfl) rfl ?_
      refine AL.p (by exact g_load_ref rfl rfl rfl) rfl ?_
      refine AL.p (by exact g_ia_view rfl rfl rfl rfl rfl (by assumption) (by assumption)) rfl ?_
      refine AL.p (by exact g_fa_ref rfl rfl rfl rfl rfl rfl) rfl ?_
      refine AL.p (by exact g_load_ref rfl rfl rfl) rfl ?_
      refine AL.p (by exact g_saddB (a := (sAt s.sigs x.sig.toNat).name) (b := [43]) rfl rfl (by simp only [List.length_cons, List.length_nil]; omega)) rfl ?_
      refine AL.p (by exact as1 rfl) rfl ?_
      refine AL.nil ?_
      refine th_n ?_
      refine AC.ret ?_
      refine ib_r ?_
      refine th_r ?_
      refine bq_r ?_
      exact ret1 rfl (by rw [hT, if_neg h0, h1]; rfl)
    · refine AC.skip ?_
      refine ib_n ?_
      refine th_n ?_
      refine AC.seq ?_
      have hI1 := hI h0
      have hget1 := hget h0
      have hnl1 := hnl h0
      refine AC.region ?_
      refine AL.p (by exact g_fa_ref rfl rfl rfl rfl rfl rfl) rfl ?_
      refine AL.p (by exact g_load_ref rfl rfl rfl) rfl ?_
      refine AL.p (by exact g_fa_ref rfl rfl rfl rfl rfl rfl) rfl ?_
      refine AL.p (by exact g_load_ref rfl rfl rfl) rfl ?_
      refine AL.p (by exact g_ia_view rfl rfl rfl rfl rfl (by assumption) (by assumption)) rfl ?_
      refine AL.p (by exact g_fa_ref rfl rfl rfl rfl rfl rfl) rfl ?_
      refine AL.p (by exact g_load_ref rfl rfl rfl) rfl ?_
      refine AL.p (by exact g_saddB (a := (sAt s.sigs x.sig.toNat).name) (b := [45]) rfl rfl (by simp only [List.length_cons, List.length_nil]; omega)) rfl ?_
      refine AL.p (by exact as1 rfl) rfl ?_
      refine AL.nil ?_
      refine th_n ?_
      refine AC.ret ?_
      refine bq_r ?_
      exact ret1 rfl (by rw [hT, if_neg h0, h1]; rfl)
theorem en_l2Word : Enters Tryd.prog 49 := enters_of Tryd.func49 rfl rfl
theorem labsLA_get {l : List Lab} {k : Nat} (h : k < l.length) : (labsL l)[k]? = some [dI (lAt l k).sig, dT (lAt l k).up] := by rw [lAt_nat h]; exact labsL_get h
set_option maxHeartbeats 2000000 in
theorem labelled_spec (s : Stg) (x : Lab) (hl : s.labs.length ≤ 100000) : ASpec Tryd.prog 33 [stgA s, labA x] [] (Pure1 (.d (vI (idxTo s.labs x s.labs.length)))) := by
  refine ASpec.of Tryd.func33 rfl rfl fun C hC => ?_
  refine AC.seq ?_
  refine AC.region ?_
  refine AL.q (by exact h_boxF rfl rfl) rfl ?_
  refine AL.q (by exact h_boxF rfl rfl) rfl ?_
  refine AL.p (by exact as1 rfl) rfl ?_
  refine AL.nil ?_
  refine th_n ?_
  refine AC.seq ?_
  refine AC.region ?_
  refine AL.q (by exact h_lit rfl rfl rfl rfl rfl rfl rfl rfl) rfl ?_
  refine AL.p (by exact as2 rfl) rfl ?_
  refine AL.nil ?_
  refine th_n ?_
  refine AC.seq ?_
  refine AC.seq ?_
  refine AC.region ?_
  refine AL.p (by exact g_fa_ref rfl rfl rfl rfl rfl rfl) rfl ?_
  refine AL.p (by exact g_load_ref rfl rfl rfl) rfl ?_
  refine AL.p (by exact g_len_view rfl rfl (by exact List.length_map _)) rfl ?_
  refine AL.p (by exact mv1 rfl) rfl ?_
  refine AL.nil ?_
  refine th_n ?_
  refine AC.block ?_
  refine AC.loop (ι := Nat) (fun k => ⟨26, 200, [(3, .d (.ref (labD x))), (5, .own 100 (idxTo s.labs x k).length), (10, .d (vLabs s.labs)), (11, aI s.labs.length), (12, aI k)], [(100, some (.arr 3 1 (ints (idxTo s.labs x k))))]⟩) (fun k => k ≤ s.labs.length) (fun k => s.labs.length - k) (0) ?_ (Nat.zero_le _) ?_
  · exact Weak.ren _ [(100, _)] hC rfl (by repeat (first | exact True.intro | refine And.intro ?_ ?_ | exact DLead.same | exact rfl | refine ⟨_, rfl, ?_⟩)) (by repeat (first | exact True.intro | refine And.intro ?_ ?_ | exact rfl | refine ⟨_, _, rfl, rfl, ?_⟩)) rfl rfl rfl
  · intro k hk
    refine AC.seq ?_
    refine AC.region ?_
    refine AL.p (by exact g_cmp rfl rfl rfl) rfl ?_
    refine AL.nil ?_
    refine th_n ?_
    refine AC.seq ?_
    refine AC.condD rfl (fun h0 => ?_) (fun h0 => ?_)
    · refine AC.skip ?_
      refine th_n ?_
      refine AC.seq ?_
      refine AC.block ?_
      refine AC.seq ?_
      have hk1 : k < s.labs.length := by omega
      have hget := labsLA_get hk1
      have hln := idxTo_len s.labs x k
      have hy : (lAt s.labs k).sig = x.sig ∧ (lAt s.labs k).up = x.up → idxTo s.labs x (k + 1) = idxTo s.labs x k ++ [(k : Int)] := fun h => by rw [idxTo, if_pos (lab_iff.2 h)]
      have hn : ¬ ((lAt s.labs k).sig = x.sig ∧ (lAt s.labs k).up = x.up) → idxTo s.labs x (k + 1) = idxTo s.labs x k := fun h => by rw [idxTo, if_neg (fun e => h (lab_iff.1 e))]
      refine AC.region ?_
      refine AL.p (by exact mv1 rfl) rfl ?_
      refine AL.p (by exact g_ia_view rfl rfl rfl rfl rfl (by rfl) (by assumption)) rfl ?_
      refine AL.p (by exact g_load_refN rfl rfl rfl rfl) rfl ?_
      refine AL.q (by exact h_alloc rfl) rfl ?_
      refine AL.p (by exact as1 rfl) rfl ?_
      refine AL.q (by exact h_store rfl rfl rfl rfl rfl rfl) rfl ?_
      refine AL.nil ?_
      refine th_n ?_
      refine AC.seq ?_
      refine AC.region ?_
      refine AL.p (by exact g_load_ptrN rfl rfl rfl rfl rfl) rfl ?_
      refine AL.p (by exact g_load_refN rfl rfl rfl rfl) rfl ?_
      refine AL.p (by exact g_eqIB (a := (lAt s.labs k).sig) (b := (lAt s.labs k).up) (c := x.sig) (d := x.up) (by decide +kernel) rfl rfl rfl) rfl ?_
      refine AL.nil ?_
      refine th_n ?_
      refine AC.condD rfl (fun h1 => ?_) (fun h1 => ?_)
      · refine AC.region ?_
        refine AL.p (by exact mv2 rfl) rfl ?_
        refine AL.p (by exact mv1 rfl) rfl ?_
        refine AL.q (by exact h_litF rfl rfl rfl rfl rfl rfl rfl rfl) rfl ?_
        refine AL.q (by exact h_appendI (idxTo s.labs x k) [(k : Int)] (.own rfl rfl (ints_len _).symm) (.view rfl) (by rw [List.length_append]; simp only [List.length_cons, List.length_nil]; omega) (by simp)) rfl ?_
        refine AL.p (by exact as2 rfl) rfl ?_
        refine AL.nil ?_
        refine ib_n ?_
        refine th_n ?_
        refine AC.region ?_
        refine AL.p (by exact g_arith rfl rfl rfl (by exact wrap_i64 (by omega))) rfl ?_
        refine AL.p (by exact mv1 rfl) rfl ?_
        refine AL.nil ?_
        refine th_n ?_
        have e := hy h1
        exact ⟨k + 1, by omega, by omega, Weak.ren _ [(100, _)] hC rfl (by rw [e]; repeat (first | exact True.intro | refine And.intro ?_ ?_ | exact DLead.same | exact rfl | refine ⟨_, rfl, ?_⟩)) (by rw [e]; repeat (first | exact True.intro | refine And.intro ?_ ?_ | exact rfl | refine ⟨_, _, rfl, rfl, ?_⟩)) rfl rfl rfl⟩
      · refine AC.skip ?_
        refine ib_n ?_
        refine th_n ?_
        refine AC.region ?_
        refine AL.p (by exact g_arith rfl rfl rfl (by exact wrap_i64 (by omega))) rfl ?_
        refine AL.p (by exact mv1 rfl) rfl ?_
        refine AL.nil ?_
        refine th_n ?_
        have e := hn h1
        exact ⟨k + 1, by omega, by omega, Weak.ren _ [(100, _)] hC rfl (by rw [e]; repeat (first | exact True.intro | refine And.intro ?_ ?_ | exact DLead.same | exact rfl | refine ⟨_, rfl, ?_⟩)) (by rw [e]; repeat (first | exact True.intro | refine And.intro ?_ ?_ | exact rfl | refine ⟨_, _, rfl, rfl, ?_⟩)) rfl rfl rfl⟩
    · refine AC.exit ?_
      refine th_e ?_
      refine th_e ?_
      refine ib_y ?_
      refine th_n ?_
      refine AC.seq ?_
      have hkk : k = s.labs.length := by omega
      subst hkk
      refine AC.region ?_
      refine AL.p (by exact mv2 rfl) rfl ?_
      refine AL.weak (Weak.freeze (i := 25) rfl rfl (ownl _ _) (ownt _ _)) ?_
      refine AL.p (by exact as1 rfl) rfl ?_
      refine AL.nil ?_
      refine th_n ?_
      refine AC.ret ?_
      refine bq_r ?_
      exact ret1 rfl rfl
theorem en_labelled : Enters Tryd.prog 33 := enters_of Tryd.func33 rfl rfl
theorem itoa_dec (n : Nat) (h : n < 100) : ASpec Tryd.prog 43 [aI n] [] (Pure1 (aS (bstr (Lib.decDigits n)))) := by
  have := dec_len n
  exact ASpec.ofNum (by rw [bstr_size]; omega) fun w => Tryd.strconv_Itoa_small n h w
theorem en_itoa : Enters Tryd.prog 43 := enters_of Tryd.func43 rfl rfl
theorem en_l1Num : Enters Tryd.prog 50 := enters_of Tryd.func50 rfl rfl
set_option maxHeartbeats 2000000 in
theorem l1Num_step (n : Nat) (h : n ≤ 1000000) (ih : ∀ m, m < n → m ≤ 1000000 → ASpec Tryd.prog 50 [aI m] [] (Pure1 (aS (bstr (Lib.decDigits m))))) : ASpec Tryd.prog 50 [aI n] [] (Pure1 (aS (bstr (Lib.decDigits n)))) := by
  have hd : Lib.decDigits n = if n < 10 then [UInt8.ofNat (48 + n)] else Lib.decDigits (n / 10) ++ [UInt8.ofNat (48 + n % 10)] := by
    rw [Lib.decDigits]; split <;> rfl
  have hu8 : n < 10 → ((UInt8.ofNat (48 + n)).toNat : Int) = 48 + n := by intro h; rw [UInt8.toNat_ofNat']; omega
  have hu9 : ((UInt8.ofNat (48 + n % 10)).toNat : Int) = 48 + ((n % 10 : Nat) : Int) := by rw [UInt8.toNat_ofNat']; omega
  have hq : IntKind.i64.wrap ((n : Int).tdiv 10) = ((n / 10 : Nat) : Int) := by
    rw [show ((n : Int).tdiv 10) = ((n / 10 : Nat) : Int) by rw [Int.tdiv_eq_ediv_of_nonneg (by omega)]; omega]
    exact wrap_i64 (by omega)
  have hr : (n : Int).tmod 10 = ((n % 10 : Nat) : Int) := by rw [Int.tmod_eq_emod_of_nonneg (by omega)]; omega
  have hdl := dec_len (n / 10)
  refine ASpec.of Tryd.func50 rfl rfl fun C hC => ?_
  refine AC.seq ?_
  refine AC.region ?_
  refine AL.p (by exact as1 rfl) rfl ?_
  refine AL.nil ?_
  refine th_n ?_
  refine AC.seq ?_
  refine AC.seq ?_
  refine AC.region ?_
  refine AL.p (by exact mv1 rfl) rfl ?_
  refine AL.p (by exact g_cmp rfl rfl rfl) rfl ?_
  refine AL.nil ?_
  refine th_n ?_
  refine AC.condD rfl (fun h0 => ?_) (fun h0 => ?_)
  · refine AC.seq ?_
    have hn10 : n < 10 := by omega
    have hu := hu8 hn10
    refine AC.region ?_
    refine AL.p (by exact mv1 rfl) rfl ?_
    refine AL.p (by exact g_arith rfl rfl rfl (by exact wrap_i64 (by omega))) rfl ?_
    refine AL.p (by exact g_convI (c := 48 + (n : Int)) rfl rfl rfl (wrap_u8 (by omega))) rfl ?_
    refine AL.q (by exact h_lit rfl rfl rfl rfl rfl rfl rfl rfl) rfl ?_
    refine AL.p (by exact g_strOfBytes (l := [UInt8.ofNat (48 + n)]) rfl rfl rfl rfl rfl (by show _ = [[DV.val (.int .u8 ((UInt8.ofNat (48 + n)).toNat : Int))]]; rw [hu]) rfl) rfl ?_
    refine AL.p (by exact as1 rfl) rfl ?_
    refine AL.nil ?_
    refine th_n ?_
    refine AC.ret ?_
    refine th_r ?_
    refine bq_r ?_
    exact ret1 rfl (by rw [hd, if_pos hn10])
  · refine AC.skip ?_
    refine th_n ?_
    refine AC.seq ?_
    have hn10 : ¬ n < 10 := by omega
    have hI := ih (n / 10) (by omega) (by omega)
    refine AC.drawn' mixed_ok [[], [0], [0,1], [], [3], [3,4], [3,4,5], [3,4,5,6], [3,4,5,6,7], [0,1,2,3,4,5,6,7,8], [0,1,2,3,4,5,6,7,8,9]] (by decide) ?_
    refine DF.op 0 [] 11 rfl rfl rfl (.free rfl (NOp.of (by exact mv1 rfl))) rfl ?_
    refine DF.op 1 [0] 11 rfl rfl rfl (.free rfl (NOp.of (by exact g_quo (c := ((n / 10 : Nat) : Int)) rfl rfl (by decide) hq))) rfl ?_
    refine DF.op 2 [0,1] 11 rfl rfl rfl (.free rfl (by exact h_pure en_l1Num rfl rfl (by repeat (first | exact rfl | exact DLead.same | refine ⟨_, _, rfl, ?_, ?_⟩)) hI rfl)) rfl ?_
    refine DF.op 3 [] 11 rfl rfl rfl (.free rfl (NOp.of (by exact mv1 rfl))) rfl ?_
    refine DF.op 4 [3] 11 rfl rfl rfl (.free rfl (NOp.of (by exact g_rem (c := ((n % 10 : Nat) : Int)) rfl rfl (by decide) hr))) rfl ?_
    refine DF.op 5 [3,4] 11 rfl rfl rfl (.free rfl (NOp.of (by exact g_arith (e := 48 + ((n % 10 : Nat) : Int)) rfl rfl rfl (wrap_i64 (by omega))))) rfl ?_
    refine DF.op 6 [3,4,5] 11 rfl rfl rfl (.free rfl (NOp.of (by exact g_convI (c := 48 + ((n % 10 : Nat) : Int)) rfl rfl rfl (wrap_u8 (by omega))))) rfl ?_
    refine DF.op 7 [3,4,5,6] 11 rfl rfl rfl (.free rfl (by exact h_lit rfl rfl rfl rfl rfl rfl rfl rfl)) rfl ?_
    refine DF.op 8 [3,4,5,6,7] 11 rfl rfl rfl (.free rfl (NOp.of (by exact g_strOfBytes (l := [UInt8.ofNat (48 + n % 10)]) rfl rfl rfl rfl rfl (by show _ = [[DV.val (.int .u8 ((UInt8.ofNat (48 + n % 10)).toNat : Int))]]; rw [hu9]) rfl))) rfl ?_
    refine DF.op 9 [0,1,2,3,4,5,6,7,8] 11 rfl rfl rfl (.free rfl (NOp.of (by exact g_saddB (a := Lib.decDigits (n / 10)) (b := [UInt8.ofNat (48 + n % 10)]) rfl rfl (by simp only [List.length_cons, List.length_nil]; omega)))) rfl ?_
    refine DF.op 10 [0,1,2,3,4,5,6,7,8,9] 11 rfl rfl rfl (.free rfl (NOp.of (by exact as1 rfl))) rfl ?_
    refine DF.fin (ps := [(0, 3), (0, 4), (0, 5), (0, 6), (0, 7), (0, 8), (1, 3), (1, 4), (1, 5), (1, 6), (1, 7), (1, 8), (2, 3), (2, 4), (2, 5), (2, 6), (2, 7), (2, 8), (3, 0), (3, 1), (3, 2), (4, 0), (4, 1), (4, 2), (5, 0), (5, 1), (5, 2), (6, 0), (6, 1), (6, 2), (7, 0), (7, 1), (7, 2), (8, 0), (8, 1), (8, 2)]) 11 rfl (by decide +kernel) (by decide +kernel) (by rfl) ?_
    refine th_n ?_
    refine AC.ret ?_
    refine bq_r ?_
    exact ret1 rfl (by rw [hd, if_neg hn10])
theorem l1Num_dec (n : Nat) (h : n ≤ 1000000) : ASpec Tryd.prog 50 [aI n] [] (Pure1 (aS (bstr (Lib.decDigits n)))) := by
  induction n using Nat.strongRecOn with
  | _ n ih => exact l1Num_step n h ih
set_option maxHeartbeats 4000000 in
theorem transName_spec (s : Stg) (t : Nat) (ht : t < s.labs.length) (hl : s.labs.length ≤ 98) (hx : (lAt s.labs t).sig < s.sigs.length) (hn : ∀ t, t ∈ s.sigs → t.name.length ≤ 1000) : ASpec Tryd.prog 24 [stgA s, aI t] [] (Pure1 (aS (bstr (nameT s t)))) := by
  have hget := labsLA_get ht
  have hE := edgeTextG_spec s.sigs (lAt s.labs t) hx hn
  have hL := labelled_spec s (lAt s.labs t) (by omega)
  have hp := idx_pos (l := s.labs) (x := lAt s.labs t) rfl ht
  have hll := idxTo_len s.labs (lAt s.labs t) s.labs.length
  have htl := idxTo_len s.labs (lAt s.labs t) t
  have hX := Index_spec (idxTo s.labs (lAt s.labs t) s.labs.length) (by omega) (t : Int)
  rw [hp] at hX
  have hT := labT_len hn (lAt s.labs t)
  have hdl := dec_len ((idxTo s.labs (lAt s.labs t) t).length + 1)
  have hIt := itoa_dec ((idxTo s.labs (lAt s.labs t) t).length + 1) (by omega)
  have hN : nameT s t = labT s.sigs (lAt s.labs t) ++ (if 1 < ((idxTo s.labs (lAt s.labs t) s.labs.length).length : Int) then [47] ++ Lib.decDigits ((idxTo s.labs (lAt s.labs t) t).length + 1) else []) := rfl
  obtain ⟨ds, hds⟩ : ∃ ds, ds = Lib.decDigits ((idxTo s.labs (lAt s.labs t) t).length + 1) := ⟨_, rfl⟩
  rw [← hds] at hIt hN hdl
  obtain ⟨a, ha⟩ : ∃ a, a = (idxTo s.labs (lAt s.labs t) t).length := ⟨_, rfl⟩
  rw [← ha] at hX hIt htl hdl
  obtain ⟨m, hm⟩ : ∃ m, m = idxTo s.labs (lAt s.labs t) s.labs.length := ⟨_, rfl⟩
  rw [← hm] at hL hX hll hN
  obtain ⟨w, hw⟩ : ∃ w, w = labT s.sigs (lAt s.labs t) := ⟨_, rfl⟩
  rw [← hw] at hE hT hN
  clear hp hds ha hm hw
  refine ASpec.of Tryd.func24 rfl rfl fun C hC => ?_
  refine AC.seq ?_
  refine AC.region ?_
  refine AL.q (by exact h_boxF rfl rfl) rfl ?_
  refine AL.p (by exact as1 rfl) rfl ?_
  refine AL.nil ?_
  refine th_n ?_
  refine AC.seq ?_
  refine AC.drawn' mixed_ok [[], [0], [], [2], [], [2,3,4], [2,3,4,5], [0,1,2,3,4,5,6], [], [], [9], [], [9,10,11], [9,10,11,12], [0,1,2,3,4,5,6,7,8,9,10,11,12,13], [0,1,2,3,4,5,6,7,8,9,10,11,12,13,14], [0,1,2,3,4,5,6,7,8,9,10,11,12,13,14,15]] (by decide) ?_
  refine DF.op 0 [] 17 rfl rfl rfl (.free rfl (NOp.of (by exact g_fa_ref rfl rfl rfl rfl rfl rfl))) rfl ?_
  refine DF.op 1 [0] 17 rfl rfl rfl (.free rfl (NOp.of (by exact g_load_ref rfl rfl rfl))) rfl ?_
  refine DF.op 2 [] 17 rfl rfl rfl (.free rfl (NOp.of (by exact g_fa_ref rfl rfl rfl rfl rfl rfl))) rfl ?_
  refine DF.op 3 [2] 17 rfl rfl rfl (.free rfl (NOp.of (by exact g_load_ref rfl rfl rfl))) rfl ?_
  refine DF.op 4 [] 17 rfl rfl rfl (.free rfl (NOp.of (by exact mv1 rfl))) rfl ?_
  refine DF.op 5 [2,3,4] 17 rfl rfl rfl (.free rfl (NOp.of (by exact g_ia_view rfl rfl rfl rfl rfl (by rfl) (by assumption)))) rfl ?_
  refine DF.op 6 [2,3,4,5] 17 rfl rfl rfl (.free rfl (NOp.of (by exact g_load_refN rfl rfl rfl rfl))) rfl ?_
  refine DF.op 7 [0,1,2,3,4,5,6] 17 rfl rfl rfl (.free rfl (by exact h_pure en_edgeText rfl rfl (by repeat (first | exact rfl | exact DLead.same | refine ⟨_, _, rfl, ?_, ?_⟩ | refine ⟨_, rfl, ?_⟩)) hE rfl)) rfl ?_
  refine DF.op 8 [] 17 rfl rfl rfl (.free rfl (NOp.of (by exact g_load_refN rfl rfl rfl rfl))) rfl ?_
  refine DF.op 9 [] 17 rfl rfl rfl (.free rfl (NOp.of (by exact g_fa_ref rfl rfl rfl rfl rfl rfl))) rfl ?_
  refine DF.op 10 [9] 17 rfl rfl rfl (.free rfl (NOp.of (by exact g_load_ref rfl rfl rfl))) rfl ?_
  refine DF.op 11 [] 17 rfl rfl rfl (.free rfl (NOp.of (by exact mv1 rfl))) rfl ?_
  refine DF.op 12 [9,10,11] 17 rfl rfl rfl (.free rfl (NOp.of (by exact g_ia_view rfl rfl rfl rfl rfl (by rfl) (by assumption)))) rfl ?_
  refine DF.op 13 [9,10,11,12] 17 rfl rfl rfl (.free rfl (NOp.of (by exact g_load_refN rfl rfl rfl rfl))) rfl ?_
  refine DF.op 14 [0,1,2,3,4,5,6,7,8,9,10,11,12,13] 17 rfl rfl rfl (.free rfl (by exact h_pure en_labelled rfl rfl (by repeat (first | exact rfl | exact DLead.same | refine ⟨_, _, rfl, ?_, ?_⟩ | refine ⟨_, rfl, ?_⟩)) hL rfl)) rfl ?_
  refine DF.op 15 [0,1,2,3,4,5,6,7,8,9,10,11,12,13,14] 17 rfl rfl rfl (.free rfl (NOp.of (by exact as1 rfl))) rfl ?_
  refine DF.op 16 [0,1,2,3,4,5,6,7,8,9,10,11,12,13,14,15] 17 rfl rfl rfl (.free rfl (NOp.of (by exact as1 rfl))) rfl ?_
  refine DF.fin (ps := [(0, 2), (0, 3), (0, 4), (0, 5), (0, 6), (0, 8), (0, 9), (0, 10), (0, 11), (0, 12), (0, 13), (1, 2), (1, 3), (1, 4), (1, 5), (1, 6), (1, 8), (1, 9), (1, 10), (1, 11), (1, 12), (1, 13), (2, 0), (2, 1), (2, 4), (2, 8), (2, 9), (2, 10), (2, 11), (2, 12), (2, 13), (3, 0), (3, 1), (3, 4), (3, 8), (3, 9), (3, 10), (3, 11), (3, 12), (3, 13), (4, 0), (4, 1), (4, 2), (4, 3), (4, 8), (4, 9), (4, 10), (4, 11), (4, 12), (4, 13), (5, 0), (5, 1), (5, 8), (5, 9), (5, 10), (5, 11), (5, 12), (5, 13), (6, 0), (6, 1), (6, 8), (6, 9), (6, 10), (6, 11), (6, 12), (6, 13), (7, 8), (7, 9), (7, 10), (7, 11), (7, 12), (7, 13), (8, 0), (8, 1), (8, 2), (8, 3), (8, 4), (8, 5), (8, 6), (8, 7), (8, 9), (8, 10), (8, 11), (8, 12), (8, 13), (9, 0), (9, 1), (9, 2), (9, 3), (9, 4), (9, 5), (9, 6), (9, 7), (9, 8), (9, 11), (10, 0), (10, 1), (10, 2), (10, 3), (10, 4), (10, 5), (10, 6), (10, 7), (10, 8), (10, 11), (11, 0), (11, 1), (11, 2), (11, 3), (11, 4), (11, 5), (11, 6), (11, 7), (11, 8), (11, 9), (11, 10), (12, 0), (12, 1), (12, 2), (12, 3), (12, 4), (12, 5), (12, 6), (12, 7), (12, 8), (13, 0), (13, 1), (13, 2), (13, 3), (13, 4), (13, 5), (13, 6), (13, 7), (13, 8)]) 17 rfl (by decide +kernel) (by decide +kernel) (by rfl) ?_
  refine th_n ?_
  refine AC.seq ?_
  refine AC.seq ?_
  refine AC.region ?_
  refine AL.p (by exact mv1 rfl) rfl ?_
  refine AL.p (by exact g_len_view (k := m.length) rfl rfl (ints_len _)) rfl ?_
  refine AL.p (by exact g_cmp rfl rfl rfl) rfl ?_
  refine AL.nil ?_
  refine th_n ?_
  refine AC.condD rfl (fun h0 => ?_) (fun h0 => ?_)
  · refine AC.region ?_
    refine AL.p (by exact mv1 rfl) rfl ?_
    refine AL.p (by exact mv1 rfl) rfl ?_
    refine AL.p (by exact mv1 rfl) rfl ?_
    refine AL.q (by exact h_pure en_Index rfl rfl (by repeat (first | exact rfl | exact DLead.same | refine ⟨_, _, rfl, ?_, ?_⟩)) hX rfl) rfl ?_
    refine AL.p (by exact g_arith (e := ((a + 1 : Nat) : Int)) rfl rfl rfl (by rw [Int.natCast_add]; exact wrap_i64 (by omega))) rfl ?_
    refine AL.q (by exact h_pure en_itoa rfl rfl (by repeat (first | exact rfl | exact DLead.same | refine ⟨_, _, rfl, ?_, ?_⟩)) hIt rfl) rfl ?_
    refine AL.p (by exact g_saddB (a := [47]) (b := ds) rfl rfl (by simp only [List.length_cons, List.length_nil]; omega)) rfl ?_
    refine AL.p (by exact g_saddB (a := w) (b := [47] ++ ds) rfl rfl (by simp only [List.length_cons, List.length_nil, List.length_append]; omega)) rfl ?_
    refine AL.p (by exact as1 rfl) rfl ?_
    refine AL.nil ?_
    refine th_n ?_
    refine AC.seq ?_
    refine AC.region ?_
    refine AL.p (by exact mv1 rfl) rfl ?_
    refine AL.p (by exact as1 rfl) rfl ?_
    refine AL.nil ?_
    refine th_n ?_
    refine AC.ret ?_
    refine bq_r ?_
    (have e := hN.trans (by rw [if_pos h0]); exact ret1 rfl (by rw [e]))
  · refine AC.skip ?_
    refine th_n ?_
    refine AC.seq ?_
    refine AC.region ?_
    refine AL.p (by exact mv1 rfl) rfl ?_
    refine AL.p (by exact as1 rfl) rfl ?_
    refine AL.nil ?_
    refine th_n ?_
    refine AC.ret ?_
    refine bq_r ?_
    (have e := hN.trans (by rw [if_neg h0, List.append_nil]); exact ret1 rfl (by rw [e]))
theorem en_transName : Enters Tryd.prog 24 := enters_of Tryd.func24 rfl rfl
set_option maxHeartbeats 4000000 in
theorem l2Text_spec (s : Stg) (t : Nat) (ht : t < s.labs.length) (hl : s.labs.length ≤ 98) (hx : (lAt s.labs t).sig < s.sigs.length) (hn : ∀ t, t ∈ s.sigs → t.name.length ≤ 1000) : ASpec Tryd.prog 27 [stgA s, aI t] [] (Pure1 (aS (bstr (nameT s t)))) := by
  have hgt := labsLA_get ht
  have hE := l2Word_spec s (lAt s.labs t) hx hn
  have hT := labT_len hn (lAt s.labs t)
  have htl := idxTo_len s.labs (lAt s.labs t) t
  have hdl := dec_len ((idxTo s.labs (lAt s.labs t) t).length + 1)
  have hIt := l1Num_dec ((idxTo s.labs (lAt s.labs t) t).length + 1) (by omega)
  have hN : nameT s t = labT s.sigs (lAt s.labs t) ++ (if 1 < ((idxTo s.labs (lAt s.labs t) s.labs.length).length : Int) then [47] ++ Lib.decDigits ((idxTo s.labs (lAt s.labs t) t).length + 1) else []) := rfl
  obtain ⟨x, hxx⟩ : ∃ x, x = lAt s.labs t := ⟨_, rfl⟩
  rw [← hxx] at hE hT htl hdl hIt hN hgt
  obtain ⟨w, hw⟩ : ∃ w, w = labT s.sigs x := ⟨_, rfl⟩
  rw [← hw] at hE hT hN
  clear hw hxx
  refine ASpec.of Tryd.func27 rfl rfl fun C hC => ?_
  refine AC.seq ?_
  refine AC.region ?_
  refine AL.q (by exact h_boxF rfl rfl) rfl ?_
  refine AL.p (by exact as1 rfl) rfl ?_
  refine AL.nil ?_
  refine th_n ?_
  refine AC.seq ?_
  refine AC.region ?_
  refine AL.p (by exact as1 rfl) rfl ?_
  refine AL.p (by exact as1 rfl) rfl ?_
  refine AL.nil ?_
  refine th_n ?_
  refine AC.seq ?_
  refine AC.seq ?_
  refine AC.region ?_
  refine AL.p (by exact g_fa_ref rfl rfl rfl rfl rfl rfl) rfl ?_
  refine AL.p (by exact g_load_ref rfl rfl rfl) rfl ?_
  refine AL.p (by exact g_len_view rfl rfl (by exact List.length_map _)) rfl ?_
  refine AL.p (by exact mv1 rfl) rfl ?_
  refine AL.nil ?_
  refine th_n ?_
  refine AC.block ?_
  refine AC.loop (ι := Nat) (fun k => ⟨49, 200, [(1, aI t), (2, .d (.ref (stgD s))), (5, aI (idxTo s.labs x k).length), (6, aI (idxTo s.labs x (min k t)).length), (11, .d (vLabs s.labs)), (12, aI s.labs.length), (13, aI k)], []⟩) (fun k => k ≤ s.labs.length) (fun k => s.labs.length - k) (0) ?_ (Nat.zero_le _) ?_
  · exact Weak.ren _ [] hC rfl (by rw [Nat.zero_min]; repeat (first | exact True.intro | refine And.intro ?_ ?_ | exact DLead.same)) (by repeat (exact True.intro)) rfl rfl rfl
  · intro k hk
    refine AC.seq ?_
    refine AC.region ?_
    refine AL.p (by exact g_cmp rfl rfl rfl) rfl ?_
    refine AL.nil ?_
    refine th_n ?_
    refine AC.seq ?_
    refine AC.condD rfl (fun h0 => ?_) (fun h0 => ?_)
    · refine AC.skip ?_
      refine th_n ?_
      refine AC.seq ?_
      refine AC.block ?_
      refine AC.seq ?_
      have hk1 : k < s.labs.length := by omega
      have hget := labsLA_get hk1
      have hln := idxTo_len s.labs x k
      have hlm := idxTo_len s.labs x (min k t)
      have hmk : min k t ≤ k := Nat.min_le_left ..
      have hy : (lAt s.labs k).sig = x.sig ∧ (lAt s.labs k).up = x.up → ((idxTo s.labs x (k + 1)).length : Int) = (idxTo s.labs x k).length + 1 := fun h => by rw [idxTo, if_pos (lab_iff.2 h), List.length_append]; simp
      have hn' : ¬ ((lAt s.labs k).sig = x.sig ∧ (lAt s.labs k).up = x.up) → idxTo s.labs x (k + 1) = idxTo s.labs x k := fun h => by rw [idxTo, if_neg (fun e => h (lab_iff.1 e))]
      have hy2 : (lAt s.labs k).sig = x.sig ∧ (lAt s.labs k).up = x.up → (k : Int) < t → ((idxTo s.labs x (min (k + 1) t)).length : Int) = (idxTo s.labs x (min k t)).length + 1 := fun h h2 => by rw [Nat.min_eq_left (show k + 1 ≤ t by omega), Nat.min_eq_left (show k ≤ t by omega)]; exact hy h
      have hy3 : ¬ (k : Int) < t → idxTo s.labs x (min (k + 1) t) = idxTo s.labs x (min k t) := fun h2 => by rw [Nat.min_eq_right (show t ≤ k + 1 by omega), Nat.min_eq_right (show t ≤ k by omega)]
      have hn2 : ¬ ((lAt s.labs k).sig = x.sig ∧ (lAt s.labs k).up = x.up) → idxTo s.labs x (min (k + 1) t) = idxTo s.labs x (min k t) := fun h => if h2 : (k : Int) < t then (by rw [Nat.min_eq_left (show k + 1 ≤ t by omega), Nat.min_eq_left (show k ≤ t by omega)]; exact hn' h) else hy3 h2
      refine AC.region ?_
      refine AL.p (by exact mv1 rfl) rfl ?_
      refine AL.p (by exact g_ia_view rfl rfl rfl rfl rfl (by rfl) (by assumption)) rfl ?_
      refine AL.p (by exact g_load_refN rfl rfl rfl rfl) rfl ?_
      refine AL.q (by exact h_alloc rfl) rfl ?_
      refine AL.p (by exact as1 rfl) rfl ?_
      refine AL.q (by exact h_store rfl rfl rfl rfl rfl rfl) rfl ?_
      refine AL.nil ?_
      refine th_n ?_
      refine AC.seq ?_
      refine AC.drawn' mixed_ok [[], [], [1], [], [1,2,3], [1,2,3,4], [0,1,2,3,4,5]] (by decide) ?_
      refine DF.op 0 [] 7 rfl rfl rfl (.free rfl (NOp.of (by exact g_load_ptrN rfl rfl rfl rfl rfl))) rfl ?_
      refine DF.op 1 [] 7 rfl rfl rfl (.free rfl (NOp.of (by exact g_fa_ref rfl rfl rfl rfl rfl rfl))) rfl ?_
      refine DF.op 2 [1] 7 rfl rfl rfl (.free rfl (NOp.of (by exact g_load_ref rfl rfl rfl))) rfl ?_
      refine DF.op 3 [] 7 rfl rfl rfl (.free rfl (NOp.of (by exact mv1 rfl))) rfl ?_
      refine DF.op 4 [1,2,3] 7 rfl rfl rfl (.free rfl (NOp.of (by exact g_ia_view (i := t) rfl rfl rfl rfl rfl rfl hgt))) rfl ?_
      refine DF.op 5 [1,2,3,4] 7 rfl rfl rfl (.free rfl (NOp.of (by exact g_load_refN rfl rfl rfl rfl))) rfl ?_
      refine DF.op 6 [0,1,2,3,4,5] 7 rfl rfl rfl (.free rfl (NOp.of (by exact g_eqIB (a := (lAt s.labs k).sig) (b := (lAt s.labs k).up) (c := x.sig) (d := x.up) (by decide +kernel) rfl rfl rfl))) rfl ?_
      refine DF.fin (ps := [(0, 1), (0, 2), (0, 3), (0, 4), (0, 5), (1, 0), (1, 3), (2, 0), (2, 3), (3, 0), (3, 1), (3, 2), (4, 0), (5, 0)]) 7 rfl (by decide +kernel) (by decide +kernel) (by rfl) ?_
      refine th_n ?_
      refine AC.condD rfl (fun h1 => ?_) (fun h1 => ?_)
      · refine AC.seq ?_
        refine AC.region ?_
        refine AL.p (by exact mv1 rfl) rfl ?_
        refine AL.p (by exact g_arith rfl rfl rfl (by exact wrap_i64 (by omega))) rfl ?_
        refine AL.p (by exact as1 rfl) rfl ?_
        refine AL.nil ?_
        refine th_n ?_
        refine AC.seq ?_
        refine AC.region ?_
        refine AL.p (by exact mv1 rfl) rfl ?_
        refine AL.p (by exact mv1 rfl) rfl ?_
        refine AL.p (by exact g_cmp rfl rfl rfl) rfl ?_
        refine AL.nil ?_
        refine th_n ?_
        refine AC.condD rfl (fun h2 => ?_) (fun h2 => ?_)
        · refine AC.region ?_
          refine AL.p (by exact mv1 rfl) rfl ?_
          refine AL.p (by exact g_arith rfl rfl rfl (by exact wrap_i64 (by omega))) rfl ?_
          refine AL.p (by exact as1 rfl) rfl ?_
          refine AL.nil ?_
          refine ib_n ?_
          refine th_n ?_
          refine AC.region ?_
          refine AL.p (by exact g_arith rfl rfl rfl (by exact wrap_i64 (by omega))) rfl ?_
          refine AL.p (by exact mv1 rfl) rfl ?_
          refine AL.nil ?_
          refine th_n ?_
          (have e := hy h1; have e2 := hy2 h1 h2; exact ⟨k + 1, by omega, by omega, Weak.ren _ [] hC rfl (by refine ⟨.same, .same, DLead.eqI e, DLead.eqI e2, ?_⟩; repeat (first | exact True.intro | refine And.intro ?_ ?_ | exact DLead.same)) (by repeat (exact True.intro)) rfl rfl rfl⟩)
        · refine AC.skip ?_
          refine ib_n ?_
          refine th_n ?_
          refine AC.region ?_
          refine AL.p (by exact g_arith rfl rfl rfl (by exact wrap_i64 (by omega))) rfl ?_
          refine AL.p (by exact mv1 rfl) rfl ?_
          refine AL.nil ?_
          refine th_n ?_
          (have e := hy h1; have e2 := hy3 h2; exact ⟨k + 1, by omega, by omega, Weak.ren _ [] hC rfl (by rw [e2]; refine ⟨.same, .same, DLead.eqI e, .same, ?_⟩; repeat (first | exact True.intro | refine And.intro ?_ ?_ | exact DLead.same)) (by repeat (exact True.intro)) rfl rfl rfl⟩)
      · refine AC.skip ?_
        refine ib_n ?_
        refine th_n ?_
        refine AC.region ?_
        refine AL.p (by exact g_arith rfl rfl rfl (by exact wrap_i64 (by omega))) rfl ?_
        refine AL.p (by exact mv1 rfl) rfl ?_
        refine AL.nil ?_
        refine th_n ?_
        (have e := hn' h1; have e2 := hn2 h1; exact ⟨k + 1, by omega, by omega, Weak.ren _ [] hC rfl (by rw [e, e2]; repeat (first | exact True.intro | refine And.intro ?_ ?_ | exact DLead.same)) (by repeat (exact True.intro)) rfl rfl rfl⟩)
    · refine AC.exit ?_
      refine th_e ?_
      refine th_e ?_
      refine ib_y ?_
      refine th_n ?_
      refine AC.seq ?_
      have hkk : k = s.labs.length := by omega
      subst hkk
      rw [Nat.min_eq_right (Nat.le_of_lt ht)]
      obtain ⟨ds, hds⟩ : ∃ ds, ds = Lib.decDigits ((idxTo s.labs x t).length + 1) := ⟨_, rfl⟩
      rw [← hds] at hIt hN hdl
      obtain ⟨a, ha⟩ : ∃ a, a = (idxTo s.labs x t).length := ⟨_, rfl⟩
      rw [← ha] at hIt htl hdl ⊢
      obtain ⟨m, hm⟩ : ∃ m, m = (idxTo s.labs x s.labs.length).length := ⟨_, rfl⟩
      rw [← hm] at hN ⊢
      refine AC.drawn' mixed_ok [[], [], [1], [], [1,2,3], [1,2,3,4], [0,1,2,3,4,5], [0,1,2,3,4,5,6]] (by decide) ?_
      refine DF.op 0 [] 8 rfl rfl rfl (.free rfl (NOp.of (by exact g_load_refN rfl rfl rfl rfl))) rfl ?_
      refine DF.op 1 [] 8 rfl rfl rfl (.free rfl (NOp.of (by exact g_fa_ref rfl rfl rfl rfl rfl rfl))) rfl ?_
      refine DF.op 2 [1] 8 rfl rfl rfl (.free rfl (NOp.of (by exact g_load_ref rfl rfl rfl))) rfl ?_
      refine DF.op 3 [] 8 rfl rfl rfl (.free rfl (NOp.of (by exact mv1 rfl))) rfl ?_
      refine DF.op 4 [1,2,3] 8 rfl rfl rfl (.free rfl (NOp.of (by exact g_ia_view (i := t) rfl rfl rfl rfl rfl rfl hgt))) rfl ?_
      refine DF.op 5 [1,2,3,4] 8 rfl rfl rfl (.free rfl (NOp.of (by exact g_load_refN rfl rfl rfl rfl))) rfl ?_
      refine DF.op 6 [0,1,2,3,4,5] 8 rfl rfl rfl (.free rfl (by exact h_pure en_l2Word rfl rfl (by repeat (first | exact rfl | exact DLead.same | refine ⟨_, _, rfl, ?_, ?_⟩ | refine ⟨_, rfl, ?_⟩)) hE rfl)) rfl ?_
      refine DF.op 7 [0,1,2,3,4,5,6] 8 rfl rfl rfl (.free rfl (NOp.of (by exact as1 rfl))) rfl ?_
      refine DF.fin (ps := [(0, 1), (0, 2), (0, 3), (0, 4), (0, 5), (1, 0), (1, 3), (2, 0), (2, 3), (3, 0), (3, 1), (3, 2), (4, 0), (5, 0)]) 8 rfl (by decide +kernel) (by decide +kernel) (by rfl) ?_
      refine th_n ?_
      refine AC.seq ?_
      refine AC.seq ?_
      refine AC.region ?_
      refine AL.p (by exact mv1 rfl) rfl ?_
      refine AL.p (by exact g_cmp rfl rfl rfl) rfl ?_
      refine AL.nil ?_
      refine th_n ?_
      refine AC.condD rfl (fun h1 => ?_) (fun h1 => ?_)
      · refine AC.region ?_
        refine AL.p (by exact mv1 rfl) rfl ?_
        refine AL.p (by exact mv1 rfl) rfl ?_
        refine AL.p (by exact g_arith (e := ((a + 1 : Nat) : Int)) rfl rfl rfl (by rw [Int.natCast_add]; exact wrap_i64 (by omega))) rfl ?_
        refine AL.q (by exact h_pure en_l1Num rfl rfl (by repeat (first | exact rfl | exact DLead.same | refine ⟨_, _, rfl, ?_, ?_⟩)) hIt rfl) rfl ?_
        refine AL.p (by exact g_saddB (a := [47]) (b := ds) rfl rfl (by simp only [List.length_cons, List.length_nil]; omega)) rfl ?_
        refine AL.p (by exact g_saddB (a := w) (b := [47] ++ ds) rfl rfl (by simp only [List.length_cons, List.length_nil, List.length_append]; omega)) rfl ?_
        refine AL.p (by exact as1 rfl) rfl ?_
        refine AL.nil ?_
        refine th_n ?_
        refine AC.seq ?_
        refine AC.region ?_
        refine AL.p (by exact mv1 rfl) rfl ?_
        refine AL.p (by exact as1 rfl) rfl ?_
        refine AL.nil ?_
        refine th_n ?_
        refine AC.ret ?_
        refine bq_r ?_
        (have e := hN.trans (by rw [if_pos h1]); exact ret1 rfl (by rw [e]))
      · refine AC.skip ?_
        refine th_n ?_
        refine AC.seq ?_
        refine AC.region ?_
        refine AL.p (by exact mv1 rfl) rfl ?_
        refine AL.p (by exact as1 rfl) rfl ?_
        refine AL.nil ?_
        refine th_n ?_
        refine AC.ret ?_
        refine bq_r ?_
        (have e := hN.trans (by rw [if_neg h1, List.append_nil]); exact ret1 rfl (by rw [e]))
theorem en_l2Text : Enters Tryd.prog 27 := enters_of Tryd.func27 rfl rfl
end Go.Proofs.YtnklhbfdfddigaaDoor

set_option linter.all false
set_option maxRecDepth 20000
namespace Go.Proofs.YtnklhbfdfddigaaDoor
open Go.RowKit

theorem goodS_sigs {s : Stg} (h : goodS s = true) : (1 ≤ s.sigs.length ∧ s.sigs.length ≤ 8) ∧ (∀ x, x ∈ s.sigs → nameB x.name = true) ∧ goodN s.net = true ∧ s.labs.length = s.net.ts.length := by
  simp only [goodS, Bool.and_eq_true, decide_eq_true_eq] at h
  obtain ⟨⟨h1, h2⟩, h3, h4, h5⟩ := h
  unfold sigsB at h3
  rw [Bool.and_eq_true] at h3
  have h6 := inI_iff.1 h3.2
  refine ⟨by omega, fun x hx => ?_, h1, by omega⟩
  obtain ⟨k, hk, rfl⟩ := List.getElem_of_mem hx
  have := allK_iff.1 h3.1 k hk
  unfold sigK at this
  rw [Bool.and_eq_true, sAt_nat hk] at this
  exact this.1
theorem goodS_labs {s : Stg} (h : goodS s = true) : ∀ x, x ∈ s.labs → (0 ≤ x.sig ∧ x.sig < s.sigs.length) ∨ (x.sig = -1 ∧ x.up = false) := by
  intro x hx
  simp only [goodS, Bool.and_eq_true, List.all_eq_true] at h
  have := h.2.2.2 x hx
  simp only [labOk, Bool.or_eq_true, Bool.and_eq_true, decide_eq_true_eq, Bool.not_eq_true'] at this
  rcases this with h | h
  · exact .inl (by omega)
  · exact .inr h
theorem nameB_len {m : List UInt8} (h : nameB m = true) : 1 ≤ m.length ∧ m.length ≤ 6 := by
  unfold nameB at h
  rw [Bool.and_eq_true] at h
  have := inI_iff.1 h.2
  omega
theorem goodS_nm {s : Stg} (h : goodS s = true) : ∀ t, t ∈ s.sigs → t.name.length ≤ 1000 := fun t ht => by have := nameB_len ((goodS_sigs h).2.1 t ht); omega
theorem goodS_few {s : Stg} (h : goodS s = true) : s.labs.length ≤ 24 := by
  have h1 := goodS_sigs h
  have h2 := h1.2.2.1
  simp only [goodN, Bool.and_eq_true, decide_eq_true_eq] at h2
  have := h2.1.2
  omega
theorem goodS_at {s : Stg} (h : goodS s = true) {t : Nat} (ht : t < s.labs.length) : (lAt s.labs t).sig < s.sigs.length := by
  rw [lAt_nat ht]
  have := goodS_labs h _ (List.getElem_mem ht)
  omega
/-- The first number below n of which p is so; else n. -/
def firstK (p : Nat → Bool) (n : Nat) : Nat := (List.range n).findIdx p
theorem firstK_at {p : Nat → Bool} {n k : Nat} (hk : k < n) (h : p k = true) (hp : ∀ j, j < k → p j = false) : firstK p n = k :=
  (List.findIdx_eq (by simpa using hk)).2 ⟨by simpa using h, fun j hj => by simpa using hp j hj⟩
theorem firstK_none {p : Nat → Bool} {n : Nat} (hp : ∀ j, j < n → p j = false) : firstK p n = n := by
  have : (List.range n).findIdx p = (List.range n).length := List.findIdx_eq_length.2 (fun x hx => hp x (List.mem_range.1 hx))
  rw [firstK, this, List.length_range]
def tnR (s : Stg) (t : Int) : List UInt8 × Bool := if (goodS s && (decide (0 ≤ t) && decide (t ≤ (s.labs.length : Int) - 1))) = true then (nameT s t.toNat, true) else ([], false)
def tbR (s : Stg) (w : List UInt8) : Int × Bool := if goodS s = true then (if firstK (fun k => decide (nameT s k = w)) s.labs.length < s.labs.length then ((firstK (fun k => decide (nameT s k = w)) s.labs.length : Int), true) else (0, false)) else (0, false)
def toR (s : Stg) (i : Int) (up : Bool) : List Int × Bool := if (goodS s && (decide (0 ≤ i) && decide (i ≤ (s.sigs.length : Int) - 1))) = true then (idxTo s.labs ⟨i, up⟩ s.labs.length, true) else ([], false)
def siI (s : Stg) (nm : List UInt8) : Int := findI (fun x => decide (x.name = nm)) s.sigs
def siR (s : Stg) (nm : List UInt8) : Int × Bool := if (goodS s && !decide (siI s nm < 0)) = true then (siI s nm, true) else (0, false)
set_option maxHeartbeats 4000000 in
theorem iTransName_spec (s : Stg) (t : Int) (h : StgL s) (ht : -1000000 ≤ t ∧ t ≤ 1000000) : ASpec Tryd.prog 6 [stgA s, aI t] [] (Pure1 (.tup [aS (bstr (tnR s t).1), aT (tnR s t).2])) := by
  have hV := iIsValidSTG_spec s h
  have hW := within_spec t 0 ((s.labs.length : Int) - 1)
  have hll := h.l
  have hR : tnR s t = if (goodS s && (decide (0 ≤ t) && decide (t ≤ (s.labs.length : Int) - 1))) = true then (nameT s t.toNat, true) else ([], false) := rfl
  have hb0 : goodS s = true → (decide (0 ≤ t) && decide (t ≤ (s.labs.length : Int) - 1)) = true → ∃ k : Nat, t = k ∧ k = t.toNat ∧ k < s.labs.length ∧ ASpec Tryd.prog 24 [stgA s, aI k] [] (Pure1 (aS (bstr (nameT s k)))) := fun hg hr => by
    simp only [Bool.and_eq_true, decide_eq_true_eq] at hr
    have hk : t.toNat < s.labs.length := by omega
    exact ⟨t.toNat, by omega, rfl, hk, transName_spec s t.toNat hk (by have := goodS_few hg; omega) (goodS_at hg hk) (goodS_nm hg)⟩
  obtain ⟨b1, hb1⟩ : ∃ b, b = goodS s := ⟨_, rfl⟩
  obtain ⟨b2, hb2⟩ : ∃ b, b = (decide (0 ≤ t) && decide (t ≤ (s.labs.length : Int) - 1)) := ⟨_, rfl⟩
  rw [← hb1] at hV hR hb0
  rw [← hb2] at hW hR hb0
  obtain ⟨R, hRR⟩ : ∃ R, R = tnR s t := ⟨_, rfl⟩
  rw [← hRR] at hR ⊢
  clear hb1 hb2 hRR
  refine ASpec.of Tryd.func6 rfl rfl fun C hC => ?_
  refine AC.seq ?_
  refine AC.region ?_
  refine AL.q (by exact h_boxF rfl rfl) rfl ?_
  refine AL.p (by exact as1 rfl) rfl ?_
  refine AL.p (by exact as1 rfl) rfl ?_
  refine AL.nil ?_
  refine th_n ?_
  refine AC.seq ?_
  refine AC.seq ?_
  refine AC.region ?_
  refine AL.p (by exact g_load_refN rfl rfl rfl rfl) rfl ?_
  refine AL.q (by exact h_pure en_iIsValidSTG rfl rfl (by repeat (first | exact rfl | exact DLead.same | refine ⟨_, _, rfl, ?_, ?_⟩ | refine ⟨_, rfl, ?_⟩)) hV rfl) rfl ?_
  refine AL.p (by exact g_not rfl) rfl ?_
  refine AL.p (by exact mv1 rfl) rfl ?_
  refine AL.caseGB rfl rfl (fun h0 => ?_) (fun h0 => ?_)
  · refine AL.not rfl rfl rfl rfl rfl ?_
    refine AL.not rfl rfl rfl rfl rfl ?_
    refine AL.not rfl rfl rfl rfl rfl ?_
    refine AL.not rfl rfl rfl rfl rfl ?_
    refine AL.not rfl rfl rfl rfl rfl ?_
    refine AL.not rfl rfl rfl rfl rfl ?_
    refine AL.not rfl rfl rfl rfl rfl ?_
    refine AL.p (by exact g_pickT (r := .d _) rfl rfl) rfl ?_
    refine AL.nil ?_
    refine th_n ?_
    refine AC.condT rfl ?_
    refine AC.seq ?_
    refine AC.region ?_
    refine AL.p (by exact as1 rfl) rfl ?_
    refine AL.p (by exact as1 rfl) rfl ?_
    refine AL.nil ?_
    refine th_n ?_
    refine AC.ret ?_
    refine th_r ?_
    refine bq_r ?_
    have q0 : b1 = false ∨ (b1 = true ∧ b2 = false) := by exact .inl (by simpa using h0)
    have e : R = ([], false) := by rcases q0 with q | ⟨q, q'⟩ <;> rw [hR, q]; rfl; rw [q']; rfl
    exact ret2 rfl (by rw [e]; rfl) (by rw [e])
  · refine AL.yes rfl rfl rfl ?_
    refine AL.p (by exact mv1 rfl) rfl ?_
    refine AL.yes rfl rfl rfl ?_
    refine AL.p (by exact g_fa_ref rfl rfl rfl rfl rfl rfl) rfl ?_
    refine AL.yes rfl rfl rfl ?_
    refine AL.p (by exact g_load_ref rfl rfl rfl) rfl ?_
    refine AL.yes rfl rfl rfl ?_
    refine AL.p (by exact g_len_view (k := s.labs.length) rfl rfl (labsL_len _)) rfl ?_
    refine AL.yes rfl rfl rfl ?_
    refine AL.p (by exact g_arith rfl rfl rfl (by exact wrap_i64 (by omega))) rfl ?_
    refine AL.yes rfl rfl rfl ?_
    refine AL.q (by exact h_pure en_within rfl rfl (by repeat (first | exact rfl | exact DLead.same | refine ⟨_, _, rfl, ?_, ?_⟩)) hW rfl) rfl ?_
    refine AL.yes rfl rfl rfl ?_
    refine AL.p (by exact g_not rfl) rfl ?_
    refine AL.p (by exact g_pickF (r := .d _) rfl rfl) rfl ?_
    refine AL.nil ?_
    refine th_n ?_
    refine AC.condB rfl (fun h1 => ?_) (fun h1 => ?_)
    · refine AC.seq ?_
      refine AC.region ?_
      refine AL.p (by exact as1 rfl) rfl ?_
      refine AL.p (by exact as1 rfl) rfl ?_
      refine AL.nil ?_
      refine th_n ?_
      refine AC.ret ?_
      refine th_r ?_
      refine bq_r ?_
      have q0 : b1 = false ∨ (b1 = true ∧ b2 = false) := by exact .inr ⟨by simpa using h0, by simpa using h1⟩
      have e : R = ([], false) := by rcases q0 with q | ⟨q, q'⟩ <;> rw [hR, q]; rfl; rw [q']; rfl
      exact ret2 rfl (by rw [e]; rfl) (by rw [e])
    · refine AC.skip ?_
      refine th_n ?_
      refine AC.seq ?_
      have q0 : b1 = true := by simpa using h0
      have q1 : b2 = true := by simpa using h1
      obtain ⟨k, rfl, hkt, hk, hN⟩ := hb0 q0 q1
      refine AC.region ?_
      refine AL.p (by exact g_load_refN rfl rfl rfl rfl) rfl ?_
      refine AL.p (by exact mv1 rfl) rfl ?_
      refine AL.q (by exact h_pure en_transName rfl rfl (by repeat (first | exact rfl | exact DLead.same | refine ⟨_, _, rfl, ?_, ?_⟩ | refine ⟨_, rfl, ?_⟩)) hN rfl) rfl ?_
      refine AL.p (by exact as1 rfl) rfl ?_
      refine AL.p (by exact as1 rfl) rfl ?_
      refine AL.nil ?_
      refine th_n ?_
      refine AC.ret ?_
      refine bq_r ?_
      exact ret2 rfl (by rw [hR, q0, q1, ← hkt]; rfl) (by rw [hR, q0, q1]; rfl)
theorem en_iTransName : Enters Tryd.prog 6 := enters_of Tryd.func6 rfl rfl
set_option maxHeartbeats 4000000 in
theorem sTransName_spec (s : Stg) (t : Int) (h : StgL s) (ht : -1000000 ≤ t ∧ t ≤ 1000000) : ASpec Tryd.prog 7 [stgA s, aI t] [] (Pure1 (.tup [aS (bstr (tnR s t).1), aT (tnR s t).2])) := by
  have hV := l2Good_spec s h
  have hW := l1In_spec t 0 ((s.labs.length : Int) - 1)
  have hll := h.l
  have hR : tnR s t = if (goodS s && (decide (0 ≤ t) && decide (t ≤ (s.labs.length : Int) - 1))) = true then (nameT s t.toNat, true) else ([], false) := rfl
  have hb0 : goodS s = true → (decide (0 ≤ t) && decide (t ≤ (s.labs.length : Int) - 1)) = true → ∃ k : Nat, t = k ∧ k = t.toNat ∧ k < s.labs.length ∧ ASpec Tryd.prog 27 [stgA s, aI k] [] (Pure1 (aS (bstr (nameT s k)))) := fun hg hr => by
    simp only [Bool.and_eq_true, decide_eq_true_eq] at hr
    have hk : t.toNat < s.labs.length := by omega
    exact ⟨t.toNat, by omega, rfl, hk, l2Text_spec s t.toNat hk (by have := goodS_few hg; omega) (goodS_at hg hk) (goodS_nm hg)⟩
  obtain ⟨b1, hb1⟩ : ∃ b, b = goodS s := ⟨_, rfl⟩
  obtain ⟨b2, hb2⟩ : ∃ b, b = (decide (0 ≤ t) && decide (t ≤ (s.labs.length : Int) - 1)) := ⟨_, rfl⟩
  rw [← hb1] at hV hR hb0
  rw [← hb2] at hW hR hb0
  obtain ⟨R, hRR⟩ : ∃ R, R = tnR s t := ⟨_, rfl⟩
  rw [← hRR] at hR ⊢
  clear hb1 hb2 hRR
  refine ASpec.of Tryd.func7 rfl rfl fun C hC => ?_
  refine AC.seq ?_
  refine AC.region ?_
  refine AL.q (by exact h_boxF rfl rfl) rfl ?_
  refine AL.p (by exact as1 rfl) rfl ?_
  refine AL.p (by exact as1 rfl) rfl ?_
  refine AL.nil ?_
  refine th_n ?_
  refine AC.seq ?_
  refine AC.seq ?_
  refine AC.region ?_
  refine AL.p (by exact g_load_refN rfl rfl rfl rfl) rfl ?_
  refine AL.q (by exact h_pure en_l2Good rfl rfl (by repeat (first | exact rfl | exact DLead.same | refine ⟨_, _, rfl, ?_, ?_⟩ | refine ⟨_, rfl, ?_⟩)) hV rfl) rfl ?_
  refine AL.p (by exact g_not rfl) rfl ?_
  refine AL.p (by exact mv1 rfl) rfl ?_
  refine AL.caseGB rfl rfl (fun h0 => ?_) (fun h0 => ?_)
  · refine AL.not rfl rfl rfl rfl rfl ?_
    refine AL.not rfl rfl rfl rfl rfl ?_
    refine AL.not rfl rfl rfl rfl rfl ?_
    refine AL.not rfl rfl rfl rfl rfl ?_
    refine AL.not rfl rfl rfl rfl rfl ?_
    refine AL.not rfl rfl rfl rfl rfl ?_
    refine AL.not rfl rfl rfl rfl rfl ?_
    refine AL.p (by exact g_pickT (r := .d _) rfl rfl) rfl ?_
    refine AL.nil ?_
    refine th_n ?_
    refine AC.condT rfl ?_
    refine AC.seq ?_
    refine AC.region ?_
    refine AL.p (by exact as1 rfl) rfl ?_
    refine AL.p (by exact as1 rfl) rfl ?_
    refine AL.nil ?_
    refine th_n ?_
    refine AC.ret ?_
    refine th_r ?_
    refine bq_r ?_
    have q0 : b1 = false ∨ (b1 = true ∧ b2 = false) := by exact .inl (by simpa using h0)
    have e : R = ([], false) := by rcases q0 with q | ⟨q, q'⟩ <;> rw [hR, q]; rfl; rw [q']; rfl
    exact ret2 rfl (by rw [e]; rfl) (by rw [e])
  · refine AL.yes rfl rfl rfl ?_
    refine AL.p (by exact mv1 rfl) rfl ?_
    refine AL.yes rfl rfl rfl ?_
    refine AL.p (by exact g_fa_ref rfl rfl rfl rfl rfl rfl) rfl ?_
    refine AL.yes rfl rfl rfl ?_
    refine AL.p (by exact g_load_ref rfl rfl rfl) rfl ?_
    refine AL.yes rfl rfl rfl ?_
    refine AL.p (by exact g_len_view (k := s.labs.length) rfl rfl (labsL_len _)) rfl ?_
    refine AL.yes rfl rfl rfl ?_
    refine AL.p (by exact g_arith rfl rfl rfl (by exact wrap_i64 (by omega))) rfl ?_
    refine AL.yes rfl rfl rfl ?_
    refine AL.q (by exact h_pure en_l1In rfl rfl (by repeat (first | exact rfl | exact DLead.same | refine ⟨_, _, rfl, ?_, ?_⟩)) hW rfl) rfl ?_
    refine AL.yes rfl rfl rfl ?_
    refine AL.p (by exact g_not rfl) rfl ?_
    refine AL.p (by exact g_pickF (r := .d _) rfl rfl) rfl ?_
    refine AL.nil ?_
    refine th_n ?_
    refine AC.condB rfl (fun h1 => ?_) (fun h1 => ?_)
    · refine AC.seq ?_
      refine AC.region ?_
      refine AL.p (by exact as1 rfl) rfl ?_
      refine AL.p (by exact as1 rfl) rfl ?_
      refine AL.nil ?_
      refine th_n ?_
      refine AC.ret ?_
      refine th_r ?_
      refine bq_r ?_
      have q0 : b1 = false ∨ (b1 = true ∧ b2 = false) := by exact .inr ⟨by simpa using h0, by simpa using h1⟩
      have e : R = ([], false) := by rcases q0 with q | ⟨q, q'⟩ <;> rw [hR, q]; rfl; rw [q']; rfl
      exact ret2 rfl (by rw [e]; rfl) (by rw [e])
    · refine AC.skip ?_
      refine th_n ?_
      refine AC.seq ?_
      have q0 : b1 = true := by simpa using h0
      have q1 : b2 = true := by simpa using h1
      obtain ⟨k, rfl, hkt, hk, hN⟩ := hb0 q0 q1
      refine AC.region ?_
      refine AL.p (by exact g_load_refN rfl rfl rfl rfl) rfl ?_
      refine AL.p (by exact mv1 rfl) rfl ?_
      refine AL.q (by exact h_pure en_l2Text rfl rfl (by repeat (first | exact rfl | exact DLead.same | refine ⟨_, _, rfl, ?_, ?_⟩ | refine ⟨_, rfl, ?_⟩)) hN rfl) rfl ?_
      refine AL.p (by exact as1 rfl) rfl ?_
      refine AL.p (by exact as1 rfl) rfl ?_
      refine AL.nil ?_
      refine th_n ?_
      refine AC.ret ?_
      refine bq_r ?_
      exact ret2 rfl (by rw [hR, q0, q1, ← hkt]; rfl) (by rw [hR, q0, q1]; rfl)
theorem en_sTransName : Enters Tryd.prog 7 := enters_of Tryd.func7 rfl rfl
set_option maxHeartbeats 4000000 in
theorem iTransBy_spec (s : Stg) (w : List UInt8) (h : StgL s) : ASpec Tryd.prog 10 [stgA s, aS (bstr w)] [] (Pure1 (.tup [aI (tbR s w).1, aT (tbR s w).2])) := by
  have hV := iIsValidSTG_spec s h
  have hll := h.l
  have hR : tbR s w = if goodS s = true then (if firstK (fun k => decide (nameT s k = w)) s.labs.length < s.labs.length then ((firstK (fun k => decide (nameT s k = w)) s.labs.length : Int), true) else (0, false)) else (0, false) := rfl
  have hN : goodS s = true → ∀ k, k < s.labs.length → ASpec Tryd.prog 24 [stgA s, aI k] [] (Pure1 (aS (bstr (nameT s k)))) := fun hg k hk => transName_spec s k hk (by have := goodS_few hg; omega) (goodS_at hg hk) (goodS_nm hg)
  obtain ⟨b1, hb1⟩ : ∃ b, b = goodS s := ⟨_, rfl⟩
  rw [← hb1] at hV hR hN
  obtain ⟨R, hRR⟩ : ∃ R, R = tbR s w := ⟨_, rfl⟩
  rw [← hRR] at hR ⊢
  clear hb1 hRR
  refine ASpec.of Tryd.func10 rfl rfl fun C hC => ?_
  refine AC.seq ?_
  refine AC.region ?_
  refine AL.q (by exact h_boxF rfl rfl) rfl ?_
  refine AL.p (by exact as1 rfl) rfl ?_
  refine AL.p (by exact as1 rfl) rfl ?_
  refine AL.nil ?_
  refine th_n ?_
  refine AC.seq ?_
  refine AC.seq ?_
  refine AC.region ?_
  refine AL.p (by exact g_load_refN rfl rfl rfl rfl) rfl ?_
  refine AL.q (by exact h_pure en_iIsValidSTG rfl rfl (by repeat (first | exact rfl | exact DLead.same | refine ⟨_, _, rfl, ?_, ?_⟩ | refine ⟨_, rfl, ?_⟩)) hV rfl) rfl ?_
  refine AL.p (by exact g_not rfl) rfl ?_
  refine AL.nil ?_
  refine th_n ?_
  refine AC.condB rfl (fun h0 => ?_) (fun h0 => ?_)
  · refine AC.seq ?_
    refine AC.region ?_
    refine AL.p (by exact as1 rfl) rfl ?_
    refine AL.p (by exact as1 rfl) rfl ?_
    refine AL.nil ?_
    refine th_n ?_
    refine AC.ret ?_
    refine th_r ?_
    refine bq_r ?_
    have q0 : b1 = false := by simpa using h0
    exact ret2 rfl (by rw [hR, q0]; rfl) (by rw [hR, q0]; rfl)
  · refine AC.skip ?_
    refine th_n ?_
    refine AC.seq ?_
    refine AC.seq ?_
    refine AC.region ?_
    refine AL.p (by exact g_fa_ref rfl rfl rfl rfl rfl rfl) rfl ?_
    refine AL.p (by exact g_load_ref rfl rfl rfl) rfl ?_
    refine AL.p (by exact g_len_view (k := s.labs.length) rfl rfl (labsL_len _)) rfl ?_
    refine AL.p (by exact mv1 rfl) rfl ?_
    refine AL.nil ?_
    refine th_n ?_
    refine AC.block ?_
    refine AC.loop (ι := Nat) (fun k => ⟨23, 200, [(1, aS (bstr w)), (2, .d (.ref (stgD s))), (12, aI s.labs.length), (13, aI k)], []⟩) (fun k => k ≤ s.labs.length ∧ ∀ j, j < k → decide (nameT s j = w) = false) (fun k => s.labs.length - k) (0) ?_ (⟨Nat.zero_le _, fun j hj => by omega⟩) ?_
    · refine Weak.ren _ [] hC rfl ?_ ?_ rfl rfl rfl <;> repeat (first | exact True.intro | refine And.intro ?_ ?_ | exact DLead.same)
    · intro k ⟨hk, hall⟩
      refine AC.seq ?_
      refine AC.region ?_
      refine AL.p (by exact g_cmp rfl rfl rfl) rfl ?_
      refine AL.nil ?_
      refine th_n ?_
      refine AC.seq ?_
      refine AC.condD rfl (fun h1 => ?_) (fun h1 => ?_)
      · refine AC.skip ?_
        refine th_n ?_
        refine AC.seq ?_
        refine AC.block ?_
        refine AC.seq ?_
        have hk1 : k < s.labs.length := by omega
        have q0 : b1 = true := by simpa using h0
        have hNk := hN q0 k hk1
        refine AC.region ?_
        refine AL.p (by exact mv1 rfl) rfl ?_
        refine AL.p (by exact as1 rfl) rfl ?_
        refine AL.nil ?_
        refine th_n ?_
        refine AC.seq ?_
        refine AC.region ?_
        refine AL.p (by exact g_load_refN rfl rfl rfl rfl) rfl ?_
        refine AL.p (by exact mv1 rfl) rfl ?_
        refine AL.q (by exact h_pure en_transName rfl rfl (by repeat (first | exact rfl | exact DLead.same | refine ⟨_, _, rfl, ?_, ?_⟩ | refine ⟨_, rfl, ?_⟩)) hNk rfl) rfl ?_
        refine AL.p (by exact mv1 rfl) rfl ?_
        refine AL.p (by exact g_scmp rfl rfl rfl) rfl ?_
        refine AL.nil ?_
        refine th_n ?_
        refine AC.condD rfl (fun h2 => ?_) (fun h2 => ?_)
        · refine AC.seq ?_
          refine AC.region ?_
          refine AL.p (by exact mv1 rfl) rfl ?_
          refine AL.p (by exact as1 rfl) rfl ?_
          refine AL.p (by exact as1 rfl) rfl ?_
          refine AL.nil ?_
          refine th_n ?_
          refine AC.ret ?_
          refine ib_r ?_
          refine th_r ?_
          refine th_r ?_
          refine ib_r ?_
          refine th_r ?_
          refine bq_r ?_
          have e := firstK_at (p := fun k => decide (nameT s k = w)) hk1 (decide_eq_true (bstr_inj h2)) hall
          exact ret2 rfl (by rw [hR, q0, e, if_pos rfl, if_pos hk1]) (by rw [hR, q0, e, if_pos rfl, if_pos hk1])
        · refine AC.skip ?_
          refine ib_n ?_
          refine th_n ?_
          refine AC.region ?_
          refine AL.p (by exact g_arith rfl rfl rfl (by exact wrap_i64 (by omega))) rfl ?_
          refine AL.p (by exact mv1 rfl) rfl ?_
          refine AL.nil ?_
          refine th_n ?_
          exact ⟨k + 1, ⟨by omega, fun j hj2 => by rcases Nat.lt_succ_iff_lt_or_eq.1 hj2 with h | rfl; exact hall j h; exact decide_eq_false (fun e => h2 (by rw [e]))⟩, by omega, Weak.ren _ [] hC rfl (by repeat (first | exact True.intro | refine And.intro ?_ ?_ | exact DLead.same)) (by repeat (exact True.intro)) rfl rfl rfl⟩
      · refine AC.exit ?_
        refine th_e ?_
        refine th_e ?_
        refine ib_y ?_
        refine th_n ?_
        refine AC.seq ?_
        refine AC.region ?_
        refine AL.p (by exact as1 rfl) rfl ?_
        refine AL.p (by exact as1 rfl) rfl ?_
        refine AL.nil ?_
        refine th_n ?_
        refine AC.ret ?_
        refine bq_r ?_
        have e := firstK_none (p := fun k => decide (nameT s k = w)) (n := s.labs.length) (fun j hj => hall j (by omega))
        have q0 : b1 = true := by simpa using h0
        exact ret2 rfl (by rw [hR, q0, e, if_pos rfl, if_neg (Nat.lt_irrefl _)]) (by rw [hR, q0, e, if_pos rfl, if_neg (Nat.lt_irrefl _)])
theorem en_iTransBy : Enters Tryd.prog 10 := enters_of Tryd.func10 rfl rfl
set_option maxHeartbeats 4000000 in
theorem sTransBy_spec (s : Stg) (w : List UInt8) (h : StgL s) : ASpec Tryd.prog 17 [stgA s, aS (bstr w)] [] (Pure1 (.tup [aI (tbR s w).1, aT (tbR s w).2])) := by
  have hV := l2Good_spec s h
  have hll := h.l
  have hR : tbR s w = if goodS s = true then (if firstK (fun k => decide (nameT s k = w)) s.labs.length < s.labs.length then ((firstK (fun k => decide (nameT s k = w)) s.labs.length : Int), true) else (0, false)) else (0, false) := rfl
  have hN : goodS s = true → ∀ k, k < s.labs.length → ASpec Tryd.prog 27 [stgA s, aI k] [] (Pure1 (aS (bstr (nameT s k)))) := fun hg k hk => l2Text_spec s k hk (by have := goodS_few hg; omega) (goodS_at hg hk) (goodS_nm hg)
  obtain ⟨b1, hb1⟩ : ∃ b, b = goodS s := ⟨_, rfl⟩
  rw [← hb1] at hV hR hN
  obtain ⟨R, hRR⟩ : ∃ R, R = tbR s w := ⟨_, rfl⟩
  rw [← hRR] at hR ⊢
  clear hb1 hRR
  refine ASpec.of Tryd.func17 rfl rfl fun C hC => ?_
  refine AC.seq ?_
  refine AC.region ?_
  refine AL.q (by exact h_boxF rfl rfl) rfl ?_
  refine AL.p (by exact as1 rfl) rfl ?_
  refine AL.p (by exact as1 rfl) rfl ?_
  refine AL.nil ?_
  refine th_n ?_
  refine AC.seq ?_
  refine AC.seq ?_
  refine AC.region ?_
  refine AL.p (by exact g_load_refN rfl rfl rfl rfl) rfl ?_
  refine AL.q (by exact h_pure en_l2Good rfl rfl (by repeat (first | exact rfl | exact DLead.same | refine ⟨_, _, rfl, ?_, ?_⟩ | refine ⟨_, rfl, ?_⟩)) hV rfl) rfl ?_
  refine AL.p (by exact g_not rfl) rfl ?_
  refine AL.nil ?_
  refine th_n ?_
  refine AC.condB rfl (fun h0 => ?_) (fun h0 => ?_)
  · refine AC.seq ?_
    refine AC.region ?_
    refine AL.p (by exact as1 rfl) rfl ?_
    refine AL.p (by exact as1 rfl) rfl ?_
    refine AL.nil ?_
    refine th_n ?_
    refine AC.ret ?_
    refine th_r ?_
    refine bq_r ?_
    have q0 : b1 = false := by simpa using h0
    exact ret2 rfl (by rw [hR, q0]; rfl) (by rw [hR, q0]; rfl)
  · refine AC.skip ?_
    refine th_n ?_
    refine AC.seq ?_
    refine AC.seq ?_
    refine AC.region ?_
    refine AL.p (by exact g_fa_ref rfl rfl rfl rfl rfl rfl) rfl ?_
    refine AL.p (by exact g_load_ref rfl rfl rfl) rfl ?_
    refine AL.p (by exact g_len_view (k := s.labs.length) rfl rfl (labsL_len _)) rfl ?_
    refine AL.p (by exact mv1 rfl) rfl ?_
    refine AL.nil ?_
    refine th_n ?_
    refine AC.block ?_
    refine AC.loop (ι := Nat) (fun k => ⟨23, 200, [(1, aS (bstr w)), (2, .d (.ref (stgD s))), (12, aI s.labs.length), (13, aI k)], []⟩) (fun k => k ≤ s.labs.length ∧ ∀ j, j < k → decide (nameT s j = w) = false) (fun k => s.labs.length - k) (0) ?_ (⟨Nat.zero_le _, fun j hj => by omega⟩) ?_
    · refine Weak.ren _ [] hC rfl ?_ ?_ rfl rfl rfl <;> repeat (first | exact True.intro | refine And.intro ?_ ?_ | exact DLead.same)
    · intro k ⟨hk, hall⟩
      refine AC.seq ?_
      refine AC.region ?_
      refine AL.p (by exact g_cmp rfl rfl rfl) rfl ?_
      refine AL.nil ?_
      refine th_n ?_
      refine AC.seq ?_
      refine AC.condD rfl (fun h1 => ?_) (fun h1 => ?_)
      · refine AC.skip ?_
        refine th_n ?_
        refine AC.seq ?_
        refine AC.block ?_
        refine AC.seq ?_
        have hk1 : k < s.labs.length := by omega
        have q0 : b1 = true := by simpa using h0
        have hNk := hN q0 k hk1
        refine AC.region ?_
        refine AL.p (by exact mv1 rfl) rfl ?_
        refine AL.p (by exact as1 rfl) rfl ?_
        refine AL.nil ?_
        refine th_n ?_
        refine AC.seq ?_
        refine AC.region ?_
        refine AL.p (by exact g_load_refN rfl rfl rfl rfl) rfl ?_
        refine AL.p (by exact mv1 rfl) rfl ?_
        refine AL.q (by exact h_pure en_l2Text rfl rfl (by repeat (first | exact rfl | exact DLead.same | refine ⟨_, _, rfl, ?_, ?_⟩ | refine ⟨_, rfl, ?_⟩)) hNk rfl) rfl ?_
        refine AL.p (by exact mv1 rfl) rfl ?_
        refine AL.p (by exact g_scmp rfl rfl rfl) rfl ?_
        refine AL.nil ?_
        refine th_n ?_
        refine AC.condD rfl (fun h2 => ?_) (fun h2 => ?_)
        · refine AC.seq ?_
          refine AC.region ?_
          refine AL.p (by exact mv1 rfl) rfl ?_
          refine AL.p (by exact as1 rfl) rfl ?_
          refine AL.p (by exact as1 rfl) rfl ?_
          refine AL.nil ?_
          refine th_n ?_
          refine AC.ret ?_
          refine ib_r ?_
          refine th_r ?_
          refine th_r ?_
          refine ib_r ?_
          refine th_r ?_
          refine bq_r ?_
          have e := firstK_at (p := fun k => decide (nameT s k = w)) hk1 (decide_eq_true (bstr_inj h2)) hall
          exact ret2 rfl (by rw [hR, q0, e, if_pos rfl, if_pos hk1]) (by rw [hR, q0, e, if_pos rfl, if_pos hk1])
        · refine AC.skip ?_
          refine ib_n ?_
          refine th_n ?_
          refine AC.region ?_
          refine AL.p (by exact g_arith rfl rfl rfl (by exact wrap_i64 (by omega))) rfl ?_
          refine AL.p (by exact mv1 rfl) rfl ?_
          refine AL.nil ?_
          refine th_n ?_
          exact ⟨k + 1, ⟨by omega, fun j hj2 => by rcases Nat.lt_succ_iff_lt_or_eq.1 hj2 with h | rfl; exact hall j h; exact decide_eq_false (fun e => h2 (by rw [e]))⟩, by omega, Weak.ren _ [] hC rfl (by repeat (first | exact True.intro | refine And.intro ?_ ?_ | exact DLead.same)) (by repeat (exact True.intro)) rfl rfl rfl⟩
      · refine AC.exit ?_
        refine th_e ?_
        refine th_e ?_
        refine ib_y ?_
        refine th_n ?_
        refine AC.seq ?_
        refine AC.region ?_
        refine AL.p (by exact as1 rfl) rfl ?_
        refine AL.p (by exact as1 rfl) rfl ?_
        refine AL.nil ?_
        refine th_n ?_
        refine AC.ret ?_
        refine bq_r ?_
        have e := firstK_none (p := fun k => decide (nameT s k = w)) (n := s.labs.length) (fun j hj => hall j (by omega))
        have q0 : b1 = true := by simpa using h0
        exact ret2 rfl (by rw [hR, q0, e, if_pos rfl, if_neg (Nat.lt_irrefl _)]) (by rw [hR, q0, e, if_pos rfl, if_neg (Nat.lt_irrefl _)])
theorem en_sTransBy : Enters Tryd.prog 17 := enters_of Tryd.func17 rfl rfl
set_option maxHeartbeats 4000000 in
theorem iTransOf_spec (s : Stg) (i : Int) (up : Bool) (h : StgL s) (hl : s.labs.length ≤ 100000) (hi : -1000000 ≤ i ∧ i ≤ 1000000) : ASpec Tryd.prog 11 [stgA s, aI i, aT up] [] (Pure1 (.tup [.d (vI (toR s i up).1), aT (toR s i up).2])) := by
  have hV := iIsValidSTG_spec s h
  have hW := within_spec i 0 ((s.sigs.length : Int) - 1)
  have hsl := h.sg
  have hL := labelled_spec s ⟨i, up⟩ hl
  have hR : toR s i up = if (goodS s && (decide (0 ≤ i) && decide (i ≤ (s.sigs.length : Int) - 1))) = true then (idxTo s.labs ⟨i, up⟩ s.labs.length, true) else ([], false) := rfl
  obtain ⟨b1, hb1⟩ : ∃ b, b = goodS s := ⟨_, rfl⟩
  obtain ⟨b2, hb2⟩ : ∃ b, b = (decide (0 ≤ i) && decide (i ≤ (s.sigs.length : Int) - 1)) := ⟨_, rfl⟩
  rw [← hb1] at hV hR
  rw [← hb2] at hW hR
  obtain ⟨R, hRR⟩ : ∃ R, R = toR s i up := ⟨_, rfl⟩
  rw [← hRR] at hR ⊢
  clear hb1 hb2 hRR
  refine ASpec.of Tryd.func11 rfl rfl fun C hC => ?_
  refine AC.seq ?_
  refine AC.region ?_
  refine AL.q (by exact h_boxF rfl rfl) rfl ?_
  refine AL.p (by exact as1 rfl) rfl ?_
  refine AL.p (by exact as1 rfl) rfl ?_
  refine AL.nil ?_
  refine th_n ?_
  refine AC.seq ?_
  refine AC.seq ?_
  refine AC.region ?_
  refine AL.p (by exact g_load_refN rfl rfl rfl rfl) rfl ?_
  refine AL.q (by exact h_pure en_iIsValidSTG rfl rfl (by repeat (first | exact rfl | exact DLead.same | refine ⟨_, _, rfl, ?_, ?_⟩ | refine ⟨_, rfl, ?_⟩)) hV rfl) rfl ?_
  refine AL.p (by exact g_not rfl) rfl ?_
  refine AL.p (by exact mv1 rfl) rfl ?_
  refine AL.caseGB rfl rfl (fun h0 => ?_) (fun h0 => ?_)
  · refine AL.not rfl rfl rfl rfl rfl ?_
    refine AL.not rfl rfl rfl rfl rfl ?_
    refine AL.not rfl rfl rfl rfl rfl ?_
    refine AL.not rfl rfl rfl rfl rfl ?_
    refine AL.not rfl rfl rfl rfl rfl ?_
    refine AL.not rfl rfl rfl rfl rfl ?_
    refine AL.not rfl rfl rfl rfl rfl ?_
    refine AL.p (by exact g_pickT (r := .d _) rfl rfl) rfl ?_
    refine AL.nil ?_
    refine th_n ?_
    refine AC.condT rfl ?_
    refine AC.seq ?_
    refine AC.region ?_
    refine AL.p (by exact as1 rfl) rfl ?_
    refine AL.p (by exact as1 rfl) rfl ?_
    refine AL.nil ?_
    refine th_n ?_
    refine AC.ret ?_
    refine th_r ?_
    refine bq_r ?_
    have q0 : b1 = false ∨ (b1 = true ∧ b2 = false) := by exact .inl (by simpa using h0)
    have e : R = ([], false) := by rcases q0 with q | ⟨q, q'⟩ <;> rw [hR, q]; rfl; rw [q']; rfl
    exact ret0 rfl (by rw [e]; repeat (first | exact rfl | exact DLead.same | exact DLead.nil | refine ⟨_, _, rfl, ?_, ?_⟩ | refine ⟨_, rfl, ?_⟩))
  · refine AL.yes rfl rfl rfl ?_
    refine AL.p (by exact mv1 rfl) rfl ?_
    refine AL.yes rfl rfl rfl ?_
    refine AL.p (by exact g_fa_ref rfl rfl rfl rfl rfl rfl) rfl ?_
    refine AL.yes rfl rfl rfl ?_
    refine AL.p (by exact g_load_ref rfl rfl rfl) rfl ?_
    refine AL.yes rfl rfl rfl ?_
    refine AL.p (by exact g_len_view (k := s.sigs.length) rfl rfl (sigsL_len _)) rfl ?_
    refine AL.yes rfl rfl rfl ?_
    refine AL.p (by exact g_arith rfl rfl rfl (by exact wrap_i64 (by omega))) rfl ?_
    refine AL.yes rfl rfl rfl ?_
    refine AL.q (by exact h_pure en_within rfl rfl (by repeat (first | exact rfl | exact DLead.same | refine ⟨_, _, rfl, ?_, ?_⟩)) hW rfl) rfl ?_
    refine AL.yes rfl rfl rfl ?_
    refine AL.p (by exact g_not rfl) rfl ?_
    refine AL.p (by exact g_pickF (r := .d _) rfl rfl) rfl ?_
    refine AL.nil ?_
    refine th_n ?_
    refine AC.condB rfl (fun h1 => ?_) (fun h1 => ?_)
    · refine AC.seq ?_
      refine AC.region ?_
      refine AL.p (by exact as1 rfl) rfl ?_
      refine AL.p (by exact as1 rfl) rfl ?_
      refine AL.nil ?_
      refine th_n ?_
      refine AC.ret ?_
      refine th_r ?_
      refine bq_r ?_
      have q0 : b1 = false ∨ (b1 = true ∧ b2 = false) := by exact .inr ⟨by simpa using h0, by simpa using h1⟩
      have e : R = ([], false) := by rcases q0 with q | ⟨q, q'⟩ <;> rw [hR, q]; rfl; rw [q']; rfl
      exact ret0 rfl (by rw [e]; repeat (first | exact rfl | exact DLead.same | exact DLead.nil | refine ⟨_, _, rfl, ?_, ?_⟩ | refine ⟨_, rfl, ?_⟩))
    · refine AC.skip ?_
      refine th_n ?_
      refine AC.seq ?_
      refine AC.region ?_
      refine AL.p (by exact g_load_refN rfl rfl rfl rfl) rfl ?_
      refine AL.p (by exact mv1 rfl) rfl ?_
      refine AL.p (by exact mv1 rfl) rfl ?_
      refine AL.p (by exact g_build rfl rfl rfl) rfl ?_
      refine AL.q (by exact h_pure en_labelled rfl rfl (by repeat (first | exact rfl | exact DLead.same | refine ⟨_, _, rfl, ?_, ?_⟩ | refine ⟨_, rfl, ?_⟩)) hL rfl) rfl ?_
      refine AL.p (by exact as1 rfl) rfl ?_
      refine AL.p (by exact as1 rfl) rfl ?_
      refine AL.nil ?_
      refine th_n ?_
      refine AC.ret ?_
      refine bq_r ?_
      have q0 : b1 = true := by simpa using h0
      have q1 : b2 = true := by simpa using h1
      exact ret0 rfl (by rw [hR, q0, q1]; repeat (first | exact rfl | exact DLead.same | refine ⟨_, _, rfl, ?_, ?_⟩ | refine ⟨_, rfl, ?_⟩))
theorem en_iTransOf : Enters Tryd.prog 11 := enters_of Tryd.func11 rfl rfl
set_option maxHeartbeats 4000000 in
theorem sTransOf_spec (s : Stg) (i : Int) (up : Bool) (h : StgL s) (hl : s.labs.length ≤ 100000) (hi : -1000000 ≤ i ∧ i ≤ 1000000) : ASpec Tryd.prog 19 [stgA s, aI i, aT up] [] (Pure1 (.tup [.d (vI (toR s i up).1), aT (toR s i up).2])) := by
  have hV := l2Good_spec s h
  have hW := l1In_spec i 0 ((s.sigs.length : Int) - 1)
  have hsl := h.sg
  have hR : toR s i up = if (goodS s && (decide (0 ≤ i) && decide (i ≤ (s.sigs.length : Int) - 1))) = true then (idxTo s.labs ⟨i, up⟩ s.labs.length, true) else ([], false) := rfl
  obtain ⟨b1, hb1⟩ : ∃ b, b = goodS s := ⟨_, rfl⟩
  obtain ⟨b2, hb2⟩ : ∃ b, b = (decide (0 ≤ i) && decide (i ≤ (s.sigs.length : Int) - 1)) := ⟨_, rfl⟩
  rw [← hb1] at hV hR
  rw [← hb2] at hW hR
  obtain ⟨R, hRR⟩ : ∃ R, R = toR s i up := ⟨_, rfl⟩
  rw [← hRR] at hR ⊢
  obtain ⟨x, hx⟩ : ∃ x : Lab, x = ⟨i, up⟩ := ⟨_, rfl⟩
  have hxi : i = x.sig := by rw [hx]
  have hxu : up = x.up := by rw [hx]
  rw [← hx] at hR
  clear hb1 hb2 hRR hx
  subst hxi hxu
  refine ASpec.of Tryd.func19 rfl rfl fun C hC => ?_
  refine AC.seq ?_
  refine AC.region ?_
  refine AL.q (by exact h_boxF rfl rfl) rfl ?_
  refine AL.p (by exact as1 rfl) rfl ?_
  refine AL.p (by exact as1 rfl) rfl ?_
  refine AL.nil ?_
  refine th_n ?_
  refine AC.seq ?_
  refine AC.seq ?_
  refine AC.region ?_
  refine AL.p (by exact g_load_refN rfl rfl rfl rfl) rfl ?_
  refine AL.q (by exact h_pure en_l2Good rfl rfl (by repeat (first | exact rfl | exact DLead.same | refine ⟨_, _, rfl, ?_, ?_⟩ | refine ⟨_, rfl, ?_⟩)) hV rfl) rfl ?_
  refine AL.p (by exact g_not rfl) rfl ?_
  refine AL.p (by exact mv1 rfl) rfl ?_
  refine AL.caseGB rfl rfl (fun h0 => ?_) (fun h0 => ?_)
  · refine AL.not rfl rfl rfl rfl rfl ?_
    refine AL.not rfl rfl rfl rfl rfl ?_
    refine AL.not rfl rfl rfl rfl rfl ?_
    refine AL.not rfl rfl rfl rfl rfl ?_
    refine AL.not rfl rfl rfl rfl rfl ?_
    refine AL.not rfl rfl rfl rfl rfl ?_
    refine AL.not rfl rfl rfl rfl rfl ?_
    refine AL.p (by exact g_pickT (r := .d _) rfl rfl) rfl ?_
    refine AL.nil ?_
    refine th_n ?_
    refine AC.condT rfl ?_
    refine AC.seq ?_
    refine AC.region ?_
    refine AL.p (by exact as1 rfl) rfl ?_
    refine AL.p (by exact as1 rfl) rfl ?_
    refine AL.nil ?_
    refine th_n ?_
    refine AC.ret ?_
    refine th_r ?_
    refine bq_r ?_
    have q0 : b1 = false ∨ (b1 = true ∧ b2 = false) := by exact .inl (by simpa using h0)
    have e : R = ([], false) := by rcases q0 with q | ⟨q, q'⟩ <;> rw [hR, q]; rfl; rw [q']; rfl
    exact ret0 rfl (by rw [e]; repeat (first | exact rfl | exact DLead.same | exact DLead.nil | refine ⟨_, _, rfl, ?_, ?_⟩ | refine ⟨_, rfl, ?_⟩))
  · refine AL.yes rfl rfl rfl ?_
    refine AL.p (by exact mv1 rfl) rfl ?_
    refine AL.yes rfl rfl rfl ?_
    refine AL.p (by exact g_fa_ref rfl rfl rfl rfl rfl rfl) rfl ?_
    refine AL.yes rfl rfl rfl ?_
    refine AL.p (by exact g_load_ref rfl rfl rfl) rfl ?_
    refine AL.yes rfl rfl rfl ?_
    refine AL.p (by exact g_len_view (k := s.sigs.length) rfl rfl (sigsL_len _)) rfl ?_
    refine AL.yes rfl rfl rfl ?_
    refine AL.p (by exact g_arith rfl rfl rfl (by exact wrap_i64 (by omega))) rfl ?_
    refine AL.yes rfl rfl rfl ?_
    refine AL.q (by exact h_pure en_l1In rfl rfl (by repeat (first | exact rfl | exact DLead.same | refine ⟨_, _, rfl, ?_, ?_⟩)) hW rfl) rfl ?_
    refine AL.yes rfl rfl rfl ?_
    refine AL.p (by exact g_not rfl) rfl ?_
    refine AL.p (by exact g_pickF (r := .d _) rfl rfl) rfl ?_
    refine AL.nil ?_
    refine th_n ?_
    refine AC.condB rfl (fun h1 => ?_) (fun h1 => ?_)
    · refine AC.seq ?_
      refine AC.region ?_
      refine AL.p (by exact as1 rfl) rfl ?_
      refine AL.p (by exact as1 rfl) rfl ?_
      refine AL.nil ?_
      refine th_n ?_
      refine AC.ret ?_
      refine th_r ?_
      refine bq_r ?_
      have q0 : b1 = false ∨ (b1 = true ∧ b2 = false) := by exact .inr ⟨by simpa using h0, by simpa using h1⟩
      have e : R = ([], false) := by rcases q0 with q | ⟨q, q'⟩ <;> rw [hR, q]; rfl; rw [q']; rfl
      exact ret0 rfl (by rw [e]; repeat (first | exact rfl | exact DLead.same | exact DLead.nil | refine ⟨_, _, rfl, ?_, ?_⟩ | refine ⟨_, rfl, ?_⟩))
    · refine AC.skip ?_
      refine th_n ?_
      refine AC.seq ?_
      refine AC.region ?_
      refine AL.p (by exact as1 rfl) rfl ?_
      refine AL.nil ?_
      refine th_n ?_
      refine AC.seq ?_
      refine AC.seq ?_
      refine AC.region ?_
      refine AL.p (by exact g_fa_ref rfl rfl rfl rfl rfl rfl) rfl ?_
      refine AL.p (by exact g_load_ref rfl rfl rfl) rfl ?_
      refine AL.p (by exact g_len_view (k := s.labs.length) rfl rfl (labsL_len _)) rfl ?_
      refine AL.p (by exact mv1 rfl) rfl ?_
      refine AL.nil ?_
      refine th_n ?_
      refine AC.block ?_
      refine AC.loop (ι := Nat) (fun k => ⟨47, 200, [(1, aI x.sig), (2, aT x.up), (8, .own 100 (idxTo s.labs x k).length), (24, .d (vLabs s.labs)), (25, aI s.labs.length), (26, aI k)], [(100, some (.arr 3 1 (ints (idxTo s.labs x k))))]⟩) (fun k => k ≤ s.labs.length) (fun k => s.labs.length - k) (0) ?_ (Nat.zero_le _) ?_
      · exact (Weak.nilOwn (i := 8) (e := 3) (sz := 1) rfl (by decide)).trans (Weak.ren _ [(100, _)] hC rfl (by repeat (first | exact True.intro | refine And.intro ?_ ?_ | exact DLead.same | exact rfl | refine ⟨_, rfl, ?_⟩)) (by repeat (first | exact True.intro | refine And.intro ?_ ?_ | exact rfl | refine ⟨_, _, rfl, rfl, ?_⟩)) rfl rfl rfl)
      · intro k hk
        refine AC.seq ?_
        refine AC.region ?_
        refine AL.p (by exact g_cmp rfl rfl rfl) rfl ?_
        refine AL.nil ?_
        refine th_n ?_
        refine AC.seq ?_
        refine AC.condD rfl (fun h2 => ?_) (fun h2 => ?_)
        · refine AC.skip ?_
          refine th_n ?_
          refine AC.seq ?_
          refine AC.block ?_
          refine AC.seq ?_
          have hk1 : k < s.labs.length := by omega
          have hget := labsLA_get hk1
          have hln := idxTo_len s.labs x k
          have hy : (lAt s.labs k).sig = x.sig → (lAt s.labs k).up = x.up → idxTo s.labs x (k + 1) = idxTo s.labs x k ++ [(k : Int)] := fun h h' => by rw [idxTo, if_pos (lab_iff.2 ⟨h, h'⟩)]
          have hn : ¬ ((lAt s.labs k).sig = x.sig ∧ (lAt s.labs k).up = x.up) → idxTo s.labs x (k + 1) = idxTo s.labs x k := fun h => by rw [idxTo, if_neg (fun e => h (lab_iff.1 e))]
          refine AC.region ?_
          refine AL.p (by exact mv1 rfl) rfl ?_
          refine AL.p (by exact g_ia_view rfl rfl rfl rfl rfl (by rfl) (by assumption)) rfl ?_
          refine AL.p (by exact g_load_refN rfl rfl rfl rfl) rfl ?_
          refine AL.q (by exact h_alloc rfl) rfl ?_
          refine AL.p (by exact as1 rfl) rfl ?_
          refine AL.q (by exact h_store rfl rfl rfl rfl rfl rfl) rfl ?_
          refine AL.nil ?_
          refine th_n ?_
          refine AC.seq ?_
          refine AC.region ?_
          refine AL.p (by exact g_fa_ptr rfl rfl rfl rfl rfl) rfl ?_
          refine AL.p (by exact g_load_ptr rfl rfl rfl rfl rfl) rfl ?_
          refine AL.p (by exact mv1 rfl) rfl ?_
          refine AL.p (by exact g_cmp rfl rfl rfl) rfl ?_
          refine AL.p (by exact mv1 rfl) rfl ?_
          refine AL.caseG rfl rfl (fun h3 => ?_) (fun h3 => ?_)
          · refine AL.yes rfl rfl rfl ?_
            refine AL.p (by exact g_fa_ptr rfl rfl rfl rfl rfl) rfl ?_
            refine AL.yes rfl rfl rfl ?_
            refine AL.p (by exact g_load_ptr rfl rfl rfl rfl rfl) rfl ?_
            refine AL.yes rfl rfl rfl ?_
            refine AL.p (by exact mv1 rfl) rfl ?_
            refine AL.yes rfl rfl rfl ?_
            refine AL.p (by exact g_eqB rfl rfl rfl) rfl ?_
            refine AL.p (by exact g_pickT (r := .d _) rfl rfl) rfl ?_
            refine AL.nil ?_
            refine th_n ?_
            refine AC.condD rfl (fun h4 => ?_) (fun h4 => ?_)
            · refine AC.region ?_
              refine AL.p (by exact mv2 rfl) rfl ?_
              refine AL.p (by exact mv1 rfl) rfl ?_
              refine AL.q (by exact h_litF rfl rfl rfl rfl rfl rfl rfl rfl) rfl ?_
              refine AL.q (by exact h_appendI (idxTo s.labs x k) [(k : Int)] (.own rfl rfl (ints_len _).symm) (.view rfl) (by rw [List.length_append]; simp only [List.length_cons, List.length_nil]; omega) (by simp)) rfl ?_
              refine AL.p (by exact as2 rfl) rfl ?_
              refine AL.nil ?_
              refine ib_n ?_
              refine th_n ?_
              refine AC.region ?_
              refine AL.p (by exact g_arith rfl rfl rfl (by exact wrap_i64 (by omega))) rfl ?_
              refine AL.p (by exact mv1 rfl) rfl ?_
              refine AL.nil ?_
              refine th_n ?_
              have e := hy h3 h4
              exact ⟨k + 1, by omega, by omega, Weak.ren _ [(100, _)] hC rfl (by rw [e]; repeat (first | exact True.intro | refine And.intro ?_ ?_ | exact DLead.same | exact rfl | refine ⟨_, rfl, ?_⟩)) (by rw [e]; repeat (first | exact True.intro | refine And.intro ?_ ?_ | exact rfl | refine ⟨_, _, rfl, rfl, ?_⟩)) rfl rfl rfl⟩
            · refine AC.skip ?_
              refine ib_n ?_
              refine th_n ?_
              refine AC.region ?_
              refine AL.p (by exact g_arith rfl rfl rfl (by exact wrap_i64 (by omega))) rfl ?_
              refine AL.p (by exact mv1 rfl) rfl ?_
              refine AL.nil ?_
              refine th_n ?_
              have e := hn (fun q => h4 q.2)
              exact ⟨k + 1, by omega, by omega, Weak.ren _ [(100, _)] hC rfl (by rw [e]; repeat (first | exact True.intro | refine And.intro ?_ ?_ | exact DLead.same | exact rfl | refine ⟨_, rfl, ?_⟩)) (by rw [e]; repeat (first | exact True.intro | refine And.intro ?_ ?_ | exact rfl | refine ⟨_, _, rfl, rfl, ?_⟩)) rfl rfl rfl⟩
          · refine AL.not rfl rfl rfl rfl rfl ?_
            refine AL.not rfl rfl rfl rfl rfl ?_
            refine AL.not rfl rfl rfl rfl rfl ?_
            refine AL.not rfl rfl rfl rfl rfl ?_
            refine AL.p (by exact g_pickF (r := .d _) rfl rfl) rfl ?_
            refine AL.nil ?_
            refine th_n ?_
            refine AC.condF rfl ?_
            refine AC.skip ?_
            refine ib_n ?_
            refine th_n ?_
            refine AC.region ?_
            refine AL.p (by exact g_arith rfl rfl rfl (by exact wrap_i64 (by omega))) rfl ?_
            refine AL.p (by exact mv1 rfl) rfl ?_
            refine AL.nil ?_
            refine th_n ?_
            have e := hn (fun q => h3 q.1)
            exact ⟨k + 1, by omega, by omega, Weak.ren _ [(100, _)] hC rfl (by rw [e]; repeat (first | exact True.intro | refine And.intro ?_ ?_ | exact DLead.same | exact rfl | refine ⟨_, rfl, ?_⟩)) (by rw [e]; repeat (first | exact True.intro | refine And.intro ?_ ?_ | exact rfl | refine ⟨_, _, rfl, rfl, ?_⟩)) rfl rfl rfl⟩
        · refine AC.exit ?_
          refine th_e ?_
          refine th_e ?_
          refine ib_y ?_
          refine th_n ?_
          refine AC.seq ?_
          have hkk : k = s.labs.length := by omega
          subst hkk
          refine AC.region ?_
          refine AL.p (by exact mv2 rfl) rfl ?_
          refine AL.weak (Weak.freeze (i := 46) rfl rfl (ownl _ _) (ownt _ _)) ?_
          refine AL.p (by exact as1 rfl) rfl ?_
          refine AL.p (by exact as1 rfl) rfl ?_
          refine AL.nil ?_
          refine th_n ?_
          refine AC.ret ?_
          refine bq_r ?_
          have q0 : b1 = true := by simpa using h0
          have q1 : b2 = true := by simpa using h1
          exact ret0 rfl (by rw [hR, q0, q1]; repeat (first | exact rfl | exact DLead.same | refine ⟨_, _, rfl, ?_, ?_⟩ | refine ⟨_, rfl, ?_⟩))
theorem en_sTransOf : Enters Tryd.prog 19 := enters_of Tryd.func19 rfl rfl
theorem signalOf1_spec (x : Sig) (nm : List UInt8) : ASpec Tryd.prog 58 [sigA x, .d (.ref [dS (bstr nm)])] [] (Pure1 (aT (decide (x.name = nm)))) := by
  refine ASpec.of Tryd.func58 rfl rfl fun C hC => ?_
  refine AC.seq ?_
  refine AC.region ?_
  refine AL.q (by exact h_boxF rfl rfl) rfl ?_
  refine AL.p (by exact as1 rfl) rfl ?_
  refine AL.nil ?_
  refine th_n ?_
  refine AC.seq ?_
  refine AC.region ?_
  refine AL.p (by exact g_fa_ref rfl rfl rfl rfl rfl rfl) rfl ?_
  refine AL.p (by exact g_load_ref rfl rfl rfl) rfl ?_
  refine AL.p (by exact g_load_ref rfl rfl rfl) rfl ?_
  refine AL.p (by exact g_scmp rfl rfl rfl) rfl ?_
  refine AL.p (by exact as1 rfl) rfl ?_
  refine AL.nil ?_
  refine th_n ?_
  refine AC.ret ?_
  refine bq_r ?_
  exact ret1 rfl (by simp only [bstr_iff])
theorem en_signalOf1 : Enters Tryd.prog 58 := enters_of Tryd.func58 rfl rfl
theorem signalOf_spec (s : Stg) (nm : List UInt8) (hl : s.sigs.length ≤ 2000000) : ASpec Tryd.prog 35 [.d (vSigs s.sigs), aS (bstr nm)] [] (Pure1 (aI (siI s nm))) := by
  have hX := indexSig_spec s.sigs hl 58 [.ref [dS (bstr nm)]] en_signalOf1 (fun x => decide (x.name = nm)) (fun t _ => signalOf1_spec t nm)
  refine ASpec.of Tryd.func35 rfl rfl fun C hC => ?_
  refine AC.seq ?_
  refine AC.region ?_
  refine AL.q (by exact h_boxF rfl rfl) rfl ?_
  refine AL.p (by exact as1 rfl) rfl ?_
  refine AL.nil ?_
  refine th_n ?_
  refine AC.seq ?_
  refine AC.region ?_
  refine AL.p (by exact mv1 rfl) rfl ?_
  refine AL.p (by exact g_fn rfl) rfl ?_
  refine AL.q (by exact h_pure en_indexSig rfl rfl (by exact ⟨_, _, rfl, .same, _, _, rfl, ⟨_, rfl, leadsL_data _ _⟩, rfl⟩) hX rfl) rfl ?_
  refine AL.p (by exact as1 rfl) rfl ?_
  refine AL.nil ?_
  refine th_n ?_
  refine AC.ret ?_
  refine bq_r ?_
  exact ret1 rfl rfl
theorem en_signalOf : Enters Tryd.prog 35 := enters_of Tryd.func35 rfl rfl
set_option maxHeartbeats 2000000 in
theorem iSigIndex_spec (s : Stg) (nm : List UInt8) (h : StgL s) : ASpec Tryd.prog 14 [stgA s, aS (bstr nm)] [] (Pure1 (.tup [aI (siR s nm).1, aT (siR s nm).2])) := by
  have hV := iIsValidSTG_spec s h
  have hS := signalOf_spec s nm (by have := h.sg; omega)
  have hR : siR s nm = if (goodS s && !decide (siI s nm < 0)) = true then (siI s nm, true) else (0, false) := rfl
  obtain ⟨b1, hb1⟩ : ∃ b, b = goodS s := ⟨_, rfl⟩
  rw [← hb1] at hV hR
  obtain ⟨i, hi⟩ : ∃ i, i = siI s nm := ⟨_, rfl⟩
  rw [← hi] at hS hR
  obtain ⟨R, hRR⟩ : ∃ R, R = siR s nm := ⟨_, rfl⟩
  rw [← hRR] at hR ⊢
  clear hb1 hRR hi
  refine ASpec.of Tryd.func14 rfl rfl fun C hC => ?_
  refine AC.seq ?_
  refine AC.region ?_
  refine AL.q (by exact h_boxF rfl rfl) rfl ?_
  refine AL.p (by exact as1 rfl) rfl ?_
  refine AL.p (by exact as1 rfl) rfl ?_
  refine AL.nil ?_
  refine th_n ?_
  refine AC.seq ?_
  refine AC.region ?_
  refine AL.p (by exact g_fa_ref rfl rfl rfl rfl rfl rfl) rfl ?_
  refine AL.p (by exact g_load_ref rfl rfl rfl) rfl ?_
  refine AL.p (by exact mv1 rfl) rfl ?_
  refine AL.q (by exact h_pure en_signalOf rfl rfl (by repeat (first | exact rfl | exact DLead.same | refine ⟨_, _, rfl, ?_, ?_⟩)) hS rfl) rfl ?_
  refine AL.p (by exact as1 rfl) rfl ?_
  refine AL.nil ?_
  refine th_n ?_
  refine AC.seq ?_
  refine AC.seq ?_
  refine AC.region ?_
  refine AL.p (by exact g_load_refN rfl rfl rfl rfl) rfl ?_
  refine AL.q (by exact h_pure en_iIsValidSTG rfl rfl (by repeat (first | exact rfl | exact DLead.same | refine ⟨_, _, rfl, ?_, ?_⟩ | refine ⟨_, rfl, ?_⟩)) hV rfl) rfl ?_
  refine AL.p (by exact g_not rfl) rfl ?_
  refine AL.p (by exact mv1 rfl) rfl ?_
  refine AL.caseGB rfl rfl (fun h0 => ?_) (fun h0 => ?_)
  · refine AL.not rfl rfl rfl rfl rfl ?_
    refine AL.not rfl rfl rfl rfl rfl ?_
    refine AL.p (by exact g_pickT (r := .d _) rfl rfl) rfl ?_
    refine AL.nil ?_
    refine th_n ?_
    refine AC.condT rfl ?_
    refine AC.seq ?_
    refine AC.region ?_
    refine AL.p (by exact as1 rfl) rfl ?_
    refine AL.p (by exact as1 rfl) rfl ?_
    refine AL.nil ?_
    refine th_n ?_
    refine AC.ret ?_
    refine th_r ?_
    refine bq_r ?_
    have q0 : b1 = false ∨ (b1 = true ∧ decide (i < 0) = true) := by exact .inl (by simpa using h0)
    have e : R = (0, false) := by rcases q0 with q | ⟨q, q'⟩ <;> rw [hR, q]; rfl; rw [q']; rfl
    exact ret2 rfl (by rw [e]) (by rw [e])
  · refine AL.yes rfl rfl rfl ?_
    refine AL.p (by exact mv1 rfl) rfl ?_
    refine AL.yes rfl rfl rfl ?_
    refine AL.p (by exact g_cmp rfl rfl rfl) rfl ?_
    refine AL.p (by exact g_pickF (r := .d _) rfl rfl) rfl ?_
    refine AL.nil ?_
    refine th_n ?_
    refine AC.condD rfl (fun h1 => ?_) (fun h1 => ?_)
    · refine AC.seq ?_
      refine AC.region ?_
      refine AL.p (by exact as1 rfl) rfl ?_
      refine AL.p (by exact as1 rfl) rfl ?_
      refine AL.nil ?_
      refine th_n ?_
      refine AC.ret ?_
      refine th_r ?_
      refine bq_r ?_
      have q0 : b1 = false ∨ (b1 = true ∧ decide (i < 0) = true) := by exact .inr ⟨by simpa using h0, by simpa using h1⟩
      have e : R = (0, false) := by rcases q0 with q | ⟨q, q'⟩ <;> rw [hR, q]; rfl; rw [q']; rfl
      exact ret2 rfl (by rw [e]) (by rw [e])
    · refine AC.skip ?_
      refine th_n ?_
      refine AC.seq ?_
      refine AC.region ?_
      refine AL.p (by exact mv1 rfl) rfl ?_
      refine AL.p (by exact as1 rfl) rfl ?_
      refine AL.p (by exact as1 rfl) rfl ?_
      refine AL.nil ?_
      refine th_n ?_
      refine AC.ret ?_
      refine bq_r ?_
      have q0 : b1 = true := by simpa using h0
      have q1 : decide (i < 0) = false := by simpa using h1
      exact ret2 rfl (by rw [hR, q0, q1]; rfl) (by rw [hR, q0, q1]; rfl)
theorem en_iSigIndex : Enters Tryd.prog 14 := enters_of Tryd.func14 rfl rfl
set_option maxHeartbeats 2000000 in
theorem sSigIndex_spec (s : Stg) (nm : List UInt8) (h : StgL s) : ASpec Tryd.prog 15 [stgA s, aS (bstr nm)] [] (Pure1 (.tup [aI (siR s nm).1, aT (siR s nm).2])) := by
  have hV := l2Good_spec s h
  have hS := l2Signal_spec s.sigs (by have := h.sg; omega) nm
  rw [show findI (fun x => decide (x.name = nm)) s.sigs = siI s nm from rfl] at hS
  have hR : siR s nm = if (goodS s && !decide (siI s nm < 0)) = true then (siI s nm, true) else (0, false) := rfl
  obtain ⟨b1, hb1⟩ : ∃ b, b = goodS s := ⟨_, rfl⟩
  rw [← hb1] at hV hR
  obtain ⟨i, hi⟩ : ∃ i, i = siI s nm := ⟨_, rfl⟩
  rw [← hi] at hS hR
  obtain ⟨R, hRR⟩ : ∃ R, R = siR s nm := ⟨_, rfl⟩
  rw [← hRR] at hR ⊢
  clear hb1 hRR hi
  refine ASpec.of Tryd.func15 rfl rfl fun C hC => ?_
  refine AC.seq ?_
  refine AC.region ?_
  refine AL.q (by exact h_boxF rfl rfl) rfl ?_
  refine AL.p (by exact as1 rfl) rfl ?_
  refine AL.p (by exact as1 rfl) rfl ?_
  refine AL.nil ?_
  refine th_n ?_
  refine AC.seq ?_
  refine AC.seq ?_
  refine AC.region ?_
  refine AL.p (by exact g_load_refN rfl rfl rfl rfl) rfl ?_
  refine AL.q (by exact h_pure en_l2Good rfl rfl (by repeat (first | exact rfl | exact DLead.same | refine ⟨_, _, rfl, ?_, ?_⟩ | refine ⟨_, rfl, ?_⟩)) hV rfl) rfl ?_
  refine AL.p (by exact g_not rfl) rfl ?_
  refine AL.p (by exact mv1 rfl) rfl ?_
  refine AL.caseGB rfl rfl (fun h0 => ?_) (fun h0 => ?_)
  · refine AL.not rfl rfl rfl rfl rfl ?_
    refine AL.not rfl rfl rfl rfl rfl ?_
    refine AL.not rfl rfl rfl rfl rfl ?_
    refine AL.not rfl rfl rfl rfl rfl ?_
    refine AL.not rfl rfl rfl rfl rfl ?_
    refine AL.p (by exact g_pickT (r := .d _) rfl rfl) rfl ?_
    refine AL.nil ?_
    refine th_n ?_
    refine AC.condT rfl ?_
    refine AC.seq ?_
    refine AC.region ?_
    refine AL.p (by exact as1 rfl) rfl ?_
    refine AL.p (by exact as1 rfl) rfl ?_
    refine AL.nil ?_
    refine th_n ?_
    refine AC.ret ?_
    refine th_r ?_
    refine bq_r ?_
    have q0 : b1 = false ∨ (b1 = true ∧ decide (i < 0) = true) := by exact .inl (by simpa using h0)
    have e : R = (0, false) := by rcases q0 with q | ⟨q, q'⟩ <;> rw [hR, q]; rfl; rw [q']; rfl
    exact ret2 rfl (by rw [e]) (by rw [e])
  · refine AL.yes rfl rfl rfl ?_
    refine AL.p (by exact g_fa_ref rfl rfl rfl rfl rfl rfl) rfl ?_
    refine AL.yes rfl rfl rfl ?_
    refine AL.p (by exact g_load_ref rfl rfl rfl) rfl ?_
    refine AL.yes rfl rfl rfl ?_
    refine AL.p (by exact mv1 rfl) rfl ?_
    refine AL.yes rfl rfl rfl ?_
    refine AL.q (by exact h_pure en_l2Signal rfl rfl (by repeat (first | exact rfl | exact DLead.same | refine ⟨_, _, rfl, ?_, ?_⟩)) hS rfl) rfl ?_
    refine AL.yes rfl rfl rfl ?_
    refine AL.p (by exact g_cmp rfl rfl rfl) rfl ?_
    refine AL.p (by exact g_pickF (r := .d _) rfl rfl) rfl ?_
    refine AL.nil ?_
    refine th_n ?_
    refine AC.condD rfl (fun h1 => ?_) (fun h1 => ?_)
    · refine AC.seq ?_
      refine AC.region ?_
      refine AL.p (by exact as1 rfl) rfl ?_
      refine AL.p (by exact as1 rfl) rfl ?_
      refine AL.nil ?_
      refine th_n ?_
      refine AC.ret ?_
      refine th_r ?_
      refine bq_r ?_
      have q0 : b1 = false ∨ (b1 = true ∧ decide (i < 0) = true) := by exact .inr ⟨by simpa using h0, by simpa using h1⟩
      have e : R = (0, false) := by rcases q0 with q | ⟨q, q'⟩ <;> rw [hR, q]; rfl; rw [q']; rfl
      exact ret2 rfl (by rw [e]) (by rw [e])
    · refine AC.skip ?_
      refine th_n ?_
      refine AC.seq ?_
      refine AC.region ?_
      refine AL.p (by exact g_fa_ref rfl rfl rfl rfl rfl rfl) rfl ?_
      refine AL.p (by exact g_load_ref rfl rfl rfl) rfl ?_
      refine AL.p (by exact mv1 rfl) rfl ?_
      refine AL.q (by exact h_pure en_l2Signal rfl rfl (by repeat (first | exact rfl | exact DLead.same | refine ⟨_, _, rfl, ?_, ?_⟩)) hS rfl) rfl ?_
      refine AL.p (by exact as1 rfl) rfl ?_
      refine AL.p (by exact as1 rfl) rfl ?_
      refine AL.nil ?_
      refine th_n ?_
      refine AC.ret ?_
      refine bq_r ?_
      have q0 : b1 = true := by simpa using h0
      have q1 : decide (i < 0) = false := by simpa using h1
      exact ret2 rfl (by rw [hR, q0, q1]; rfl) (by rw [hR, q0, q1]; rfl)
theorem en_sSigIndex : Enters Tryd.prog 15 := enters_of Tryd.func15 rfl rfl
end Go.Proofs.YtnklhbfdfddigaaDoor

set_option linter.all false
set_option maxRecDepth 20000
namespace Go.Proofs.YtnklhbfdfddigaaDoor
open Go.RowKit

theorem cut_at {α : Type} (p : α → Bool) : ∀ {l1 l2 r1 r2 : List α} {c1 c2 : α}, (∀ x, x ∈ l1 → p x = false) → (∀ x, x ∈ l2 → p x = false) → p c1 = true → p c2 = true → l1 ++ c1 :: r1 = l2 ++ c2 :: r2 → l1 = l2 ∧ c1 = c2 ∧ r1 = r2
  | [], [], r1, r2, c1, c2, _, _, _, _, h => by simpa using h
  | [], y :: l2, r1, r2, c1, c2, _, h2, h3, _, h => by
    simp only [List.nil_append, List.cons_append, List.cons.injEq] at h
    have := h2 y (List.mem_cons_self ..)
    rw [← h.1, h3] at this
    cases this
  | x :: l1, [], r1, r2, c1, c2, h1, _, _, h4, h => by
    simp only [List.nil_append, List.cons_append, List.cons.injEq] at h
    have := h1 x (List.mem_cons_self ..)
    rw [h.1, h4] at this
    cases this
  | x :: l1, y :: l2, r1, r2, c1, c2, h1, h2, h3, h4, h => by
    simp only [List.cons_append, List.cons.injEq] at h
    have ih := cut_at p (fun z hz => h1 z (List.mem_cons_of_mem _ hz)) (fun z hz => h2 z (List.mem_cons_of_mem _ hz)) h3 h4 h.2
    exact ⟨by rw [h.1, ih.1], ih.2⟩
def isPm (b : UInt8) : Bool := decide (b = 43) || decide (b = 45)
theorem name_chars {m : List UInt8} (h : nameB m = true) : ∀ b, b ∈ m → isPm b = false ∧ b ≠ 126 := by
  intro b hb
  unfold nameB at h
  rw [Bool.and_eq_true] at h
  obtain ⟨k, hk, rfl⟩ := List.getElem_of_mem hb
  have hc := allK_iff.1 h.1 k hk
  rw [List.getD_eq_getElem?_getD, List.getElem?_eq_getElem hk] at hc
  have hc := nameC_iff.1 hc
  simp only [Option.getD_some] at hc
  have h1 : m[k] ≠ 43 := by intro e; rw [e] at hc; simp at hc
  have h2 : m[k] ≠ 45 := by intro e; rw [e] at hc; simp at hc
  have h3 : m[k] ≠ 126 := by intro e; rw [e] at hc; simp at hc
  exact ⟨by unfold isPm; rw [decide_eq_false h1, decide_eq_false h2]; rfl, h3⟩
def valD (l : List UInt8) : Nat := l.foldl (fun a b => 10 * a + (b.toNat - 48)) 0
theorem valD_dec (n : Nat) : valD (Lib.decDigits n) = n := by
  induction n using Nat.strongRecOn with
  | _ n ih =>
    rw [Lib.decDigits]
    split
    · rename_i h
      show 10 * 0 + ((UInt8.ofNat (48 + n)).toNat - 48) = n
      rw [UInt8.toNat_ofNat']; omega
    · rename_i h
      have := ih (n / 10) (by omega)
      unfold valD at this ⊢
      rw [List.foldl_append, this]
      show 10 * (n / 10) + ((UInt8.ofNat (48 + n % 10)).toNat - 48) = n
      rw [UInt8.toNat_ofNat']; omega
theorem dec_inj {a b : Nat} (h : Lib.decDigits a = Lib.decDigits b) : a = b := by rw [← valD_dec a, ← valD_dec b, h]
theorem sigs_apart {l : List Sig} (h : sigsB l = true) {i j : Nat} (hi : i < l.length) (hj : j < l.length) (e : l[i].name = l[j].name) : i = j := by
  unfold sigsB at h
  rw [Bool.and_eq_true] at h
  have key : ∀ {i j : Nat} (hi : i < l.length) (hj : j < l.length), i < j → l[i].name ≠ l[j].name := by
    intro i j hi hj hij e
    have := allK_iff.1 h.1 j hj
    unfold sigK at this
    rw [sAt_nat hj] at this
    simp only [Bool.and_eq_true, Bool.not_eq_true', List.any_eq_false, decide_eq_true_eq] at this
    exact this.2.2 l[i] (List.mem_take_iff_getElem.2 ⟨i, by omega, rfl⟩) e
  rcases Nat.lt_trichotomy i j with h1 | h1 | h1
  · exact absurd e (key hi hj h1)
  · exact h1
  · exact absurd e.symm (key hj hi h1)
theorem goodS_sb {s : Stg} (h : goodS s = true) : sigsB s.sigs = true := by
  simp only [goodS, Bool.and_eq_true] at h
  exact h.2.1
/-- Labels that are told apart by their texts, whatever stands behind. -/
theorem labT_inj {s : Stg} (h : goodS s = true) {x y : Lab} (hx : x ∈ s.labs) (hy : y ∈ s.labs) {r1 r2 : List UInt8} (e : labT s.sigs x ++ r1 = labT s.sigs y ++ r2) : x = y ∧ r1 = r2 := by
  have hsb := goodS_sb h
  have hnm := (goodS_sigs h).2.1
  have first : ∀ {z : Lab} {r : List UInt8}, z ∈ s.labs → ¬ z.sig < 0 → ∃ b t, labT s.sigs z ++ r = b :: t ∧ b ≠ 126 := by
    intro z r hz hn
    have hz1 := goodS_labs h z hz
    have hk : z.sig.toNat < s.sigs.length := by omega
    have hn1 := hnm _ (List.getElem_mem hk)
    have hl := nameB_len hn1
    unfold labT
    rw [if_neg hn, sAt_nat hk]
    cases e : s.sigs[z.sig.toNat].name with
    | nil => rw [e] at hl; simp at hl
    | cons b t => exact ⟨b, _, rfl, (name_chars hn1 b (by rw [e]; exact List.mem_cons_self ..)).2⟩
  by_cases h1 : x.sig < 0
  · by_cases h2 : y.sig < 0
    · have a1 := goodS_labs h x hx
      have a2 := goodS_labs h y hy
      have a1 := a1.resolve_left (by omega)
      have a2 := a2.resolve_left (by omega)
      refine ⟨lab_iff.2 ⟨by omega, by rw [a1.2, a2.2]⟩, ?_⟩
      unfold labT at e
      rw [if_pos h1, if_pos h2] at e
      simpa using e
    · obtain ⟨b, t, e2, hb⟩ := first (r := r2) hy h2
      rw [e2] at e
      unfold labT at e
      rw [if_pos h1] at e
      simp only [List.cons_append, List.nil_append, List.cons.injEq] at e
      exact absurd e.1.symm hb
  · by_cases h2 : y.sig < 0
    · obtain ⟨b, t, e2, hb⟩ := first (r := r1) hx h1
      rw [e2] at e
      unfold labT at e
      rw [if_pos h2] at e
      simp only [List.cons_append, List.nil_append, List.cons.injEq] at e
      exact absurd e.1 hb
    · have a1 := goodS_labs h x hx
      have a2 := goodS_labs h y hy
      have k1 : x.sig.toNat < s.sigs.length := by omega
      have k2 : y.sig.toNat < s.sigs.length := by omega
      unfold labT at e
      rw [if_neg h1, if_neg h2, sAt_nat k1, sAt_nat k2, List.append_assoc, List.append_assoc] at e
      have pm : ∀ b : Bool, isPm (bif b then 43 else 45) = true := by intro b; cases b <;> decide
      obtain ⟨e1, e2, e3⟩ := cut_at isPm (fun z hz => (name_chars (hnm _ (List.getElem_mem k1)) z hz).1) (fun z hz => (name_chars (hnm _ (List.getElem_mem k2)) z hz).1) (pm x.up) (pm y.up) e
      have e4 := sigs_apart hsb k1 k2 e1
      have e5 : x.up = y.up := by
        revert e2
        cases x.up <;> cases y.up <;> simp
      exact ⟨lab_iff.2 ⟨by omega, e5⟩, e3⟩
theorem names_inj {s : Stg} (h : goodS s = true) {i j : Nat} (hi : i < s.labs.length) (hj : j < s.labs.length) (e : nameT s i = nameT s j) : i = j := by
  have key : ∀ {i j : Nat}, i < s.labs.length → j < s.labs.length → i < j → nameT s i ≠ nameT s j := by
    intro i j hi hj hij e
    unfold nameT at e
    obtain ⟨e1, e2⟩ := labT_inj h (by rw [lAt_nat hi]; exact List.getElem_mem hi) (by rw [lAt_nat hj]; exact List.getElem_mem hj) e
    rw [e1] at e2
    obtain ⟨r, er⟩ := idxTo_split e1 hij
    have hlen : (idxTo s.labs (lAt s.labs j) i).length < (idxTo s.labs (lAt s.labs j) j).length := by rw [er, List.length_append, List.length_cons]; omega
    obtain ⟨r', er'⟩ := idxTo_split (l := s.labs) (x := lAt s.labs j) rfl hj
    have hmany : 1 < ((idxTo s.labs (lAt s.labs j) s.labs.length).length : Int) := by rw [er', List.length_append, List.length_cons]; omega
    rw [if_pos hmany, if_pos hmany] at e2
    have := dec_inj (List.append_cancel_left e2)
    omega
  rcases Nat.lt_trichotomy i j with h1 | h1 | h1
  · exact absurd e (key hi hj h1)
  · exact h1
  · exact absurd e.symm (key hj hi h1)
theorem tnR_yes {s : Stg} {t : Int} (h : (tnR s t).2 = true) : goodS s = true ∧ ∃ k : Nat, t = k ∧ k < s.labs.length ∧ (tnR s t).1 = nameT s k := by
  unfold tnR at h ⊢
  split at h
  · rename_i hc
    rw [if_pos hc]
    simp only [Bool.and_eq_true, decide_eq_true_eq] at hc
    exact ⟨hc.1, t.toNat, by omega, by omega, rfl⟩
  · cases h
theorem tbR_name {s : Stg} (h : goodS s = true) {k : Nat} (hk : k < s.labs.length) : tbR s (nameT s k) = ((k : Int), true) := by
  have e : firstK (fun j => decide (nameT s j = nameT s k)) s.labs.length = k := firstK_at hk (decide_eq_true rfl) (fun j hj => decide_eq_false (fun e => by have := names_inj h (by omega) hk e; omega))
  unfold tbR
  rw [if_pos h, e, if_pos hk]
theorem toR_has {s : Stg} (h : goodS s = true) {k : Nat} (hk : k < s.labs.length) (h0 : 0 ≤ (lAt s.labs k).sig) : ∃ l, toR s (lAt s.labs k).sig (lAt s.labs k).up = (l, true) ∧ hasI l k = true ∧ l.length ≤ 24 := by
  have h1 := goodS_at h hk
  unfold toR
  rw [h, decide_eq_true h0, decide_eq_true (show (lAt s.labs k).sig ≤ (s.sigs.length : Int) - 1 by omega)]
  refine ⟨_, rfl, ?_, Nat.le_trans (idxTo_len _ _ _) (goodS_few h)⟩
  obtain ⟨r, er⟩ := idxTo_split (l := s.labs) (x := lAt s.labs k) rfl hk
  show hasI (idxTo s.labs (lAt s.labs k) s.labs.length) k = true
  rw [er]
  unfold hasI
  rw [List.any_eq_true]
  exact ⟨k, by simp, by simp⟩
theorem toR_len (s : Stg) (i : Int) (up : Bool) : (toR s i up).1.length ≤ s.labs.length := by
  unfold toR
  split
  · exact idxTo_len _ _ _
  · exact Nat.zero_le _
end Go.Proofs.YtnklhbfdfddigaaDoor

