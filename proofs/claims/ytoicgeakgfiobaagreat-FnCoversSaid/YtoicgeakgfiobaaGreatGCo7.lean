/- Contracts of the functions of the program and of the reference, each proved by a walk through its code. -/
import Derived.WalkKit
import Derived.WalkSpells
import Derived.WalkLawsBesides
import Derived.Deep.Draws
import Derived.Lib.Hide
import Derived.Maps.AppendAt
import Derived.OwnWalk
import Derived.Deep.MidRow
import Derived.Laws.ResultCell
import Derived.Deep.Upon
import Derived.Great.FillDense
import Derived.Laws.Tables
import Derived.Laws.BytesArg
import Derived.Laws.MakeOwn
import Derived.Great.BuildSlice
import Derived.ArgAppend
import Derived.Deep.AppendSrc
import Derived.Test.YtoicgeakgfiobaaGreatProg
import Derived.KernelRfl
import Derived.Orders
import Derived.Laws.IdiomStrings
import Derived.Lib.AppendZerosOnto
import Derived.ProofKit
import Derived.OpenShut
import Derived.Lib.SliceRun
import Derived.Laws.RangeString
import Derived.Shelf.Strings.Builder1
import Derived.Shelf.Strings.Builder2
import Derived.Shelf.Strings.OnBuilder
import Derived.Shelf.Strings.Search1
import Derived.Shelf.Strings.Search2
import Derived.Shelf.Strings.Search3
import Derived.Shelf.LaysM
import Derived.Shelf.Strings.Shaped
import Derived.Test.YtoicgeakgfiobaaGreatRows
import Derived.Lib.IndexAny
import Derived.Laws.StructEq
import Derived.ChangeKeysEq
import Derived.Sort.Grow
import Derived.Below
import Derived.Laws.Small
import Derived.Laws.IdiomCopy
import Derived.Test.YtoicgeakgfiobaaGreatGCo6
set_option linter.all false
set_option maxRecDepth 20000
namespace Go.Proofs.YtoicgeakgfiobaaGreat
open Go.RowKit
def okS (s : Stg) : Bool := decide (1 ≤ s.net.ts.length) && decide (0 ≤ s.net.places) && decide (s.net.places ≤ 40) && decide (s.net.ts.length ≤ 20) && s.net.ts.all (fun t => decide (t.pre.length ≤ 4) && decide (t.post.length ≤ 4)) && decide (1 ≤ s.sigs.length) && decide (s.sigs.length ≤ 8) && s.sigs.all (fun x => decide (x.name.length ≤ 10)) && decide (1 ≤ s.labs.length) && decide (s.labs.length ≤ 20) && s.labs.all (fun x => decide (-10 ≤ x.sig) && decide (x.sig ≤ 10)) && decide (s.start.length ≤ 40)
structure StgS (s : Stg) : Prop where
 p : 0 ≤ s.net.places ∧ s.net.places ≤ 40
 tl : s.net.ts.length ≤ 20
 t : ∀ t, t ∈ s.net.ts → t.pre.length ≤ 4 ∧ t.post.length ≤ 4
 s0 : 1 ≤ s.sigs.length
 sl : s.sigs.length ≤ 8
 sn : ∀ x, x ∈ s.sigs → x.name.length ≤ 10
 ll : s.labs.length ≤ 20
 lb : ∀ x, x ∈ s.labs → -10 ≤ x.sig ∧ x.sig ≤ 10
 st : s.start.length ≤ 60
theorem okS_S {s : Stg} (h : okS s = true) : StgS s ∧ 1 ≤ s.labs.length ∧ s.start.length ≤ 40 := by
 simp only [okS, Bool.and_eq_true, decide_eq_true_eq, List.all_eq_true] at h
 obtain ⟨⟨⟨⟨⟨⟨⟨⟨⟨⟨⟨h0, h1⟩, h2⟩, h3⟩, h4⟩, h5⟩, h6⟩, h7⟩, h8⟩, h9⟩, h10⟩, h11⟩ := h
 exact ⟨⟨⟨h1, h2⟩, h3, h4, h5, h6, h7, h9, h10, by omega⟩, h8, h11⟩
theorem StgS.B {s : Stg} (h : StgS s) : StgB s := ⟨⟨by have := h.p; omega, by have := h.tl; omega, fun t ht => by have := h.t t ht; omega⟩, by have := h.sl; omega, fun t ht => by have := h.sn t ht; omega, by have := h.ll; omega, fun x hx => by have := h.lb x hx; omega, by have := h.st; omega⟩
def plS0 : Stg := buildS [97, 98] [99] [] [97, 43, 62, 99, 43, 32, 98, 43, 62, 99, 43, 32, 99, 43, 62, 97, 45, 32, 99, 43, 62, 98, 45, 32, 97, 45, 62, 99, 45, 32, 98, 45, 62, 99, 45, 32, 42, 99, 45, 62, 97, 43, 32, 42, 99, 45, 62, 98, 43]
theorem plS0_ok : okS plS0 = true := by decide +kernel
def plS1 : Stg := buildS [97] [98] [] [97, 43, 62, 98, 43, 32, 98, 43, 62, 97, 45, 32, 97, 45, 62, 98, 45, 32, 42, 98, 45, 62, 97, 43]
theorem plS1_ok : okS plS1 = true := by decide +kernel
def plS2 : Stg := buildS [114] [120, 121] [] [114, 43, 62, 120, 43, 32, 114, 43, 62, 121, 43, 32, 120, 43, 62, 114, 45, 32, 121, 43, 62, 114, 45, 32, 114, 45, 62, 120, 45, 32, 114, 45, 62, 121, 45, 32, 42, 120, 45, 62, 114, 43, 32, 42, 121, 45, 62, 114, 43]
theorem plS2_ok : okS plS2 = true := by decide +kernel
def plS3 : Stg := buildS [97, 100] [98, 99] [] [97, 43, 62, 98, 43, 32, 98, 43, 62, 100, 43, 32, 100, 43, 62, 99, 43, 32, 99, 43, 62, 97, 45, 32, 97, 45, 62, 98, 45, 32, 98, 45, 62, 100, 45, 32, 100, 45, 62, 99, 45, 32, 42, 99, 45, 62, 97, 43]
theorem plS3_ok : okS plS3 = true := by decide +kernel
def plS4 : Stg := buildS [97] [98] [120] [97, 43, 62, 120, 43, 32, 120, 43, 62, 98, 43, 32, 98, 43, 62, 97, 45, 32, 97, 45, 62, 120, 45, 32, 120, 45, 62, 98, 45, 32, 42, 98, 45, 62, 97, 43]
theorem plS4_ok : okS plS4 = true := by decide +kernel
def plS5 : Stg := buildS [97, 98] [99] [] [42, 95, 112, 62, 97, 43, 32, 95, 112, 62, 98, 43, 32, 97, 43, 62, 99, 43, 47, 49, 32, 99, 43, 47, 49, 62, 97, 45, 32, 97, 45, 62, 99, 45, 47, 49, 32, 99, 45, 47, 49, 62, 95, 112, 32, 98, 43, 62, 99, 43, 47, 50, 32, 99, 43, 47, 50, 62, 98, 45, 32, 98, 45, 62, 99, 45, 47, 50, 32, 99, 45, 47, 50, 62, 95, 112]
theorem plS5_ok : okS plS5 = true := by decide +kernel
def plS6 : Stg := buildS [97] [98] [] [97, 43, 62, 126, 32, 126, 62, 98, 43, 32, 98, 43, 62, 97, 45, 32, 97, 45, 62, 98, 45, 32, 42, 98, 45, 62, 97, 43]
theorem plS6_ok : okS plS6 = true := by decide +kernel
def grS0 : Stg := buildS [114] [120, 121] [] [42, 121, 45, 62, 114, 43, 32, 114, 43, 62, 120, 43, 32, 120, 43, 62, 120, 45, 32, 120, 45, 62, 121, 43, 32, 121, 43, 62, 114, 45, 32, 114, 45, 62, 121, 45]
theorem grS0_ok : okS grS0 = true := by decide +kernel
def grS1 : Stg := buildS [97] [98, 99] [] [42, 97, 45, 62, 97, 43, 32, 97, 43, 62, 95, 112, 32, 95, 112, 62, 98, 43, 32, 95, 112, 62, 99, 43, 32, 98, 43, 62, 98, 45, 32, 99, 43, 62, 99, 45, 32, 98, 45, 62, 95, 113, 32, 99, 45, 62, 95, 113, 32, 95, 113, 62, 97, 45]
theorem grS1_ok : okS grS1 = true := by decide +kernel
def grS2 : Stg := buildS [97] [98] [] [97, 43, 47, 49, 62, 98, 43, 32, 98, 43, 62, 97, 43, 47, 50, 32, 97, 43, 47, 50, 62, 98, 45, 32, 42, 98, 45, 62, 97, 43, 47, 49]
theorem grS2_ok : okS grS2 = true := by decide +kernel
def grS4 : Stg := buildS [97] [98] [] [42, 95, 112, 62, 97, 43, 32, 97, 43, 62, 98, 43, 32, 98, 43, 62, 95, 113]
theorem grS4_ok : okS grS4 = true := by decide +kernel
def twS0 : Stg := buildS [112] [113] [] [112, 43, 62, 113, 43, 32, 113, 43, 62, 112, 45, 32, 112, 45, 62, 113, 45, 32, 42, 113, 45, 62, 112, 43]
theorem twS0_ok : okS twS0 = true := by decide +kernel
def twS1 : Stg := buildS [97] [98] [] [97, 43, 62, 98, 43, 32, 98, 43, 62, 97, 45, 32, 97, 45, 62, 98, 45, 32, 42, 98, 45, 62, 97, 43]
theorem twS1_ok : okS twS1 = true := by decide +kernel
def grS3 : Stg := unionT twS0 twS1
theorem grS3_ok : okS grS3 = true := by decide +kernel
theorem twS_ok : (unionS twS0 twS1).2 = true := by decide +kernel
theorem twS_net : okS ⟨(unionR twS0.net twS1.net).1, twS0.sigs, twS0.labs, []⟩ = true := by decide +kernel
def plS (i : Int) : Stg := if i = 0 then plS0 else if i = 1 then plS1 else if i = 2 then plS2 else if i = 3 then plS3 else if i = 4 then plS4 else if i = 5 then plS5 else plS6
theorem plS_ok (i : Int) : okS (plS i) = true := by
 unfold plS
 split
 ·exact plS0_ok
 split
 ·exact plS1_ok
 split
 ·exact plS2_ok
 split
 ·exact plS3_ok
 split
 ·exact plS4_ok
 split
 ·exact plS5_ok
 exact plS6_ok
def stgI (c : Cur) : Stg × Cur := if (c.pick 9).1 = 0 then (grS0, (c.pick 9).2) else if (c.pick 9).1 = 1 then (grS1, (c.pick 9).2) else if (c.pick 9).1 = 2 then (grS2, (c.pick 9).2) else if (c.pick 9).1 = 3 then (grS3, (c.pick 9).2) else if (c.pick 9).1 = 4 then (grS4, (c.pick 9).2) else (plS ((c.pick 9).2.pick 7).1, ((c.pick 9).2.pick 7).2)
theorem stgI_in (c : Cur) : okS (stgI c).1 = true ∧ (stgI c).2.pos ≤ c.pos + 4 ∧ (stgI c).2.code = c.code := by
 have h1 := c.pick_pos 9
 have h2 := (c.pick 9).2.pick_pos 7
 have k1 := c.pick_code 9
 have k2 := (c.pick 9).2.pick_code 7
 unfold stgI
 split
 ·exact ⟨grS0_ok, by dsimp only; omega, k1⟩
 split
 ·exact ⟨grS1_ok, by dsimp only; omega, k1⟩
 split
 ·exact ⟨grS2_ok, by dsimp only; omega, k1⟩
 split
 ·exact ⟨grS3_ok, by dsimp only; omega, k1⟩
 split
 ·exact ⟨grS4_ok, by dsimp only; omega, k1⟩
 exact ⟨plS_ok _, by dsimp only; omega, k2.trans k1⟩
theorem plS0_spec : ASpec Tryz.prog 66 [aS (bstr [97, 98]), aS (bstr [99]), aS (bstr []), aS (bstr [97, 43, 62, 99, 43, 32, 98, 43, 62, 99, 43, 32, 99, 43, 62, 97, 45, 32, 99, 43, 62, 98, 45, 32, 97, 45, 62, 99, 45, 32, 98, 45, 62, 99, 45, 32, 42, 99, 45, 62, 97, 43, 32, 42, 99, 45, 62, 98, 43])] [] (Fun1 (stgO plS0 0 1 2) (stgChs plS0 0 1 2)) := l2Build_spec _ _ _ _ (by decide) (by decide) (by decide) (by decide) (by decide +kernel)
theorem plS1_spec : ASpec Tryz.prog 66 [aS (bstr [97]), aS (bstr [98]), aS (bstr []), aS (bstr [97, 43, 62, 98, 43, 32, 98, 43, 62, 97, 45, 32, 97, 45, 62, 98, 45, 32, 42, 98, 45, 62, 97, 43])] [] (Fun1 (stgO plS1 0 1 2) (stgChs plS1 0 1 2)) := l2Build_spec _ _ _ _ (by decide) (by decide) (by decide) (by decide) (by decide +kernel)
theorem plS2_spec : ASpec Tryz.prog 66 [aS (bstr [114]), aS (bstr [120, 121]), aS (bstr []), aS (bstr [114, 43, 62, 120, 43, 32, 114, 43, 62, 121, 43, 32, 120, 43, 62, 114, 45, 32, 121, 43, 62, 114, 45, 32, 114, 45, 62, 120, 45, 32, 114, 45, 62, 121, 45, 32, 42, 120, 45, 62, 114, 43, 32, 42, 121, 45, 62, 114, 43])] [] (Fun1 (stgO plS2 0 1 2) (stgChs plS2 0 1 2)) := l2Build_spec _ _ _ _ (by decide) (by decide) (by decide) (by decide) (by decide +kernel)
theorem plS3_spec : ASpec Tryz.prog 66 [aS (bstr [97, 100]), aS (bstr [98, 99]), aS (bstr []), aS (bstr [97, 43, 62, 98, 43, 32, 98, 43, 62, 100, 43, 32, 100, 43, 62, 99, 43, 32, 99, 43, 62, 97, 45, 32, 97, 45, 62, 98, 45, 32, 98, 45, 62, 100, 45, 32, 100, 45, 62, 99, 45, 32, 42, 99, 45, 62, 97, 43])] [] (Fun1 (stgO plS3 0 1 2) (stgChs plS3 0 1 2)) := l2Build_spec _ _ _ _ (by decide) (by decide) (by decide) (by decide) (by decide +kernel)
theorem plS4_spec : ASpec Tryz.prog 66 [aS (bstr [97]), aS (bstr [98]), aS (bstr [120]), aS (bstr [97, 43, 62, 120, 43, 32, 120, 43, 62, 98, 43, 32, 98, 43, 62, 97, 45, 32, 97, 45, 62, 120, 45, 32, 120, 45, 62, 98, 45, 32, 42, 98, 45, 62, 97, 43])] [] (Fun1 (stgO plS4 0 1 2) (stgChs plS4 0 1 2)) := l2Build_spec _ _ _ _ (by decide) (by decide) (by decide) (by decide) (by decide +kernel)
theorem plS5_spec : ASpec Tryz.prog 66 [aS (bstr [97, 98]), aS (bstr [99]), aS (bstr []), aS (bstr [42, 95, 112, 62, 97, 43, 32, 95, 112, 62, 98, 43, 32, 97, 43, 62, 99, 43, 47, 49, 32, 99, 43, 47, 49, 62, 97, 45, 32, 97, 45, 62, 99, 45, 47, 49, 32, 99, 45, 47, 49, 62, 95, 112, 32, 98, 43, 62, 99, 43, 47, 50, 32, 99, 43, 47, 50, 62, 98, 45, 32, 98, 45, 62, 99, 45, 47, 50, 32, 99, 45, 47, 50, 62, 95, 112])] [] (Fun1 (stgO plS5 0 1 2) (stgChs plS5 0 1 2)) := l2Build_spec _ _ _ _ (by decide) (by decide) (by decide) (by decide) (by decide +kernel)
theorem plS6_spec : ASpec Tryz.prog 66 [aS (bstr [97]), aS (bstr [98]), aS (bstr []), aS (bstr [97, 43, 62, 126, 32, 126, 62, 98, 43, 32, 98, 43, 62, 97, 45, 32, 97, 45, 62, 98, 45, 32, 42, 98, 45, 62, 97, 43])] [] (Fun1 (stgO plS6 0 1 2) (stgChs plS6 0 1 2)) := l2Build_spec _ _ _ _ (by decide) (by decide) (by decide) (by decide) (by decide +kernel)
theorem grS0_spec : ASpec Tryz.prog 66 [aS (bstr [114]), aS (bstr [120, 121]), aS (bstr []), aS (bstr [42, 121, 45, 62, 114, 43, 32, 114, 43, 62, 120, 43, 32, 120, 43, 62, 120, 45, 32, 120, 45, 62, 121, 43, 32, 121, 43, 62, 114, 45, 32, 114, 45, 62, 121, 45])] [] (Fun1 (stgO grS0 0 1 2) (stgChs grS0 0 1 2)) := l2Build_spec _ _ _ _ (by decide) (by decide) (by decide) (by decide) (by decide +kernel)
theorem grS1_spec : ASpec Tryz.prog 66 [aS (bstr [97]), aS (bstr [98, 99]), aS (bstr []), aS (bstr [42, 97, 45, 62, 97, 43, 32, 97, 43, 62, 95, 112, 32, 95, 112, 62, 98, 43, 32, 95, 112, 62, 99, 43, 32, 98, 43, 62, 98, 45, 32, 99, 43, 62, 99, 45, 32, 98, 45, 62, 95, 113, 32, 99, 45, 62, 95, 113, 32, 95, 113, 62, 97, 45])] [] (Fun1 (stgO grS1 0 1 2) (stgChs grS1 0 1 2)) := l2Build_spec _ _ _ _ (by decide) (by decide) (by decide) (by decide) (by decide +kernel)
theorem grS2_spec : ASpec Tryz.prog 66 [aS (bstr [97]), aS (bstr [98]), aS (bstr []), aS (bstr [97, 43, 47, 49, 62, 98, 43, 32, 98, 43, 62, 97, 43, 47, 50, 32, 97, 43, 47, 50, 62, 98, 45, 32, 42, 98, 45, 62, 97, 43, 47, 49])] [] (Fun1 (stgO grS2 0 1 2) (stgChs grS2 0 1 2)) := l2Build_spec _ _ _ _ (by decide) (by decide) (by decide) (by decide) (by decide +kernel)
theorem grS4_spec : ASpec Tryz.prog 66 [aS (bstr [97]), aS (bstr [98]), aS (bstr []), aS (bstr [42, 95, 112, 62, 97, 43, 32, 97, 43, 62, 98, 43, 32, 98, 43, 62, 95, 113])] [] (Fun1 (stgO grS4 0 1 2) (stgChs grS4 0 1 2)) := l2Build_spec _ _ _ _ (by decide) (by decide) (by decide) (by decide) (by decide +kernel)
theorem twS0_spec : ASpec Tryz.prog 66 [aS (bstr [112]), aS (bstr [113]), aS (bstr []), aS (bstr [112, 43, 62, 113, 43, 32, 113, 43, 62, 112, 45, 32, 112, 45, 62, 113, 45, 32, 42, 113, 45, 62, 112, 43])] [] (Fun1 (stgO twS0 0 1 2) (stgChs twS0 0 1 2)) := l2Build_spec _ _ _ _ (by decide) (by decide) (by decide) (by decide) (by decide +kernel)
theorem twS1_spec : ASpec Tryz.prog 66 [aS (bstr [97]), aS (bstr [98]), aS (bstr []), aS (bstr [97, 43, 62, 98, 43, 32, 98, 43, 62, 97, 45, 32, 97, 45, 62, 98, 45, 32, 42, 98, 45, 62, 97, 43])] [] (Fun1 (stgO twS1 0 1 2) (stgChs twS1 0 1 2)) := l2Build_spec _ _ _ _ (by decide) (by decide) (by decide) (by decide) (by decide +kernel)
set_option maxHeartbeats 4000000 in
theorem l2Plain_spec (c : Cur) (hp : c.pos ≤ 100000000) : ASpec Tryz.prog 68 [.ptr 0 0] [(0, curC c)] (Fun1 (stgO (plS (c.pick 7).1) 1 2 3) ((0, curC (c.pick 7).2) :: stgChs (plS (c.pick 7).1) 1 2 3)) := by
 have hK := pick_spec c 7 (by decide) (by omega)
 obtain ⟨p, hpp⟩ : ∃ p, p = c.pick 7 := ⟨_, rfl⟩
 rw [← hpp] at hK ⊢
 have hS : plS p.1 = if p.1 = 0 then plS0 else if p.1 = 1 then plS1 else if p.1 = 2 then plS2 else if p.1 = 3 then plS3 else if p.1 = 4 then plS4 else if p.1 = 5 then plS5 else plS6 := rfl
 obtain ⟨s, hs⟩ : ∃ s, s = plS p.1 := ⟨_, rfl⟩
 rw [← hs] at hS ⊢
 refine ASpec.of Tryz.func68 rfl rfl fun C hC => ?_
 refine AC.seq (AC.region ?_)
 refine AL.q (by exact h_alloc rfl) rfl ?_
 refine AL.nil (th_n (AC.seq (AC.seq (AC.region ?_))))
 refine AL.p (by exact mv3 rfl) rfl ?_
 refine AL.q (by exact h_fun (cs := [0]) en_pick rfl rfl (by repeat (first | exact rfl | exact DLead.same | refine ⟨_, _, rfl, ?_, ?_⟩ | refine ⟨_, rfl, ?_⟩)) (by repeat (first | exact True.intro | refine And.intro ?_ ?_ | exact DLead.same | exact rfl | refine ⟨_, _, rfl, rfl, ?_⟩ | refine ⟨_, rfl, ?_⟩ | refine ⟨_, _, rfl, ?_, ?_⟩)) hK rfl rfl rfl rfl) rfl ?_
 refine AL.nil (th_n (AC.block (AC.seq (AC.region ?_))))
 refine AL.p (by exact g_cmp rfl rfl rfl) rfl ?_
 refine AL.p (by exact as1 rfl) rfl ?_
 refine AL.nil (th_n ?_)
 refine AC.condD rfl (fun h0 => ?_) (fun h0 => ?_)
 ·refine AC.seq (AC.region ?_)
  refine AL.q (by exact h_fun (cs := []) en_l2Build rfl rfl (by repeat (first | exact rfl | exact DLead.same | refine ⟨_, _, rfl, ?_, ?_⟩)) (by repeat (exact True.intro)) plS0_spec rfl rfl rfl rfl) rfl ?_
  refine AL.q (by exact h_store rfl rfl rfl rfl rfl rfl) rfl ?_
  refine AL.nil (th_n (AC.ret (ib_r (th_r (bq_r ?_)))))
  have e : s = plS0 := by rw [hS, if_pos h0]
  exact retN [(1, _), (2, _), (3, _)] rfl (by rw [e]; repeat (first | exact rfl | exact DLead.same | refine ⟨_, _, rfl, ?_, ?_⟩ | refine ⟨_, rfl, ?_⟩)) (by rw [e]; repeat (first | exact True.intro | refine And.intro ?_ ?_ | exact DLead.same | exact rfl | refine ⟨_, _, rfl, rfl, ?_⟩ | refine ⟨_, rfl, ?_⟩ | refine ⟨_, _, rfl, ?_, ?_⟩)) rfl rfl
 ·refine AC.seq (AC.region ?_)
  refine AL.p (by exact g_cmp rfl rfl rfl) rfl ?_
  refine AL.p (by exact as1 rfl) rfl ?_
  refine AL.nil (th_n ?_)
  refine AC.condD rfl (fun h1 => ?_) (fun h1 => ?_)
  ·refine AC.seq (AC.region ?_)
   refine AL.q (by exact h_fun (cs := []) en_l2Build rfl rfl (by repeat (first | exact rfl | exact DLead.same | refine ⟨_, _, rfl, ?_, ?_⟩)) (by repeat (exact True.intro)) plS1_spec rfl rfl rfl rfl) rfl ?_
   refine AL.q (by exact h_store rfl rfl rfl rfl rfl rfl) rfl ?_
   refine AL.nil (th_n (AC.ret (ib_r (th_r (bq_r ?_)))))
   have e : s = plS1 := by rw [hS, if_neg h0, if_pos h1]
   exact retN [(1, _), (2, _), (3, _)] rfl (by rw [e]; repeat (first | exact rfl | exact DLead.same | refine ⟨_, _, rfl, ?_, ?_⟩ | refine ⟨_, rfl, ?_⟩)) (by rw [e]; repeat (first | exact True.intro | refine And.intro ?_ ?_ | exact DLead.same | exact rfl | refine ⟨_, _, rfl, rfl, ?_⟩ | refine ⟨_, rfl, ?_⟩ | refine ⟨_, _, rfl, ?_, ?_⟩)) rfl rfl
  ·refine AC.seq (AC.region ?_)
   refine AL.p (by exact g_cmp rfl rfl rfl) rfl ?_
   refine AL.p (by exact as1 rfl) rfl ?_
   refine AL.nil (th_n ?_)
   refine AC.condD rfl (fun h2 => ?_) (fun h2 => ?_)
   ·refine AC.seq (AC.region ?_)
    refine AL.q (by exact h_fun (cs := []) en_l2Build rfl rfl (by repeat (first | exact rfl | exact DLead.same | refine ⟨_, _, rfl, ?_, ?_⟩)) (by repeat (exact True.intro)) plS2_spec rfl rfl rfl rfl) rfl ?_
    refine AL.q (by exact h_store rfl rfl rfl rfl rfl rfl) rfl ?_
    refine AL.nil (th_n (AC.ret (ib_r (th_r (bq_r ?_)))))
    have e : s = plS2 := by rw [hS, if_neg h0, if_neg h1, if_pos h2]
    exact retN [(1, _), (2, _), (3, _)] rfl (by rw [e]; repeat (first | exact rfl | exact DLead.same | refine ⟨_, _, rfl, ?_, ?_⟩ | refine ⟨_, rfl, ?_⟩)) (by rw [e]; repeat (first | exact True.intro | refine And.intro ?_ ?_ | exact DLead.same | exact rfl | refine ⟨_, _, rfl, rfl, ?_⟩ | refine ⟨_, rfl, ?_⟩ | refine ⟨_, _, rfl, ?_, ?_⟩)) rfl rfl
   ·refine AC.seq (AC.region ?_)
    refine AL.p (by exact g_cmp rfl rfl rfl) rfl ?_
    refine AL.p (by exact as1 rfl) rfl ?_
    refine AL.nil (th_n ?_)
    refine AC.condD rfl (fun h3 => ?_) (fun h3 => ?_)
    ·refine AC.seq (AC.region ?_)
     refine AL.q (by exact h_fun (cs := []) en_l2Build rfl rfl (by repeat (first | exact rfl | exact DLead.same | refine ⟨_, _, rfl, ?_, ?_⟩)) (by repeat (exact True.intro)) plS3_spec rfl rfl rfl rfl) rfl ?_
     refine AL.q (by exact h_store rfl rfl rfl rfl rfl rfl) rfl ?_
     refine AL.nil (th_n (AC.ret (ib_r (th_r (bq_r ?_)))))
     have e : s = plS3 := by rw [hS, if_neg h0, if_neg h1, if_neg h2, if_pos h3]
     exact retN [(1, _), (2, _), (3, _)] rfl (by rw [e]; repeat (first | exact rfl | exact DLead.same | refine ⟨_, _, rfl, ?_, ?_⟩ | refine ⟨_, rfl, ?_⟩)) (by rw [e]; repeat (first | exact True.intro | refine And.intro ?_ ?_ | exact DLead.same | exact rfl | refine ⟨_, _, rfl, rfl, ?_⟩ | refine ⟨_, rfl, ?_⟩ | refine ⟨_, _, rfl, ?_, ?_⟩)) rfl rfl
    ·refine AC.seq (AC.region ?_)
     refine AL.p (by exact g_cmp rfl rfl rfl) rfl ?_
     refine AL.p (by exact as1 rfl) rfl ?_
     refine AL.nil (th_n ?_)
     refine AC.condD rfl (fun h4 => ?_) (fun h4 => ?_)
     ·refine AC.seq (AC.region ?_)
      refine AL.q (by exact h_fun (cs := []) en_l2Build rfl rfl (by repeat (first | exact rfl | exact DLead.same | refine ⟨_, _, rfl, ?_, ?_⟩)) (by repeat (exact True.intro)) plS4_spec rfl rfl rfl rfl) rfl ?_
      refine AL.q (by exact h_store rfl rfl rfl rfl rfl rfl) rfl ?_
      refine AL.nil (th_n (AC.ret (ib_r (th_r (bq_r ?_)))))
      have e : s = plS4 := by rw [hS, if_neg h0, if_neg h1, if_neg h2, if_neg h3, if_pos h4]
      exact retN [(1, _), (2, _), (3, _)] rfl (by rw [e]; repeat (first | exact rfl | exact DLead.same | refine ⟨_, _, rfl, ?_, ?_⟩ | refine ⟨_, rfl, ?_⟩)) (by rw [e]; repeat (first | exact True.intro | refine And.intro ?_ ?_ | exact DLead.same | exact rfl | refine ⟨_, _, rfl, rfl, ?_⟩ | refine ⟨_, rfl, ?_⟩ | refine ⟨_, _, rfl, ?_, ?_⟩)) rfl rfl
     ·refine AC.seq (AC.region ?_)
      refine AL.p (by exact g_cmp rfl rfl rfl) rfl ?_
      refine AL.p (by exact as1 rfl) rfl ?_
      refine AL.nil (th_n ?_)
      refine AC.condD rfl (fun h5 => ?_) (fun h5 => ?_)
      ·refine AC.seq (AC.region ?_)
       refine AL.q (by exact h_fun (cs := []) en_l2Build rfl rfl (by repeat (first | exact rfl | exact DLead.same | refine ⟨_, _, rfl, ?_, ?_⟩)) (by repeat (exact True.intro)) plS5_spec rfl rfl rfl rfl) rfl ?_
       refine AL.q (by exact h_store rfl rfl rfl rfl rfl rfl) rfl ?_
       refine AL.nil (th_n (AC.ret (ib_r (th_r (bq_r ?_)))))
       have e : s = plS5 := by rw [hS, if_neg h0, if_neg h1, if_neg h2, if_neg h3, if_neg h4, if_pos h5]
       exact retN [(1, _), (2, _), (3, _)] rfl (by rw [e]; repeat (first | exact rfl | exact DLead.same | refine ⟨_, _, rfl, ?_, ?_⟩ | refine ⟨_, rfl, ?_⟩)) (by rw [e]; repeat (first | exact True.intro | refine And.intro ?_ ?_ | exact DLead.same | exact rfl | refine ⟨_, _, rfl, rfl, ?_⟩ | refine ⟨_, rfl, ?_⟩ | refine ⟨_, _, rfl, ?_, ?_⟩)) rfl rfl
      ·refine AC.skip (ib_n (th_n (AC.seq (AC.region ?_))))
       refine AL.q (by exact h_fun (cs := []) en_l2Build rfl rfl (by repeat (first | exact rfl | exact DLead.same | refine ⟨_, _, rfl, ?_, ?_⟩)) (by repeat (exact True.intro)) plS6_spec rfl rfl rfl rfl) rfl ?_
       refine AL.q (by exact h_store rfl rfl rfl rfl rfl rfl) rfl ?_
       refine AL.nil (th_n (AC.ret (bq_r ?_)))
       have e : s = plS6 := by rw [hS, if_neg h0, if_neg h1, if_neg h2, if_neg h3, if_neg h4, if_neg h5]
       exact retN [(1, _), (2, _), (3, _)] rfl (by rw [e]; repeat (first | exact rfl | exact DLead.same | refine ⟨_, _, rfl, ?_, ?_⟩ | refine ⟨_, rfl, ?_⟩)) (by rw [e]; repeat (first | exact True.intro | refine And.intro ?_ ?_ | exact DLead.same | exact rfl | refine ⟨_, _, rfl, rfl, ?_⟩ | refine ⟨_, rfl, ?_⟩ | refine ⟨_, _, rfl, ?_, ?_⟩)) rfl rfl
theorem en_l2Plain : Enters Tryz.prog 68 := enters_of Tryz.func68 rfl rfl
theorem twS_L : NetL (unionR twS0.net twS1.net).1 := ((okS_S twS_net).1.B.n).L
set_option maxHeartbeats 4000000 in
theorem stg_spec (c : Cur) (hp : c.pos ≤ 10000000) : ASpec Tryz.prog 49 [.ptr 0 0] [(0, curC c)] (Fun1 (stgQ (stgI c).1 1 2) [(0, curC (stgI c).2), (1, .arr 83 2 (sigsL (stgI c).1.sigs)), (2, .arr 99 2 (labsL (stgI c).1.labs))]) := by
 have hK := pick_spec c 9 (by decide) (by omega)
 have hpos := c.pick_pos 9
 have hS : stgI c = if (c.pick 9).1 = 0 then (grS0, (c.pick 9).2) else if (c.pick 9).1 = 1 then (grS1, (c.pick 9).2) else if (c.pick 9).1 = 2 then (grS2, (c.pick 9).2) else if (c.pick 9).1 = 3 then (grS3, (c.pick 9).2) else if (c.pick 9).1 = 4 then (grS4, (c.pick 9).2) else (plS ((c.pick 9).2.pick 7).1, ((c.pick 9).2.pick 7).2) := rfl
 obtain ⟨p, hpp⟩ : ∃ p, p = c.pick 9 := ⟨_, rfl⟩
 rw [← hpp] at hK hS hpos
 have hP := l2Plain_spec p.2 (by omega)
 obtain ⟨pp, hpq⟩ : ∃ pp, pp = plS (p.2.pick 7).1 := ⟨_, rfl⟩
 rw [← hpq] at hP hS
 obtain ⟨s, hs⟩ : ∃ s, s = stgI c := ⟨_, rfl⟩
 rw [← hs] at hS ⊢
 have hU := sUnionSTGs_own twS0 twS1 (okS_S twS0_ok).1.B (okS_S twS1_ok).1.B twS_L twS_ok
 rw [show unionT twS0 twS1 = grS3 from rfl] at hU
 refine ASpec.of Tryz.func49 rfl rfl fun C hC => ?_
 refine AC.seq (AC.region ?_)
 refine AL.q (by exact h_alloc rfl) rfl ?_
 refine AL.nil (th_n (AC.seq (AC.seq (AC.region ?_))))
 refine AL.p (by exact mv3 rfl) rfl ?_
 refine AL.q (by exact h_fun (cs := [0]) en_pick rfl rfl (by repeat (first | exact rfl | exact DLead.same | refine ⟨_, _, rfl, ?_, ?_⟩ | refine ⟨_, rfl, ?_⟩)) (by repeat (first | exact True.intro | refine And.intro ?_ ?_ | exact DLead.same | exact rfl | refine ⟨_, _, rfl, rfl, ?_⟩ | refine ⟨_, rfl, ?_⟩ | refine ⟨_, _, rfl, ?_, ?_⟩)) hK rfl rfl rfl rfl) rfl ?_
 refine AL.nil (th_n (AC.block (AC.seq (AC.region ?_))))
 refine AL.p (by exact g_cmp rfl rfl rfl) rfl ?_
 refine AL.p (by exact as1 rfl) rfl ?_
 refine AL.nil (th_n ?_)
 refine AC.condD rfl (fun h0 => ?_) (fun h0 => ?_)
 ·refine AC.seq (AC.region ?_)
  refine AL.q (by exact h_fun (cs := []) en_l2Build rfl rfl (by repeat (first | exact rfl | exact DLead.same | refine ⟨_, _, rfl, ?_, ?_⟩)) (by repeat (exact True.intro)) grS0_spec rfl rfl rfl rfl) rfl ?_
  refine AL.weak (Weak.freezeA (i := 9) (k := 1) rfl rfl rfl (ownl _ _) (ownt _ _)) ?_
  refine AL.q (by exact h_store rfl rfl rfl rfl rfl rfl) rfl ?_
  refine AL.nil (th_n (AC.ret (ib_r (th_r (bq_r ?_)))))
  have e : s = (grS0, p.2) := by rw [hS, if_pos h0]
  exact retN [(1, _), (2, _)] rfl (by rw [e]; repeat (first | exact rfl | exact DLead.same | refine ⟨_, _, rfl, ?_, ?_⟩ | refine ⟨_, rfl, ?_⟩)) (by rw [e]; repeat (first | exact True.intro | refine And.intro ?_ ?_ | exact DLead.same | exact rfl | refine ⟨_, _, rfl, rfl, ?_⟩ | refine ⟨_, rfl, ?_⟩ | refine ⟨_, _, rfl, ?_, ?_⟩)) rfl rfl
 ·refine AC.seq (AC.region ?_)
  refine AL.p (by exact g_cmp rfl rfl rfl) rfl ?_
  refine AL.p (by exact as1 rfl) rfl ?_
  refine AL.nil (th_n ?_)
  refine AC.condD rfl (fun h1 => ?_) (fun h1 => ?_)
  ·refine AC.seq (AC.region ?_)
   refine AL.q (by exact h_fun (cs := []) en_l2Build rfl rfl (by repeat (first | exact rfl | exact DLead.same | refine ⟨_, _, rfl, ?_, ?_⟩)) (by repeat (exact True.intro)) grS1_spec rfl rfl rfl rfl) rfl ?_
   refine AL.weak (Weak.freezeA (i := 12) (k := 1) rfl rfl rfl (ownl _ _) (ownt _ _)) ?_
   refine AL.q (by exact h_store rfl rfl rfl rfl rfl rfl) rfl ?_
   refine AL.nil (th_n (AC.ret (ib_r (th_r (bq_r ?_)))))
   have e : s = (grS1, p.2) := by rw [hS, if_neg h0, if_pos h1]
   exact retN [(1, _), (2, _)] rfl (by rw [e]; repeat (first | exact rfl | exact DLead.same | refine ⟨_, _, rfl, ?_, ?_⟩ | refine ⟨_, rfl, ?_⟩)) (by rw [e]; repeat (first | exact True.intro | refine And.intro ?_ ?_ | exact DLead.same | exact rfl | refine ⟨_, _, rfl, rfl, ?_⟩ | refine ⟨_, rfl, ?_⟩ | refine ⟨_, _, rfl, ?_, ?_⟩)) rfl rfl
  ·refine AC.seq (AC.region ?_)
   refine AL.p (by exact g_cmp rfl rfl rfl) rfl ?_
   refine AL.p (by exact as1 rfl) rfl ?_
   refine AL.nil (th_n ?_)
   refine AC.condD rfl (fun h2 => ?_) (fun h2 => ?_)
   ·refine AC.seq (AC.region ?_)
    refine AL.q (by exact h_fun (cs := []) en_l2Build rfl rfl (by repeat (first | exact rfl | exact DLead.same | refine ⟨_, _, rfl, ?_, ?_⟩)) (by repeat (exact True.intro)) grS2_spec rfl rfl rfl rfl) rfl ?_
    refine AL.weak (Weak.freezeA (i := 15) (k := 1) rfl rfl rfl (ownl _ _) (ownt _ _)) ?_
    refine AL.q (by exact h_store rfl rfl rfl rfl rfl rfl) rfl ?_
    refine AL.nil (th_n (AC.ret (ib_r (th_r (bq_r ?_)))))
    have e : s = (grS2, p.2) := by rw [hS, if_neg h0, if_neg h1, if_pos h2]
    exact retN [(1, _), (2, _)] rfl (by rw [e]; repeat (first | exact rfl | exact DLead.same | refine ⟨_, _, rfl, ?_, ?_⟩ | refine ⟨_, rfl, ?_⟩)) (by rw [e]; repeat (first | exact True.intro | refine And.intro ?_ ?_ | exact DLead.same | exact rfl | refine ⟨_, _, rfl, rfl, ?_⟩ | refine ⟨_, rfl, ?_⟩ | refine ⟨_, _, rfl, ?_, ?_⟩)) rfl rfl
   ·refine AC.seq (AC.region ?_)
    refine AL.p (by exact g_cmp rfl rfl rfl) rfl ?_
    refine AL.p (by exact as1 rfl) rfl ?_
    refine AL.nil (th_n ?_)
    refine AC.condD rfl (fun h3 => ?_) (fun h3 => ?_)
    ·refine AC.seq (AC.region ?_)
     refine AL.q (by exact h_fun (cs := []) en_l2Build rfl rfl (by repeat (first | exact rfl | exact DLead.same | refine ⟨_, _, rfl, ?_, ?_⟩)) (by repeat (exact True.intro)) twS0_spec rfl rfl rfl rfl) rfl ?_
     refine AL.weak (Weak.freezeA3 19 rfl rfl rfl rfl rfl rfl rfl (ownl _ _) (ownl _ _) (ownl _ _) (ownt _ _) (ownt _ _) (ownt _ _)) ?_
     refine AL.q (by exact h_fun (cs := []) en_l2Build rfl rfl (by repeat (first | exact rfl | exact DLead.same | refine ⟨_, _, rfl, ?_, ?_⟩)) (by repeat (exact True.intro)) twS1_spec rfl rfl rfl rfl) rfl ?_
     refine AL.weak (Weak.freezeA3 20 rfl rfl rfl rfl rfl rfl rfl (ownl _ _) (ownl _ _) (ownl _ _) (ownt _ _) (ownt _ _) (ownt _ _)) ?_
     refine AL.q (by exact h_fun (cs := []) en_sUnionSTGs rfl rfl (by repeat (first | exact rfl | exact DLead.same | refine ⟨_, _, rfl, ?_, ?_⟩ | refine ⟨_, rfl, ?_⟩)) (by repeat (exact True.intro)) hU rfl rfl rfl rfl) rfl ?_
     refine AL.p (by exact mv5 rfl) rfl ?_
     refine AL.p (by exact g_extract (r := .agg _) rfl rfl) rfl ?_
     refine AL.p (by exact g_extract (r := .d _) rfl rfl) rfl ?_
     refine AL.q (by exact h_alloc rfl) rfl ?_
     refine AL.q (by exact h_store rfl rfl rfl rfl rfl rfl) rfl ?_
     refine AL.p (by exact as1 rfl) rfl ?_
     refine AL.nil (th_n (AC.seq (AC.region ?_)))
     refine AL.p (by exact mv1 rfl) rfl ?_
     refine AL.nil (th_n ?_)
     refine AC.condT rfl ?_
     refine AC.seq (AC.region ?_)
     refine AL.p (by exact g_load_ptrN rfl rfl rfl rfl rfl) rfl ?_
     refine AL.q (by exact h_store rfl rfl rfl rfl rfl rfl) rfl ?_
     refine AL.nil (th_n (AC.ret (ib_r (th_r (bq_r ?_)))))
     have e : s = (grS3, p.2) := by rw [hS, if_neg h0, if_neg h1, if_neg h2, if_pos h3]
     exact retN [(1, _), (2, _)] rfl (by rw [e]; repeat (first | exact rfl | exact DLead.same | refine ⟨_, _, rfl, ?_, ?_⟩ | refine ⟨_, rfl, ?_⟩)) (by rw [e]; repeat (first | exact True.intro | refine And.intro ?_ ?_ | exact DLead.same | exact rfl | refine ⟨_, _, rfl, rfl, ?_⟩ | refine ⟨_, rfl, ?_⟩ | refine ⟨_, _, rfl, ?_, ?_⟩)) rfl rfl
    ·refine AC.seq (AC.region ?_)
     refine AL.p (by exact g_cmp rfl rfl rfl) rfl ?_
     refine AL.p (by exact as1 rfl) rfl ?_
     refine AL.nil (th_n ?_)
     refine AC.condD rfl (fun h4 => ?_) (fun h4 => ?_)
     ·refine AC.seq (AC.region ?_)
      refine AL.q (by exact h_fun (cs := []) en_l2Build rfl rfl (by repeat (first | exact rfl | exact DLead.same | refine ⟨_, _, rfl, ?_, ?_⟩)) (by repeat (exact True.intro)) grS4_spec rfl rfl rfl rfl) rfl ?_
      refine AL.weak (Weak.freezeA (i := 28) (k := 1) rfl rfl rfl (ownl _ _) (ownt _ _)) ?_
      refine AL.q (by exact h_store rfl rfl rfl rfl rfl rfl) rfl ?_
      refine AL.nil (th_n (AC.ret (ib_r (th_r (bq_r ?_)))))
      have e : s = (grS4, p.2) := by rw [hS, if_neg h0, if_neg h1, if_neg h2, if_neg h3, if_pos h4]
      exact retN [(1, _), (2, _)] rfl (by rw [e]; repeat (first | exact rfl | exact DLead.same | refine ⟨_, _, rfl, ?_, ?_⟩ | refine ⟨_, rfl, ?_⟩)) (by rw [e]; repeat (first | exact True.intro | refine And.intro ?_ ?_ | exact DLead.same | exact rfl | refine ⟨_, _, rfl, rfl, ?_⟩ | refine ⟨_, rfl, ?_⟩ | refine ⟨_, _, rfl, ?_, ?_⟩)) rfl rfl
     ·refine AC.skip (ib_n (th_n (AC.seq (AC.region ?_))))
      refine AL.p (by exact mv3 rfl) rfl ?_
      refine AL.q (by exact h_fun (cs := [0]) en_l2Plain rfl rfl (by repeat (first | exact rfl | refine ⟨_, _, rfl, ?_, ?_⟩ | refine ⟨_, rfl, ?_⟩)) (by repeat (first | exact True.intro | refine And.intro ?_ ?_ | exact DLead.same | exact rfl | refine ⟨_, _, rfl, rfl, ?_⟩ | refine ⟨_, rfl, ?_⟩ | refine ⟨_, _, rfl, ?_, ?_⟩)) hP rfl rfl rfl rfl) rfl ?_
      refine AL.weak (Weak.freezeA (i := 30) (k := 1) rfl rfl rfl (ownl _ _) (ownt _ _)) ?_
      refine AL.q (by exact h_store rfl rfl rfl rfl rfl rfl) rfl ?_
      refine AL.nil (th_n (AC.ret (bq_r ?_)))
      have e : s = (pp, (p.2.pick 7).2) := by rw [hS, if_neg h0, if_neg h1, if_neg h2, if_neg h3, if_neg h4]
      exact retN [(1, _), (2, _)] rfl (by rw [e]; repeat (first | exact rfl | exact DLead.same | refine ⟨_, _, rfl, ?_, ?_⟩ | refine ⟨_, rfl, ?_⟩)) (by rw [e]; repeat (first | exact True.intro | refine And.intro ?_ ?_ | exact DLead.same | exact rfl | refine ⟨_, _, rfl, rfl, ?_⟩ | refine ⟨_, rfl, ?_⟩ | refine ⟨_, _, rfl, ?_, ?_⟩)) rfl rfl
theorem en_stg : Enters Tryz.prog 49 := enters_of Tryz.func49 rfl rfl
section
variable {P : Program} [PT P] {s : ASt} {dst : Option Nat} {ty : Nat} {pos : String} {af : Array Edge} {gd : Option (Nat × Bool)} {t : Nat} {x : Operand}
theorem run_part1 {e : Nat} {ts : TS} (ht : PT.ty P e = some ts) (hr : ts.kind.isRow = false) {xs : Array Value} {off : Nat} {v : Value} (hx : xs[off]? = some v) (w : World) : (part e xs off).run P w = .ok v w := by
 simp only [part, Sem.run_bind, PT.notRow ht hr, Result.andThen_ok, Bool.false_eq_true, if_false, hx, Sem.run_pure]
theorem g_field {F : Array Field} {fd : Field} {f : Nat} {ts : TS} {cs : List AV} {r : AV} (hu : P.underlying t = some (.struct F)) (hf : F[f]? = some fd) (ht : PT.ty P fd.type = some ts) (hr : ts.kind.isRow = false) (hx : s.ev x = .agg cs) (hi : cs[fd.offset]? = some r) :
  GOp P [] s ⟨dst, .field t x f, ty, pos, af, gd⟩ r := by
 refine ⟨fun s' ha C U a w m hR => ?_⟩
 have h1 := hR.ev x
 rw [ha.2.1 x (by simp [Op.operands]), hx] at h1
 generalize hv : a.eval x = v at h1
 cases h1 with
 | agg q1 q2 q3 =>
  rename_i vs
  have hi2 : fd.offset < vs.size := by rw [q1]; exact (List.getElem?_eq_some_iff.1 hi).1
  refine ⟨vs.getD fd.offset undef, ?_, q2 _ _ hi⟩
  have hvs : vs[fd.offset]? = some (vs.getD fd.offset undef) := by rw [Array.getD_eq_getD_getElem?, Array.getElem?_eq_getElem hi2]; rfl
  simp only [execOp, Sem.run_bind, hv, Instr.field, asAgg, Sem.run_pure, Result.andThen_ok, run_underlying hu, hf, run_part1 ht hr hvs]
end
def covN (n : Int) : Nat → Cur → List (List UInt8) → List (List UInt8) × Cur
 | 0, c, l => (l, c)
 | j + 1, c, l => covN n j (c.lits [48, 49, 45] n).2 (l ++ [(c.lits [48, 49, 45] n).1])
def badC (x : List UInt8) (i : Int) : List UInt8 := ([[], [120], x ++ [49]] : List (List UInt8)).getD i.toNat []
def endC (l : List (List UInt8)) (c : Cur) : List (List UInt8) × Cur := if (l.length : Int) > 0 then (if (c.pick 15).1 = 0 then (l.set 0 (badC (fst0 l) ((c.pick 15).2.pick 3).1), ((c.pick 15).2.pick 3).2) else (l, (c.pick 15).2)) else (l, c)
def Cur.cover (c : Cur) (n : Int) : List (List UInt8) × Cur := endC (covN n (c.pick 5).1.toNat (c.pick 5).2 []).1 (covN n (c.pick 5).1.toNat (c.pick 5).2 []).2
theorem endC_a {l : List (List UInt8)} {c : Cur} (h1 : (l.length : Int) > 0) (h2 : (c.pick 15).1 = 0) : endC l c = (l.set 0 (badC (fst0 l) ((c.pick 15).2.pick 3).1), ((c.pick 15).2.pick 3).2) := by rw [endC, if_pos h1, if_pos h2]
theorem endC_b {l : List (List UInt8)} {c : Cur} (h1 : (l.length : Int) > 0) (h2 : ¬ (c.pick 15).1 = 0) : endC l c = (l, (c.pick 15).2) := by rw [endC, if_pos h1, if_neg h2]
theorem endC_c {l : List (List UInt8)} {c : Cur} (h1 : ¬ (l.length : Int) > 0) : endC l c = (l, c) := if_neg h1
theorem badC_len (x : List UInt8) {i : Int} (h : 0 ≤ i ∧ i < 3) : (badC x i).length ≤ x.length + 1 := by
 have : i = 0 ∨ i = 1 ∨ i = 2 := by omega
 rcases this with rfl | rfl | rfl
 ·exact Nat.zero_le _
 ·show 1 ≤ _; omega
 ·show (x ++ [49]).length ≤ _; rw [List.length_append]; exact Nat.le_refl _
theorem bad_get (x : List UInt8) {i : Int} (h : 0 ≤ i ∧ i < 3) : ([[dS (bstr [])], [dS (bstr [120])], [dS (bstr (x ++ [49]))]] : List (List DV))[i.toNat]? = some [dS (bstr (badC x i))] := by
 have : i = 0 ∨ i = 1 ∨ i = 2 := by omega
 rcases this with rfl | rfl | rfl <;> rfl
theorem covN_in (n : Int) (hn : n ≤ 10) : ∀ (j : Nat) (c : Cur) (l : List (List UInt8)), (∀ x, x ∈ l → x.length = n.toNat) → (covN n j c l).1.length = l.length + j ∧ (∀ x, x ∈ (covN n j c l).1 → x.length = n.toNat) ∧ (covN n j c l).2.pos ≤ c.pos + 20 * j
 | 0, c, l, h => ⟨rfl, h, Nat.le_refl _⟩
 | j + 1, c, l, h => by
  have h1 := c.lits_in [48, 49, 45] n
  have h2 := covN_in n hn j (c.lits [48, 49, 45] n).2 (l ++ [(c.lits [48, 49, 45] n).1]) (fun x hx => by
   rcases List.mem_append.1 hx with q | q
   ·exact h x q
   ·rw [List.mem_singleton.1 q]; exact h1.1)
  simp only [List.length_append, List.length_cons, List.length_nil] at h2
  exact ⟨by show (covN n j _ _).1.length = _; omega, h2.2.1, by show (covN n j _ _).2.pos ≤ _; omega⟩
theorem cover_in (c : Cur) (n : Int) (hn : n ≤ 10) : (c.cover n).1.length ≤ 4 ∧ (∀ x, x ∈ (c.cover n).1 → x.length ≤ n.toNat + 1) ∧ (c.cover n).2.pos ≤ c.pos + 90 := by
 have h1 := c.pick_in 5 (by decide)
 have h2 := c.pick_pos 5
 have h3 := covN_in n hn (c.pick 5).1.toNat (c.pick 5).2 [] (fun x hx => absurd hx List.not_mem_nil)
 obtain ⟨R, hR⟩ : ∃ R, R = covN n (c.pick 5).1.toNat (c.pick 5).2 [] := ⟨_, rfl⟩
 rw [← hR] at h3
 have e : c.cover n = endC R.1 R.2 := by rw [hR]; rfl
 rw [e]
 simp only [List.length_nil] at h3
 have h4 := R.2.pick_pos 15
 have h5 := (R.2.pick 15).2.pick_pos 3
 have h6 := (R.2.pick 15).2.pick_in 3 (by decide)
 unfold endC
 split
 ·rename_i q
  split
  ·refine ⟨by rw [List.length_set]; omega, fun x hx => ?_, by dsimp only; omega⟩
   have hf := h3.2.1 _ (fst0_mem (l := R.1) (by omega))
   rcases List.mem_or_eq_of_mem_set hx with q | q
   ·have := h3.2.1 x q; omega
   ·have := badC_len (fst0 R.1) h6; rw [q]; omega
  ·exact ⟨by dsimp only; omega, fun x hx => by have := h3.2.1 x hx; omega, by dsimp only; omega⟩
 ·exact ⟨by dsimp only; omega, fun x hx => by have := h3.2.1 x hx; omega, by dsimp only; omega⟩
set_option maxHeartbeats 4000000 in
theorem curCover_spec (c : Cur) (n : Int) (hn : n ≤ 10) (hp : c.pos ≤ 10000000) : ASpec Tryz.prog 44 [.ptr 0 0, aI n] [(0, curC c)] (Fun1 (.own 1 (c.cover n).1.length) [(0, curC (c.cover n).2), (1, .arr 9 1 (strsL (c.cover n).1))]) := by
 have h1 := c.pick_in 5 (by decide)
 have h2 := c.pick_pos 5
 have hK := pick_spec c 5 (by decide) (by omega)
 have hR : c.cover n = endC (covN n (c.pick 5).1.toNat (c.pick 5).2 []).1 (covN n (c.pick 5).1.toNat (c.pick 5).2 []).2 := rfl
 obtain ⟨p, hpp⟩ : ∃ p, p = c.pick 5 := ⟨_, rfl⟩
 rw [← hpp] at h1 h2 hK hR
 obtain ⟨G, hG⟩ : ∃ G, G = c.cover n := ⟨_, rfl⟩
 rw [← hG] at hR ⊢
 clear hG hpp
 obtain ⟨j0, hj0⟩ : ∃ j0 : Nat, p.1 = j0 := ⟨p.1.toNat, by omega⟩
 rw [hj0] at hK hR h1
 rw [Int.toNat_natCast] at hR
 refine ASpec.of Tryz.func44 rfl rfl fun C hC => ?_
 refine AC.seq (AC.region ?_)
 refine AL.p (by exact as1 rfl) rfl ?_
 refine AL.nil (th_n (AC.seq (AC.region ?_)))
 refine AL.p (by exact as1 rfl) rfl ?_
 refine AL.nil (th_n (AC.seq (AC.seq (AC.region ?_))))
 refine AL.p (by exact mv3 rfl) rfl ?_
 refine AL.q (by exact h_fun (cs := [0]) en_pick rfl rfl (by repeat (first | exact rfl | exact DLead.same | refine ⟨_, _, rfl, ?_, ?_⟩ | refine ⟨_, rfl, ?_⟩)) (by repeat (first | exact True.intro | refine And.intro ?_ ?_ | exact DLead.same | exact rfl | refine ⟨_, _, rfl, rfl, ?_⟩ | refine ⟨_, rfl, ?_⟩ | refine ⟨_, _, rfl, ?_, ?_⟩)) hK rfl rfl rfl rfl) rfl ?_
 refine AL.p (by exact as1 rfl) rfl ?_
 refine AL.nil (th_n (AC.block ?_))
 refine AC.loop (ι := Nat × Cur × List (List UInt8)) (fun x => ⟨36, 300, [(0, .ptr 0 0), (1, aI n), (5, .own 100 x.2.2.length), (6, aI x.1)], [(0, some (curC x.2.1)), (100, some (.arr 9 1 (strsL x.2.2)))]⟩) (fun x => covN n x.1 x.2.1 x.2.2 = covN n j0 p.2 [] ∧ x.2.2.length + x.1 = j0 ∧ x.2.1.pos + 20 * x.1 ≤ p.2.pos + 20 * j0 ∧ ∀ y, y ∈ x.2.2 → y.length = n.toNat) (fun x => x.1) ((j0, p.2, [])) ?_ (⟨rfl, Nat.zero_add _, Nat.le_refl _, fun y hy => absurd hy List.not_mem_nil⟩) ?_
 ·exact (Weak.nilOwn (i := 5) (e := 9) (sz := 1) rfl (by decide)).trans (Weak.ren _ [(100, _)] hC rfl (by repeat (first | exact True.intro | refine And.intro ?_ ?_ | exact DLead.same | exact rfl | refine ⟨_, rfl, ?_⟩)) (by repeat (first | exact True.intro | refine And.intro ?_ ?_ | exact DLead.same | exact rfl | refine ⟨_, _, rfl, rfl, ?_⟩ | refine ⟨_, rfl, ?_⟩ | refine ⟨_, _, rfl, ?_, ?_⟩)) rfl rfl rfl)
 ·rintro ⟨j, cc, l⟩ ⟨hsub, hln, hpos, hall⟩
  dsimp only at hsub hln hpos hall ⊢
  refine AC.seq (AC.seq (AC.region ?_))
  refine AL.p (by exact mv1 rfl) rfl ?_
  refine AL.p (by exact g_cmp rfl rfl rfl) rfl ?_
  refine AL.nil (th_n ?_)
  refine AC.condD rfl (fun h0 => ?_) (fun h0 => ?_)
  ·refine AC.skip (th_n (AC.seq (AC.block ?_)))
   obtain ⟨j, rfl⟩ : ∃ i, j = i + 1 := ⟨j - 1, by omega⟩
   have hcu := cube_spec cc n (by omega) (by omega)
   have hli := cc.lits_in [48, 49, 45] n
   have hsub2 : covN n j (cc.lits [48, 49, 45] n).2 (l ++ [(cc.lits [48, 49, 45] n).1]) = covN n j0 p.2 [] := hsub
   obtain ⟨Q, hQ⟩ : ∃ Q, Q = cc.lits [48, 49, 45] n := ⟨_, rfl⟩
   rw [← hQ] at hcu hli hsub2
   have hall2 : ∀ y, y ∈ l ++ [Q.1] → y.length = n.toNat := fun y hy => (List.mem_append.1 hy).elim (hall y) (fun q => by rw [List.mem_singleton.1 q]; exact hli.1)
   refine AC.region ?_
   refine AL.p (by exact mv2 rfl) rfl ?_
   refine AL.p (by exact mv3 rfl) rfl ?_
   refine AL.p (by exact mv1 rfl) rfl ?_
   refine AL.q (by exact h_fun (cs := [0]) en_cube rfl rfl (by repeat (first | exact rfl | exact DLead.same | refine ⟨_, _, rfl, ?_, ?_⟩ | refine ⟨_, rfl, ?_⟩)) (by repeat (first | exact True.intro | refine And.intro ?_ ?_ | exact DLead.same | exact rfl | refine ⟨_, _, rfl, rfl, ?_⟩ | refine ⟨_, rfl, ?_⟩ | refine ⟨_, _, rfl, ?_, ?_⟩)) hcu rfl rfl rfl rfl) rfl ?_
   refine AL.q (by exact h_litF rfl rfl rfl rfl rfl rfl rfl rfl) rfl ?_
   refine AL.q (by exact h_appendSt l [Q.1] (.own rfl rfl (strsL_len _).symm) (.view rfl) (by rw [List.length_append]; simp only [List.length_cons, List.length_nil]; omega) (by simp)) rfl ?_
   refine AL.p (by exact as2 rfl) rfl ?_
   refine AL.nil (ib_n (th_n (AC.region ?_)))
   refine AL.p (by exact mv1 rfl) rfl ?_
   refine AL.p (by exact g_arith rfl rfl rfl (by exact wrap_i64 (by omega))) rfl ?_
   refine AL.p (by exact as1 rfl) rfl ?_
   refine AL.nil (th_n ?_)
   exact ⟨(j, Q.2, l ++ [Q.1]), ⟨hsub2, by rw [List.length_append]; simp only [List.length_cons, List.length_nil]; omega, by dsimp only; omega, hall2⟩, by dsimp only; omega, Weak.ren _ [(100, _)] hC rfl (by repeat (first | exact True.intro | refine And.intro ?_ ?_ | exact DLead.same | exact DLead.eqI (by omega) | exact rfl | refine ⟨_, rfl, ?_⟩)) (by repeat (first | exact True.intro | refine And.intro ?_ ?_ | exact DLead.same | exact rfl | refine ⟨_, _, rfl, rfl, ?_⟩ | refine ⟨_, rfl, ?_⟩ | refine ⟨_, _, rfl, ?_, ?_⟩)) rfl rfl rfl⟩
  ·refine AC.exit (th_e (th_e (ib_y (th_n (AC.seq (AC.seq ?_))))))
   have hj : j = 0 := by omega
   subst hj
   have e : G = endC l cc := by rw [hR, ← hsub]; rfl
   have hO := one_spec cc 15 (by decide) (by omega)
   have ho1 := cc.pick_pos 15
   have hea := endC_a (l := l) (c := cc)
   have heb := endC_b (l := l) (c := cc)
   have hec := endC_c (l := l) (c := cc)
   obtain ⟨o, ho⟩ : ∃ o, o = cc.pick 15 := ⟨_, rfl⟩
   rw [← ho] at hO ho1 hea heb
   have hin3 := o.2.pick_in 3 (by decide)
   have hfl : (l.length : Int) > 0 → (fst0 l).length = n.toNat := fun h => hall _ (fst0_mem (by omega))
   have hf0 : (l.length : Int) > 0 → (strsL l)[0]? = some [dS (bstr (fst0 l))] := fun h => fst0_at (by omega)
   have hP := of_spec o.2 [[dS (bstr [])], [dS (bstr [120])], [dS (bstr (fst0 l ++ [49]))]] (bstr (badC (fst0 l) (o.2.pick 3).1)) (by show 0 < 3; omega) (by show 3 ≤ 65536; omega) (by omega) (bad_get (fst0 l) hin3)
   obtain ⟨B, hB⟩ : ∃ B, B = badC (fst0 l) (o.2.pick 3).1 := ⟨_, rfl⟩
   obtain ⟨z, hz⟩ : ∃ z, z = o.2.pick ([[dS (bstr [])], [dS (bstr [120])], [dS (bstr (fst0 l ++ [49]))]] : List (List DV)).length := ⟨_, rfl⟩
   rw [← hz] at hP
   rw [show o.2.pick 3 = z from hz.symm] at hea hP hB
   rw [← hB] at hea hP
   refine AC.region ?_
   refine AL.p (by exact mv2 rfl) rfl ?_
   refine AL.p (by exact g_len_own (sz := 1) (els := []) (e' := 0) rfl rfl (by simp only [maxLen]; omega)) rfl ?_
   refine AL.p (by exact g_cmp rfl rfl rfl) rfl ?_
   refine AL.p (by exact mv1 rfl) rfl ?_
   refine AL.caseG rfl rfl (fun h1 => ?_) (fun h1 => ?_)
   ·refine AL.yes rfl rfl rfl ?_
    refine AL.p (by exact mv3 rfl) rfl ?_
    refine AL.yes rfl rfl rfl ?_
    refine AL.q (by exact h_fun (cs := [0]) en_one rfl rfl (by repeat (first | exact rfl | exact DLead.same | refine ⟨_, _, rfl, ?_, ?_⟩ | refine ⟨_, rfl, ?_⟩)) (by repeat (first | exact True.intro | refine And.intro ?_ ?_ | exact DLead.same | exact rfl | refine ⟨_, _, rfl, rfl, ?_⟩ | refine ⟨_, rfl, ?_⟩ | refine ⟨_, _, rfl, ?_, ?_⟩)) hO rfl rfl rfl rfl) rfl ?_
    refine AL.p (by exact g_pickT (r := .d _) rfl rfl) rfl ?_
    refine AL.nil (th_n ?_)
    refine AC.condD rfl (fun h2 => ?_) (fun h2 => ?_)
    ·have hl0 := hf0 h1
     have hln1 := hfl h1
     have hset : strsL (l.set 0 B) = (strsL l).set 0 [dS (bstr B)] := by unfold strsL; rw [List.map_set]
     refine AC.region ?_
     refine AL.p (by exact mv2 rfl) rfl ?_
     refine AL.p (by exact mv3 rfl) rfl ?_
     refine AL.p (by exact mv2 rfl) rfl ?_
     refine AL.p (by exact g_ia_own (i := 0) (l := l.length) rfl rfl rfl rfl rfl rfl (by omega) rfl) rfl ?_
     refine AL.p (by exact g_load_arr1 rfl rfl rfl rfl hl0) rfl ?_
     refine AL.p (by exact g_saddB (a := fst0 l) (b := [49]) rfl rfl (by simp only [List.length_cons, List.length_nil]; omega)) rfl ?_
     refine AL.q (by exact h_litF rfl rfl rfl rfl rfl rfl rfl rfl) rfl ?_
     refine AL.q (by exact h_fun (cs := [0]) en_of rfl rfl (by repeat (first | exact rfl | exact DLead.same | refine ⟨_, _, rfl, ?_, ?_⟩ | refine ⟨_, rfl, ?_⟩)) (by repeat (first | exact True.intro | refine And.intro ?_ ?_ | exact DLead.same | exact rfl | refine ⟨_, _, rfl, rfl, ?_⟩ | refine ⟨_, rfl, ?_⟩ | refine ⟨_, _, rfl, ?_, ?_⟩)) hP rfl rfl rfl rfl) rfl ?_
     refine AL.p (by exact g_ia_own (i := 0) (l := l.length) rfl rfl rfl rfl rfl rfl (by omega) rfl) rfl ?_
     refine AL.q (by exact h_store_arr (i := 0) (j := 0) (d := dS (bstr B)) rfl rfl rfl rfl .same rfl hl0 (by decide)) rfl ?_
     refine AL.nil (th_n (AC.seq (AC.region ?_)))
     refine AL.p (by exact mv2 rfl) rfl ?_
     refine AL.p (by exact as2 rfl) rfl ?_
     refine AL.nil (th_n (AC.ret (bq_r ?_)))
     (have e2 := e.trans (hea h1 h2); exact retN [(1, 100)] rfl (by rw [e2, List.length_set]; repeat (first | exact rfl | refine ⟨_, rfl, ?_⟩)) (by rw [e2, hset]; repeat (first | exact True.intro | refine And.intro ?_ ?_ | exact DLead.same | exact rfl | refine ⟨_, _, rfl, rfl, ?_⟩ | refine ⟨_, rfl, ?_⟩ | refine ⟨_, _, rfl, ?_, ?_⟩)) rfl rfl)
    ·refine AC.skip (th_n (AC.seq (AC.region ?_)))
     refine AL.p (by exact mv2 rfl) rfl ?_
     refine AL.p (by exact as2 rfl) rfl ?_
     refine AL.nil (th_n (AC.ret (bq_r ?_)))
     (have e2 := e.trans (heb h1 h2); exact retN [(1, 100)] rfl (by rw [e2]; repeat (first | exact rfl | refine ⟨_, rfl, ?_⟩)) (by rw [e2]; repeat (first | exact True.intro | refine And.intro ?_ ?_ | exact DLead.same | exact rfl | refine ⟨_, _, rfl, rfl, ?_⟩ | refine ⟨_, rfl, ?_⟩ | refine ⟨_, _, rfl, ?_, ?_⟩)) rfl rfl)
   ·refine AL.not rfl rfl rfl rfl rfl ?_
    refine AL.not rfl rfl rfl rfl rfl ?_
    refine AL.p (by exact g_pickF (r := .d _) rfl rfl) rfl ?_
    refine AL.nil (th_n ?_)
    refine AC.condF rfl ?_
    refine AC.skip (th_n (AC.seq (AC.region ?_)))
    refine AL.p (by exact mv2 rfl) rfl ?_
    refine AL.p (by exact as2 rfl) rfl ?_
    refine AL.nil (th_n (AC.ret (bq_r ?_)))
    (have e2 := e.trans (hec h1); exact retN [(1, 100)] rfl (by rw [e2]; repeat (first | exact rfl | refine ⟨_, rfl, ?_⟩)) (by rw [e2]; repeat (first | exact True.intro | refine And.intro ?_ ?_ | exact DLead.same | exact rfl | refine ⟨_, _, rfl, rfl, ?_⟩ | refine ⟨_, rfl, ?_⟩ | refine ⟨_, _, rfl, ?_, ?_⟩)) rfl rfl)
theorem en_curCover : Enters Tryz.prog 44 := enters_of Tryz.func44 rfl rfl
set_option maxHeartbeats 2000000 in
theorem sDrawCov_ex (code : List UInt8) : ∃ (n : Int) (l : List (List UInt8)), (1 ≤ n ∧ n ≤ 5) ∧ l.length ≤ 4 ∧ (∀ x, x ∈ l → x.length ≤ 10) ∧ ASpec Tryz.prog 26 [.d (vB code)] [] (Pure1 (.tup [aI n, .d (vSs l)])) := by
 have hp0 : (cur0 code).pos = 0 := rfl
 have h1 := (cur0 code).pick_in 4 (by decide)
 have h2 := (cur0 code).pick_pos 4
 have hK1 := pick_spec (cur0 code) 4 (by decide) (by omega)
 obtain ⟨p, hp⟩ : ∃ p, p = (cur0 code).pick 4 := ⟨_, rfl⟩
 rw [← hp] at h1 h2 hK1
 obtain ⟨n, hn⟩ : ∃ n, n = 1 + p.1 := ⟨_, rfl⟩
 have hA := cover_in p.2 n (by omega)
 have hK2 := curCover_spec p.2 n (by omega) (by omega)
 obtain ⟨A, hAA⟩ : ∃ A, A = p.2.cover n := ⟨_, rfl⟩
 rw [← hAA] at hA hK2
 have h3 := A.2.pick_in 15 (by decide)
 have hK3 := pick_spec A.2 15 (by decide) (by omega)
 obtain ⟨q, hq⟩ : ∃ q, q = A.2.pick 15 := ⟨_, rfl⟩
 rw [← hq] at h3 hK3
 have hd : 0 ≤ q.1.tdiv 14 ∧ q.1.tdiv 14 ≤ 1 := by rw [Int.tdiv_eq_ediv_of_nonneg h3.1]; omega
 refine ⟨n + q.1.tdiv 14, A.1, by omega, hA.1, fun x hx => by have := hA.2.1 x hx; omega, ?_⟩
 refine ASpec.of Tryz.func26 rfl rfl fun C hC => ?_
 refine AC.seq (AC.region ?_)
 refine AL.p (by exact as1 rfl) rfl ?_
 refine AL.p (by exact as1 rfl) rfl ?_
 refine AL.nil (th_n (AC.seq (AC.region ?_)))
 refine AL.p (by exact mv1 rfl) rfl ?_
 refine AL.p (by exact g_build rfl rfl rfl) rfl ?_
 refine AL.q (by exact h_box rfl) rfl ?_
 refine AL.p (by exact as3 rfl) rfl ?_
 refine AL.nil (th_n (AC.seq (AC.region ?_)))
 refine AL.p (by exact mv3 rfl) rfl ?_
 refine AL.q (by exact h_fun (cs := [0]) en_pick rfl rfl (by repeat (first | exact rfl | exact DLead.same | refine ⟨_, _, rfl, ?_, ?_⟩ | refine ⟨_, rfl, ?_⟩)) (by repeat (first | exact True.intro | refine And.intro ?_ ?_ | exact DLead.same | exact rfl | refine ⟨_, _, rfl, rfl, ?_⟩ | refine ⟨_, rfl, ?_⟩ | refine ⟨_, _, rfl, ?_, ?_⟩)) hK1 rfl rfl rfl rfl) rfl ?_
 refine AL.p (by exact g_arith rfl rfl rfl (by exact wrap_i64 (by omega))) rfl ?_
 refine AL.p (by exact as1 rfl) rfl ?_
 refine AL.nil (th_n (AC.seq ?_))
 rw [← hn]
 refine AC.region ?_
 refine AL.p (by exact mv3 rfl) rfl ?_
 refine AL.p (by exact mv1 rfl) rfl ?_
 refine AL.q (by exact h_fun (cs := [0]) en_curCover rfl rfl (by repeat (first | exact rfl | exact DLead.same | refine ⟨_, _, rfl, ?_, ?_⟩ | refine ⟨_, rfl, ?_⟩)) (by repeat (first | exact True.intro | refine And.intro ?_ ?_ | exact DLead.same | exact rfl | refine ⟨_, _, rfl, rfl, ?_⟩ | refine ⟨_, rfl, ?_⟩ | refine ⟨_, _, rfl, ?_, ?_⟩)) hK2 rfl rfl rfl rfl) rfl ?_
 refine AL.weak (Weak.freeze (i := 15) rfl rfl (ownl _ _) (ownt _ _)) ?_
 refine AL.p (by exact as1 rfl) rfl ?_
 refine AL.nil (th_n (AC.seq (AC.region ?_)))
 refine AL.p (by exact mv1 rfl) rfl ?_
 refine AL.p (by exact mv3 rfl) rfl ?_
 refine AL.q (by exact h_fun (cs := [0]) en_pick rfl rfl (by repeat (first | exact rfl | exact DLead.same | refine ⟨_, _, rfl, ?_, ?_⟩ | refine ⟨_, rfl, ?_⟩)) (by repeat (first | exact True.intro | refine And.intro ?_ ?_ | exact DLead.same | exact rfl | refine ⟨_, _, rfl, rfl, ?_⟩ | refine ⟨_, rfl, ?_⟩ | refine ⟨_, _, rfl, ?_, ?_⟩)) hK3 rfl rfl rfl rfl) rfl ?_
 refine AL.p (by exact g_quo rfl rfl (by decide) (by exact wrap_i64 (by omega))) rfl ?_
 refine AL.p (by exact g_arith rfl rfl rfl (by exact wrap_i64 (by omega))) rfl ?_
 refine AL.p (by exact mv1 rfl) rfl ?_
 refine AL.p (by exact as1 rfl) rfl ?_
 refine AL.p (by exact as1 rfl) rfl ?_
 refine AL.nil (th_n (AC.ret (bq_r ?_)))
 exact ret0 rfl (by repeat (first | exact DLead.same | exact rfl | refine ⟨_, rfl, ?_⟩ | refine ⟨_, _, rfl, ?_, ?_⟩))
theorem en_sDrawCov : Enters Tryz.prog 26 := enters_of Tryz.func26 rfl rfl
theorem sDrawMint_ex (code : List UInt8) : ∃ (n : Int) (l : List (List UInt8)), (1 ≤ n ∧ n ≤ 5) ∧ l.length ≤ 4 ∧ (∀ x, x ∈ l → x.length ≤ 10) ∧ ASpec Tryz.prog 5 [.d (vB code)] [] (Pure1 (.tup [aI n, .d (vSs l)])) := by
 obtain ⟨n, l, hn, hl, hx, hK⟩ := sDrawCov_ex code
 refine ⟨n, l, hn, hl, hx, ?_⟩
 refine ASpec.of Tryz.func5 rfl rfl fun C hC => ?_
 refine AC.seq (AC.region ?_)
 refine AL.p (by exact as1 rfl) rfl ?_
 refine AL.p (by exact as1 rfl) rfl ?_
 refine AL.nil (th_n (AC.seq (AC.region ?_)))
 refine AL.p (by exact mv1 rfl) rfl ?_
 refine AL.q (by exact h_pure en_sDrawCov rfl rfl (by repeat (first | exact rfl | exact DLead.same | refine ⟨_, _, rfl, ?_, ?_⟩)) hK rfl) rfl ?_
 refine AL.p (by exact g_extract (r := .d _) rfl rfl) rfl ?_
 refine AL.p (by exact g_extract (r := .d _) rfl rfl) rfl ?_
 refine AL.p (by exact as1 rfl) rfl ?_
 refine AL.p (by exact as1 rfl) rfl ?_
 refine AL.nil (th_n (AC.ret (bq_r ?_)))
 exact ret0 rfl (by repeat (first | exact DLead.same | exact rfl | refine ⟨_, rfl, ?_⟩ | refine ⟨_, _, rfl, ?_, ?_⟩))
theorem en_sDrawMint : Enters Tryz.prog 5 := enters_of Tryz.func5 rfl rfl
set_option maxHeartbeats 2000000 in
theorem sDrawCofac_ex (code : List UInt8) : ∃ (l : List (List UInt8)) (sig : Int) (up : Bool), l.length ≤ 4 ∧ (∀ x, x ∈ l → x.length ≤ 10) ∧ (-1 ≤ sig ∧ sig ≤ 4) ∧ ASpec Tryz.prog 17 [.d (vB code)] [] (Pure1 (.tup [.d (vSs l), aI sig, aT up])) := by
 have hp0 : (cur0 code).pos = 0 := rfl
 obtain ⟨n, l, hn, hl, hx, hK⟩ := sDrawCov_ex code
 have h1 := (cur0 code).pick_in 5 (by decide)
 have h2 := (cur0 code).pick_pos 5
 have hK1 := pick_spec (cur0 code) 5 (by decide) (by omega)
 obtain ⟨p, hp⟩ : ∃ p, p = (cur0 code).pick 5 := ⟨_, rfl⟩
 rw [← hp] at h1 h2 hK1
 have h3 := p.2.pick_in 20 (by decide)
 have h4 := p.2.pick_pos 20
 have hK2 := pick_spec p.2 20 (by decide) (by omega)
 obtain ⟨q, hq⟩ : ∃ q, q = p.2.pick 20 := ⟨_, rfl⟩
 rw [← hq] at h3 h4 hK2
 have hd : 0 ≤ q.1.tdiv 19 ∧ q.1.tdiv 19 ≤ 1 := by rw [Int.tdiv_eq_ediv_of_nonneg h3.1]; omega
 have hK3 := one_spec q.2 2 (by decide) (by omega)
 refine ⟨l, p.1 - q.1.tdiv 19, decide ((q.2.pick 2).1 = 0), hl, hx, by omega, ?_⟩
 refine ASpec.of Tryz.func17 rfl rfl fun C hC => ?_
 refine AC.seq (AC.region ?_)
 refine AL.p (by exact as1 rfl) rfl ?_
 refine AL.p (by exact as1 rfl) rfl ?_
 refine AL.p (by exact as1 rfl) rfl ?_
 refine AL.nil (th_n (AC.seq (AC.region ?_)))
 refine AL.p (by exact mv1 rfl) rfl ?_
 refine AL.p (by exact g_build rfl rfl rfl) rfl ?_
 refine AL.q (by exact h_box rfl) rfl ?_
 refine AL.p (by exact as3 rfl) rfl ?_
 refine AL.nil (th_n (AC.seq (AC.region ?_)))
 refine AL.p (by exact mv1 rfl) rfl ?_
 refine AL.q (by exact h_pure en_sDrawCov rfl rfl (by repeat (first | exact rfl | exact DLead.same | refine ⟨_, _, rfl, ?_, ?_⟩)) hK rfl) rfl ?_
 refine AL.p (by exact mv5 rfl) rfl ?_
 refine AL.p (by exact g_extract (r := .d _) rfl rfl) rfl ?_
 refine AL.p (by exact g_extract (r := .d _) rfl rfl) rfl ?_
 refine AL.p (by exact as1 rfl) rfl ?_
 refine AL.p (by exact as1 rfl) rfl ?_
 refine AL.nil (th_n (AC.seq (AC.region ?_)))
 refine AL.p (by exact mv1 rfl) rfl ?_
 refine AL.p (by exact mv3 rfl) rfl ?_
 refine AL.q (by exact h_fun (cs := [0]) en_pick rfl rfl (by repeat (first | exact rfl | exact DLead.same | refine ⟨_, _, rfl, ?_, ?_⟩ | refine ⟨_, rfl, ?_⟩)) (by repeat (first | exact True.intro | refine And.intro ?_ ?_ | exact DLead.same | exact rfl | refine ⟨_, _, rfl, rfl, ?_⟩ | refine ⟨_, rfl, ?_⟩ | refine ⟨_, _, rfl, ?_, ?_⟩)) hK1 rfl rfl rfl rfl) rfl ?_
 refine AL.p (by exact mv3 rfl) rfl ?_
 refine AL.q (by exact h_fun (cs := [0]) en_pick rfl rfl (by repeat (first | exact rfl | exact DLead.same | refine ⟨_, _, rfl, ?_, ?_⟩ | refine ⟨_, rfl, ?_⟩)) (by repeat (first | exact True.intro | refine And.intro ?_ ?_ | exact DLead.same | exact rfl | refine ⟨_, _, rfl, rfl, ?_⟩ | refine ⟨_, rfl, ?_⟩ | refine ⟨_, _, rfl, ?_, ?_⟩)) hK2 rfl rfl rfl rfl) rfl ?_
 refine AL.p (by exact g_quo rfl rfl (by decide) (by exact wrap_i64 (by omega))) rfl ?_
 refine AL.p (by exact g_arith rfl rfl rfl (by exact wrap_i64 (by omega))) rfl ?_
 refine AL.p (by exact mv3 rfl) rfl ?_
 refine AL.q (by exact h_fun (cs := [0]) en_one rfl rfl (by repeat (first | exact rfl | exact DLead.same | refine ⟨_, _, rfl, ?_, ?_⟩ | refine ⟨_, rfl, ?_⟩)) (by repeat (first | exact True.intro | refine And.intro ?_ ?_ | exact DLead.same | exact rfl | refine ⟨_, _, rfl, rfl, ?_⟩ | refine ⟨_, rfl, ?_⟩ | refine ⟨_, _, rfl, ?_, ?_⟩)) hK3 rfl rfl rfl rfl) rfl ?_
 refine AL.p (by exact as1 rfl) rfl ?_
 refine AL.p (by exact as1 rfl) rfl ?_
 refine AL.p (by exact as1 rfl) rfl ?_
 refine AL.nil (th_n (AC.ret (bq_r ?_)))
 exact ret0 rfl (by repeat (first | exact DLead.same | exact rfl | refine ⟨_, rfl, ?_⟩ | refine ⟨_, _, rfl, ?_, ?_⟩))
theorem en_sDrawCofac : Enters Tryz.prog 17 := enters_of Tryz.func17 rfl rfl
set_option maxHeartbeats 2000000 in
theorem sDrawCovHas_ex (code : List UInt8) : ∃ (l : List (List UInt8)) (x : List UInt8), l.length ≤ 4 ∧ (∀ x, x ∈ l → x.length ≤ 10) ∧ x.length ≤ 10 ∧ ASpec Tryz.prog 19 [.d (vB code)] [] (Pure1 (.tup [.d (vSs l), aS (bstr x)])) := by
 have hp0 : (cur0 code).pos = 0 := rfl
 have h1 := (cur0 code).pick_in 4 (by decide)
 have h2 := (cur0 code).pick_pos 4
 have hK1 := pick_spec (cur0 code) 4 (by decide) (by omega)
 obtain ⟨p, hp⟩ : ∃ p, p = (cur0 code).pick 4 := ⟨_, rfl⟩
 rw [← hp] at h1 h2 hK1
 obtain ⟨n, hn⟩ : ∃ n, n = 1 + p.1 := ⟨_, rfl⟩
 have hA := cover_in p.2 n (by omega)
 have hK2 := curCover_spec p.2 n (by omega) (by omega)
 obtain ⟨A, hAA⟩ : ∃ A, A = p.2.cover n := ⟨_, rfl⟩
 rw [← hAA] at hA hK2
 have hB := A.2.lits_in [48, 49] n
 have hK3 := code1_spec A.2 n (by omega) (by omega)
 obtain ⟨B, hBB⟩ : ∃ B, B = A.2.lits [48, 49] n := ⟨_, rfl⟩
 rw [← hBB] at hB hK3
 refine ⟨A.1, B.1, hA.1, fun x hx => by have := hA.2.1 x hx; omega, by omega, ?_⟩
 refine ASpec.of Tryz.func19 rfl rfl fun C hC => ?_
 refine AC.seq (AC.region ?_)
 refine AL.p (by exact as1 rfl) rfl ?_
 refine AL.p (by exact as1 rfl) rfl ?_
 refine AL.nil (th_n (AC.seq (AC.region ?_)))
 refine AL.p (by exact mv1 rfl) rfl ?_
 refine AL.p (by exact g_build rfl rfl rfl) rfl ?_
 refine AL.q (by exact h_box rfl) rfl ?_
 refine AL.p (by exact as3 rfl) rfl ?_
 refine AL.nil (th_n (AC.seq (AC.region ?_)))
 refine AL.p (by exact mv3 rfl) rfl ?_
 refine AL.q (by exact h_fun (cs := [0]) en_pick rfl rfl (by repeat (first | exact rfl | exact DLead.same | refine ⟨_, _, rfl, ?_, ?_⟩ | refine ⟨_, rfl, ?_⟩)) (by repeat (first | exact True.intro | refine And.intro ?_ ?_ | exact DLead.same | exact rfl | refine ⟨_, _, rfl, rfl, ?_⟩ | refine ⟨_, rfl, ?_⟩ | refine ⟨_, _, rfl, ?_, ?_⟩)) hK1 rfl rfl rfl rfl) rfl ?_
 refine AL.p (by exact g_arith rfl rfl rfl (by exact wrap_i64 (by omega))) rfl ?_
 refine AL.p (by exact as1 rfl) rfl ?_
 refine AL.nil (th_n (AC.seq ?_))
 rw [← hn]
 refine AC.region ?_
 refine AL.p (by exact mv3 rfl) rfl ?_
 refine AL.p (by exact mv1 rfl) rfl ?_
 refine AL.q (by exact h_fun (cs := [0]) en_curCover rfl rfl (by repeat (first | exact rfl | exact DLead.same | refine ⟨_, _, rfl, ?_, ?_⟩ | refine ⟨_, rfl, ?_⟩)) (by repeat (first | exact True.intro | refine And.intro ?_ ?_ | exact DLead.same | exact rfl | refine ⟨_, _, rfl, rfl, ?_⟩ | refine ⟨_, rfl, ?_⟩ | refine ⟨_, _, rfl, ?_, ?_⟩)) hK2 rfl rfl rfl rfl) rfl ?_
 refine AL.weak (Weak.freeze (i := 14) rfl rfl (ownl _ _) (ownt _ _)) ?_
 refine AL.p (by exact mv3 rfl) rfl ?_
 refine AL.p (by exact mv1 rfl) rfl ?_
 refine AL.q (by exact h_fun (cs := [0]) en_code1 rfl rfl (by repeat (first | exact rfl | exact DLead.same | refine ⟨_, _, rfl, ?_, ?_⟩ | refine ⟨_, rfl, ?_⟩)) (by repeat (first | exact True.intro | refine And.intro ?_ ?_ | exact DLead.same | exact rfl | refine ⟨_, _, rfl, rfl, ?_⟩ | refine ⟨_, rfl, ?_⟩ | refine ⟨_, _, rfl, ?_, ?_⟩)) hK3 rfl rfl rfl rfl) rfl ?_
 refine AL.p (by exact as1 rfl) rfl ?_
 refine AL.p (by exact as1 rfl) rfl ?_
 refine AL.nil (th_n (AC.ret (bq_r ?_)))
 exact ret0 rfl (by repeat (first | exact DLead.same | exact rfl | refine ⟨_, rfl, ?_⟩ | refine ⟨_, _, rfl, ?_, ?_⟩))
theorem en_sDrawCovHas : Enters Tryz.prog 19 := enters_of Tryz.func19 rfl rfl
set_option maxHeartbeats 4000000 in
theorem sDrawEquiv_ex (code : List UInt8) : ∃ (n : Int) (a b : List (List UInt8)), (1 ≤ n ∧ n ≤ 5) ∧ a.length ≤ 300 ∧ (∀ x, x ∈ a → x.length ≤ 10) ∧ b.length ≤ 300 ∧ (∀ x, x ∈ b → x.length ≤ 10) ∧ ASpec Tryz.prog 21 [.d (vB code)] [] (Pure1 (.tup [aI n, .d (vSs a), .d (vSs b)])) := by
 have hp0 : (cur0 code).pos = 0 := rfl
 have h1 := (cur0 code).pick_in 4 (by decide)
 have h2 := (cur0 code).pick_pos 4
 have hK1 := pick_spec (cur0 code) 4 (by decide) (by omega)
 obtain ⟨p, hp⟩ : ∃ p, p = (cur0 code).pick 4 := ⟨_, rfl⟩
 rw [← hp] at h1 h2 hK1
 obtain ⟨n, hn⟩ : ∃ n, n = 1 + p.1 := ⟨_, rfl⟩
 have hA := cover_in p.2 n (by omega)
 have hK2 := curCover_spec p.2 n (by omega) (by omega)
 obtain ⟨A, hAA⟩ : ∃ A, A = p.2.cover n := ⟨_, rfl⟩
 rw [← hAA] at hA hK2
 have h4 := A.2.pick_pos 2
 have hK3 := one_spec A.2 2 (by decide) (by omega)
 obtain ⟨o, ho⟩ : ∃ o, o = A.2.pick 2 := ⟨_, rfl⟩
 rw [← ho] at h4 hK3
 have hA10 : ∀ x, x ∈ A.1 → x.length ≤ 10 := fun x hx => by have := hA.2.1 x hx; omega
 have hV := l13Good_spec n A.1 (by omega) (fun x hx => by have := hA10 x hx; omega)
 have hin := cvB_n (n := n) (l := A.1)
 obtain ⟨v, hv⟩ : ∃ v, v = cvB n A.1 := ⟨_, rfl⟩
 rw [← hv] at hV hin
 have hD := cover_in o.2 n (by omega)
 have hK5 := curCover_spec o.2 n (by omega) (by omega)
 obtain ⟨D, hDD⟩ : ∃ D, D = o.2.cover n := ⟨_, rfl⟩
 rw [← hDD] at hD hK5
 obtain ⟨g, hg⟩ : ∃ g : Bool, g = (decide (o.1 = 0) && v) := ⟨_, rfl⟩
 have hM : v = true → (mintL n.toNat A.1).length ≤ 256 ∧ (∀ x, x ∈ mintL n.toNat A.1 → x.length ≤ 8) ∧ ASpec Tryz.prog 29 [aI n, .d (vSs A.1)] [] (Pure1 (.d (vSs (mintL n.toNat A.1)))) := by
  intro q
  obtain ⟨m, hm, hm1, hm2, hml⟩ := hin q
  subst hm
  rw [Int.toNat_natCast]
  have := mintL_len m A.1
  have := pow_le256 (Nat.le_refl m) hm2
  exact ⟨by omega, fun x hx => by have := (codesN_mem m x (List.mem_filter.1 hx).1).1; omega, l13CodesIn_spec m A.1 hm2 (by omega) hml⟩
 obtain ⟨M, hMM⟩ : ∃ M, M = mintL n.toNat A.1 := ⟨_, rfl⟩
 rw [← hMM] at hM
 have hgv : g = true → v = true := fun h => by rw [h] at hg; exact ((Bool.and_eq_true _ _).mp hg.symm).2
 refine ⟨n, A.1, if g = true then M else D.1, by omega, by omega, hA10, ?_, ?_, ?_⟩
 ·split
  ·rename_i q; have := (hM (hgv q)).1; omega
  ·omega
 ·split
  ·rename_i q; exact fun x hx => by have := (hM (hgv q)).2.1 x hx; omega
  ·exact fun x hx => by have := hD.2.1 x hx; omega
 refine ASpec.of Tryz.func21 rfl rfl fun C hC => ?_
 refine AC.seq (AC.region ?_)
 refine AL.p (by exact as1 rfl) rfl ?_
 refine AL.p (by exact as1 rfl) rfl ?_
 refine AL.p (by exact as1 rfl) rfl ?_
 refine AL.nil (th_n (AC.seq (AC.region ?_)))
 refine AL.p (by exact mv1 rfl) rfl ?_
 refine AL.p (by exact g_build rfl rfl rfl) rfl ?_
 refine AL.q (by exact h_box rfl) rfl ?_
 refine AL.p (by exact as3 rfl) rfl ?_
 refine AL.nil (th_n (AC.seq (AC.region ?_)))
 refine AL.p (by exact mv3 rfl) rfl ?_
 refine AL.q (by exact h_fun (cs := [0]) en_pick rfl rfl (by repeat (first | exact rfl | exact DLead.same | refine ⟨_, _, rfl, ?_, ?_⟩ | refine ⟨_, rfl, ?_⟩)) (by repeat (first | exact True.intro | refine And.intro ?_ ?_ | exact DLead.same | exact rfl | refine ⟨_, _, rfl, rfl, ?_⟩ | refine ⟨_, rfl, ?_⟩ | refine ⟨_, _, rfl, ?_, ?_⟩)) hK1 rfl rfl rfl rfl) rfl ?_
 refine AL.p (by exact g_arith rfl rfl rfl (by exact wrap_i64 (by omega))) rfl ?_
 refine AL.p (by exact as1 rfl) rfl ?_
 refine AL.nil (th_n (AC.seq ?_))
 rw [← hn]
 refine AC.region ?_
 refine AL.p (by exact mv3 rfl) rfl ?_
 refine AL.p (by exact mv1 rfl) rfl ?_
 refine AL.q (by exact h_fun (cs := [0]) en_curCover rfl rfl (by repeat (first | exact rfl | exact DLead.same | refine ⟨_, _, rfl, ?_, ?_⟩ | refine ⟨_, rfl, ?_⟩)) (by repeat (first | exact True.intro | refine And.intro ?_ ?_ | exact DLead.same | exact rfl | refine ⟨_, _, rfl, rfl, ?_⟩ | refine ⟨_, rfl, ?_⟩ | refine ⟨_, _, rfl, ?_, ?_⟩)) hK2 rfl rfl rfl rfl) rfl ?_
 refine AL.weak (Weak.freeze (i := 16) rfl rfl (ownl _ _) (ownt _ _)) ?_
 refine AL.p (by exact as1 rfl) rfl ?_
 refine AL.nil (th_n (AC.seq (AC.seq (AC.region ?_))))
 refine AL.p (by exact mv3 rfl) rfl ?_
 refine AL.q (by exact h_fun (cs := [0]) en_one rfl rfl (by repeat (first | exact rfl | exact DLead.same | refine ⟨_, _, rfl, ?_, ?_⟩ | refine ⟨_, rfl, ?_⟩)) (by repeat (first | exact True.intro | refine And.intro ?_ ?_ | exact DLead.same | exact rfl | refine ⟨_, _, rfl, rfl, ?_⟩ | refine ⟨_, rfl, ?_⟩ | refine ⟨_, _, rfl, ?_, ?_⟩)) hK3 rfl rfl rfl rfl) rfl ?_
 refine AL.p (by exact mv1 rfl) rfl ?_
 refine AL.caseG rfl rfl (fun h0 => ?_) (fun h0 => ?_)
 ·refine AL.yes rfl rfl rfl ?_
  refine AL.p (by exact mv1 rfl) rfl ?_
  refine AL.yes rfl rfl rfl ?_
  refine AL.p (by exact mv1 rfl) rfl ?_
  refine AL.yes rfl rfl rfl ?_
  refine AL.q (by exact h_pure en_l13Good rfl rfl (by repeat (first | exact rfl | exact DLead.same | refine ⟨_, _, rfl, ?_, ?_⟩)) hV rfl) rfl ?_
  refine AL.p (by exact g_pickT (r := .d _) rfl rfl) rfl ?_
  refine AL.nil (th_n ?_)
  refine AC.condB rfl (fun h1 => ?_) (fun h1 => ?_)
  ·refine AC.seq ?_
   have hgt : g = true := by rw [hg, decide_eq_true h0]; exact h1
   rw [if_pos hgt]
   have hMs := (hM (hgv hgt)).2.2
   refine AC.region ?_
   refine AL.p (by exact mv1 rfl) rfl ?_
   refine AL.p (by exact mv1 rfl) rfl ?_
   refine AL.p (by exact mv1 rfl) rfl ?_
   refine AL.p (by exact mv1 rfl) rfl ?_
   refine AL.q (by exact h_pure en_l13CodesIn rfl rfl (by repeat (first | exact rfl | exact DLead.same | refine ⟨_, _, rfl, ?_, ?_⟩)) hMs rfl) rfl ?_
   refine AL.p (by exact as1 rfl) rfl ?_
   refine AL.p (by exact as1 rfl) rfl ?_
   refine AL.p (by exact as1 rfl) rfl ?_
   refine AL.nil (th_n (AC.ret (th_r (bq_r ?_))))
   exact ret0 rfl (by repeat (first | exact DLead.same | exact rfl | refine ⟨_, rfl, ?_⟩ | refine ⟨_, _, rfl, ?_, ?_⟩))
  ·refine AC.skip (th_n (AC.seq ?_))
   have hgf : ¬ g = true := by rw [hg]; (rw [show v = false from h1]; simp)
   rw [if_neg hgf]
   refine AC.region ?_
   refine AL.p (by exact mv1 rfl) rfl ?_
   refine AL.p (by exact mv1 rfl) rfl ?_
   refine AL.p (by exact mv3 rfl) rfl ?_
   refine AL.p (by exact mv1 rfl) rfl ?_
   refine AL.q (by exact h_fun (cs := [0]) en_curCover rfl rfl (by repeat (first | exact rfl | exact DLead.same | refine ⟨_, _, rfl, ?_, ?_⟩ | refine ⟨_, rfl, ?_⟩)) (by repeat (first | exact True.intro | refine And.intro ?_ ?_ | exact DLead.same | exact rfl | refine ⟨_, _, rfl, rfl, ?_⟩ | refine ⟨_, rfl, ?_⟩ | refine ⟨_, _, rfl, ?_, ?_⟩)) hK5 rfl rfl rfl rfl) rfl ?_
   refine AL.p (by exact as1 rfl) rfl ?_
   refine AL.p (by exact as1 rfl) rfl ?_
   refine AL.p (by exact as2 rfl) rfl ?_
   refine AL.nil (th_n ?_)
   refine AC.weak (Weak.freeze (i := 4) rfl rfl (ownl _ _) (ownt _ _)) ?_
   refine AC.ret (bq_r ?_)
   exact ret0 rfl (by repeat (first | exact DLead.same | exact rfl | refine ⟨_, rfl, ?_⟩ | refine ⟨_, _, rfl, ?_, ?_⟩))
 ·refine AL.not rfl rfl rfl rfl rfl ?_
  refine AL.not rfl rfl rfl rfl rfl ?_
  refine AL.not rfl rfl rfl rfl rfl ?_
  refine AL.p (by exact g_pickF (r := .d _) rfl rfl) rfl ?_
  refine AL.nil (th_n ?_)
  refine AC.condF rfl ?_
  refine AC.skip (th_n (AC.seq ?_))
  have hgf : ¬ g = true := by rw [hg]; (rw [decide_eq_false h0]; simp)
  rw [if_neg hgf]
  refine AC.region ?_
  refine AL.p (by exact mv1 rfl) rfl ?_
  refine AL.p (by exact mv1 rfl) rfl ?_
  refine AL.p (by exact mv3 rfl) rfl ?_
  refine AL.p (by exact mv1 rfl) rfl ?_
  refine AL.q (by exact h_fun (cs := [0]) en_curCover rfl rfl (by repeat (first | exact rfl | exact DLead.same | refine ⟨_, _, rfl, ?_, ?_⟩ | refine ⟨_, rfl, ?_⟩)) (by repeat (first | exact True.intro | refine And.intro ?_ ?_ | exact DLead.same | exact rfl | refine ⟨_, _, rfl, rfl, ?_⟩ | refine ⟨_, rfl, ?_⟩ | refine ⟨_, _, rfl, ?_, ?_⟩)) hK5 rfl rfl rfl rfl) rfl ?_
  refine AL.p (by exact as1 rfl) rfl ?_
  refine AL.p (by exact as1 rfl) rfl ?_
  refine AL.p (by exact as2 rfl) rfl ?_
  refine AL.nil (th_n ?_)
  refine AC.weak (Weak.freeze (i := 4) rfl rfl (ownl _ _) (ownt _ _)) ?_
  refine AC.ret (bq_r ?_)
  exact ret0 rfl (by repeat (first | exact DLead.same | exact rfl | refine ⟨_, rfl, ?_⟩ | refine ⟨_, _, rfl, ?_, ?_⟩))
theorem en_sDrawEquiv : Enters Tryz.prog 21 := enters_of Tryz.func21 rfl rfl
set_option maxHeartbeats 4000000 in
theorem sDrawFmtCov_ex (code : List UInt8) : ∃ (s : List Sig) (l : List (List UInt8)), s.length ≤ 8 ∧ (∀ x, x ∈ s → x.name.length ≤ 10) ∧ l.length ≤ 4 ∧ (∀ x, x ∈ l → x.length ≤ 10) ∧ ASpec Tryz.prog 23 [.d (vB code)] [] (Pure1 (.tup [.d (vSigs s), .d (vSs l)])) := by
 have hp0 : (cur0 code).pos = 0 := rfl
 have hG := stg_spec (cur0 code) (by omega)
 have hgi := stgI_in (cur0 code)
 obtain ⟨g, hg⟩ : ∃ g, g = stgI (cur0 code) := ⟨_, rfl⟩
 rw [← hg] at hG hgi
 have hS := (okS_S hgi.1).1
 have hs0 := hS.s0
 have hsl := hS.sl
 have h3 := g.2.pick_in 15 (by decide)
 have h4 := g.2.pick_pos 15
 have hK3 := pick_spec g.2 15 (by decide) (by omega)
 obtain ⟨q, hq⟩ : ∃ q, q = g.2.pick 15 := ⟨_, rfl⟩
 rw [← hq] at h3 h4 hK3
 have hd : 0 ≤ q.1.tdiv 14 ∧ q.1.tdiv 14 ≤ 1 := by rw [Int.tdiv_eq_ediv_of_nonneg h3.1]; omega
 have hA := cover_in q.2 (g.1.sigs.length + q.1.tdiv 14) (by omega)
 have hK2 := curCover_spec q.2 (g.1.sigs.length + q.1.tdiv 14) (by omega) (by omega)
 obtain ⟨A, hAA⟩ : ∃ A, A = q.2.cover (g.1.sigs.length + q.1.tdiv 14) := ⟨_, rfl⟩
 rw [← hAA] at hA hK2
 refine ⟨g.1.sigs, A.1, hsl, hS.sn, hA.1, fun x hx => by have := hA.2.1 x hx; omega, ?_⟩
 refine ASpec.of Tryz.func23 rfl rfl fun C hC => ?_
 refine AC.seq (AC.region ?_)
 refine AL.p (by exact as1 rfl) rfl ?_
 refine AL.p (by exact as1 rfl) rfl ?_
 refine AL.nil (th_n (AC.seq (AC.region ?_)))
 refine AL.p (by exact mv1 rfl) rfl ?_
 refine AL.p (by exact g_build rfl rfl rfl) rfl ?_
 refine AL.q (by exact h_box rfl) rfl ?_
 refine AL.p (by exact as3 rfl) rfl ?_
 refine AL.nil (th_n (AC.seq (AC.region ?_)))
 refine AL.p (by exact mv3 rfl) rfl ?_
 refine AL.q (by exact h_fun (cs := [0]) en_stg rfl rfl (by repeat (first | exact rfl | refine ⟨_, _, rfl, ?_, ?_⟩ | refine ⟨_, rfl, ?_⟩)) (by repeat (first | exact True.intro | refine And.intro ?_ ?_ | exact DLead.same | exact rfl | refine ⟨_, _, rfl, rfl, ?_⟩ | refine ⟨_, rfl, ?_⟩ | refine ⟨_, _, rfl, ?_, ?_⟩)) hG rfl rfl rfl rfl) rfl ?_
 refine AL.weak (Weak.freezeA (i := 10) (k := 2) rfl rfl rfl (ownl _ _) (ownt _ _)) ?_
 refine AL.p (by exact g_field Tryz.underlying70 rfl rfl rfl rfl rfl) rfl ?_
 refine AL.p (by exact as1 rfl) rfl ?_
 refine AL.nil (th_n (AC.seq (AC.region ?_)))
 refine AL.p (by exact mv1 rfl) rfl ?_
 refine AL.p (by exact mv3 rfl) rfl ?_
 refine AL.p (by exact mv1 rfl) rfl ?_
 refine AL.p (by exact g_len_view (k := g.1.sigs.length) rfl rfl (sigsL_len _)) rfl ?_
 refine AL.p (by exact mv3 rfl) rfl ?_
 refine AL.q (by exact h_fun (cs := [0]) en_pick rfl rfl (by repeat (first | exact rfl | exact DLead.same | refine ⟨_, _, rfl, ?_, ?_⟩ | refine ⟨_, rfl, ?_⟩)) (by repeat (first | exact True.intro | refine And.intro ?_ ?_ | exact DLead.same | exact rfl | refine ⟨_, _, rfl, rfl, ?_⟩ | refine ⟨_, rfl, ?_⟩ | refine ⟨_, _, rfl, ?_, ?_⟩)) hK3 rfl rfl rfl rfl) rfl ?_
 refine AL.p (by exact g_quo rfl rfl (by decide) (by exact wrap_i64 (by omega))) rfl ?_
 refine AL.p (by exact g_arith rfl rfl rfl (by exact wrap_i64 (by omega))) rfl ?_
 refine AL.q (by exact h_fun (cs := [0]) en_curCover rfl rfl (by repeat (first | exact rfl | exact DLead.same | refine ⟨_, _, rfl, ?_, ?_⟩ | refine ⟨_, rfl, ?_⟩)) (by repeat (first | exact True.intro | refine And.intro ?_ ?_ | exact DLead.same | exact rfl | refine ⟨_, _, rfl, rfl, ?_⟩ | refine ⟨_, rfl, ?_⟩ | refine ⟨_, _, rfl, ?_, ?_⟩)) hK2 rfl rfl rfl rfl) rfl ?_
 refine AL.p (by exact as1 rfl) rfl ?_
 refine AL.p (by exact as2 rfl) rfl ?_
 refine AL.nil (th_n ?_)
 refine AC.weak (Weak.freeze (i := 3) rfl rfl (ownl _ _) (ownt _ _)) ?_
 refine AC.ret (bq_r ?_)
 exact ret0 rfl (by repeat (first | exact DLead.same | exact rfl | refine ⟨_, rfl, ?_⟩ | refine ⟨_, _, rfl, ?_, ?_⟩))
theorem en_sDrawFmtCov : Enters Tryz.prog 23 := enters_of Tryz.func23 rfl rfl
theorem hasC_iff {c x : List UInt8} : hasC c x = true ↔ ∀ i, i < c.length → c.getD i 0 = 45 ∨ c.getD i 0 = x.getD i 0 := by
 unfold hasC allN okAt at1
 simp only [List.all_eq_true, List.mem_range, Bool.or_eq_true, decide_eq_true_eq]
 constructor
 ·intro h i hi
  rcases h i hi with q | q
  ·left; exact UInt8.toNat_inj.1 (by show _ = 45; omega)
  ·right; exact u8_iff.1 q
 ·intro h i hi
  rcases h i hi with q | q
  ·left; rw [q]; rfl
  ·right; rw [q]
theorem getD_set_ne {c : List UInt8} {s i : Nat} {b : UInt8} (h : i ≠ s) : (c.set s b).getD i 0 = c.getD i 0 := by
 rw [List.getD_eq_getElem?_getD, List.getD_eq_getElem?_getD, List.getElem?_set_ne (fun e => h e.symm)]
theorem getD_set_eq {c : List UInt8} {s : Nat} {b : UInt8} (h : s < c.length) : (c.set s b).getD s 0 = b := by
 rw [List.getD_eq_getElem?_getD, List.getElem?_set_self h]; rfl
theorem cubeB_set {c : List UInt8} {n : Int} {s : Nat} (h : cubeB c n = true) : cubeB (c.set s 45) n = true := by
 unfold cubeB at h ⊢
 rw [Bool.and_eq_true] at h
 rw [List.length_set, h.2, Bool.and_true, List.all_eq_true]
 intro x hx
 rcases List.mem_or_eq_of_mem_set hx with q | rfl
 ·exact List.all_eq_true.1 h.1 x q
 ·rfl
theorem cofL_mem {l : List (List UInt8)} {s : Nat} {up : Bool} {x : List UInt8} : x ∈ cofL l s up l.length ↔ ∃ c, c ∈ l ∧ c.getD s 0 ≠ bitLb (!up) ∧ x = c.set s 45 := by
 unfold cofL
 rw [List.take_length]
 simp only [List.mem_map, List.mem_filter, decide_eq_true_eq]
 constructor
 ·rintro ⟨c, ⟨h1, h2⟩, rfl⟩; exact ⟨c, h1, h2, rfl⟩
 ·rintro ⟨c, h1, h2, rfl⟩; exact ⟨c, ⟨h1, h2⟩, rfl⟩
theorem cof_cvB {n : Int} {l : List (List UInt8)} {s : Nat} {up : Bool} (h : cvB n l = true) : cvB n (cofL l s up l.length) = true := by
 have h1 := cvB_in h
 have h2 := cofL_len l s up l.length
 unfold cvB
 rw [decide_eq_true h1.1.1, decide_eq_true h1.1.2, decide_eq_true (by omega : ((cofL l s up l.length).length : Int) ≤ 60), Bool.and_true, Bool.true_and, Bool.true_and, List.all_eq_true]
 intro x hx
 obtain ⟨c, hc, _, rfl⟩ := cofL_mem.1 hx
 exact cubeB_set (h1.2.2 c hc)
theorem cof_has {m : Nat} {l : List (List UInt8)} {s : Nat} {x : List UInt8} {up : Bool} (hl : ∀ c, c ∈ l → c.length = m) (hs : s < m) (hx : x ∈ mintL m l) (hup : x.getD s 0 = bitLb up) : covB (cofL l s up l.length) x = true := by
 have hx2 := List.mem_filter.1 hx
 obtain ⟨c, hc, hh⟩ := List.any_eq_true.1 (show covB l x = true from hx2.2)
 have hcl := hl c hc
 have hi := hasC_iff.1 hh
 refine List.any_eq_true.2 ⟨c.set s 45, cofL_mem.2 ⟨c, hc, ?_, rfl⟩, hasC_iff.2 fun i hi2 => ?_⟩
 ·rcases hi s (by omega) with q | q
  ·rw [q]; cases up <;> decide
  ·rw [q, hup]; cases up <;> decide
 ·rw [List.length_set] at hi2
  by_cases e : i = s
  ·left; rw [e]; exact getD_set_eq (by omega)
  ·rw [getD_set_ne e]; exact hi i hi2
theorem cov_one {m : Nat} {l : List (List UInt8)} {x : List UInt8} {s : Nat} (hcv : cvB m l = true) (hl : ∀ c, c ∈ l → c.length = m) (hs : s < m) (hx : x ∈ mintL m l) (up : Bool) (hup : x.getD s 0 = bitLb up) : covR (cofL l s up l.length) x = (true, true) := by
 have hx2 := List.mem_filter.1 hx
 obtain ⟨h1, h2⟩ := codesN_mem m x hx2.1
 have hb : bitsB x x.length = true := by
  unfold bitsB
  rw [decide_eq_true rfl, Bool.and_true, List.all_eq_true]
  intro b hb
  rcases h2 b hb with rfl | rfl <;> rfl
 rw [covR_yes (by rw [h1]; exact cof_cvB hcv) hb, cof_has hl hs hx hup]
theorem covB_dup {l : List (List UInt8)} {c x : List UInt8} (hc : c ∈ l) : covB (l ++ [c]) x = covB l x := by
 unfold covB
 rw [List.any_append, List.any_cons, List.any_nil, Bool.or_false]
 cases h : l.any fun c => hasC c x with
 | true => rfl
 | false =>
  have := List.any_eq_false.1 h c hc
  simpa using this
theorem mintL_dup {m : Nat} {l : List (List UInt8)} {c : List UInt8} (hc : c ∈ l) : mintL m (l ++ [c]) = mintL m l := by
 unfold mintL
 exact List.filter_congr fun x _ => covB_dup hc
theorem dup_eqv {n : Int} {l : List (List UInt8)} {c : List UInt8} (hcv : cvB n l = true) (hc : c ∈ l) (hl : l.length < 60) : eqvR n l (l ++ [c]) = (true, true) := by
 have h1 := cvB_in hcv
 have h2 : cvB n (l ++ [c]) = true := by
  unfold cvB
  rw [decide_eq_true h1.1.1, decide_eq_true h1.1.2, List.length_append, decide_eq_true (by simp only [List.length_cons, List.length_nil]; omega : ((l.length + [c].length : Nat) : Int) ≤ 60), Bool.and_true, Bool.true_and, Bool.true_and, List.all_eq_true]
  intro x hx
  rcases List.mem_append.1 hx with q | q
  ·exact h1.2.2 x q
  ·rw [List.mem_singleton.1 q]; exact h1.2.2 c hc
 rw [eqvR_yes hcv h2, mintL_dup hc, decide_eq_true rfl]
theorem sameTextsV_spec (a : List (List UInt8)) (ha : a.length ≤ 1000000) : ASpec Tryz.prog 10 [.d (vSs a), .d (vSs a)] [] (Pure1 (aT true)) := by
 refine ASpec.of Tryz.func10 rfl rfl fun C hC => ?_
 refine AC.seq (AC.region ?_)
 refine AL.p (by exact as1 rfl) rfl ?_
 refine AL.nil (th_n (AC.seq (AC.seq (AC.region ?_))))
 refine AL.p (by exact mv1 rfl) rfl ?_
 refine AL.p (by exact g_len_view (k := a.length) rfl rfl (strsL_len _)) rfl ?_
 refine AL.p (by exact mv1 rfl) rfl ?_
 refine AL.p (by exact g_len_view (k := a.length) rfl rfl (strsL_len _)) rfl ?_
 refine AL.p (by exact g_neIr rfl rfl rfl) rfl ?_
 refine AL.nil (th_n ?_)
 refine AC.condF rfl ?_
 refine AC.skip (th_n (AC.seq (AC.seq (AC.region ?_))))
 refine AL.p (by exact mv1 rfl) rfl ?_
 refine AL.p (by exact g_len_view (k := a.length) rfl rfl (strsL_len _)) rfl ?_
 refine AL.p (by exact mv1 rfl) rfl ?_
 refine AL.nil (th_n (AC.block ?_))
 refine AC.loop (ι := Nat) (fun k => ⟨26, 0, [(0, .d (vSs a)), (1, .d (vSs a)), (12, aI a.length), (13, aI k)], []⟩) (fun k => k ≤ a.length) (fun k => a.length - k) (0) ?_ (Nat.zero_le _) ?_
 ·refine Weak.ren _ [] hC rfl ?_ ?_ rfl rfl rfl <;> repeat (first | exact True.intro | refine And.intro ?_ ?_ | exact DLead.same)
 ·intro k hk
  refine AC.seq (AC.region ?_)
  refine AL.p (by exact g_cmp rfl rfl rfl) rfl ?_
  refine AL.nil (th_n (AC.seq ?_))
  refine AC.condD rfl (fun h0 => ?_) (fun h0 => ?_)
  ·refine AC.skip (th_n (AC.seq (AC.block (AC.seq ?_))))
   have hk1 : k < a.length := by omega
   have hget := strs_at hk1
   refine AC.region ?_
   refine AL.p (by exact mv1 rfl) rfl ?_
   refine AL.p (by exact as1 rfl) rfl ?_
   refine AL.nil (th_n (AC.seq ?_))
   refine AC.drawn' mixed_ok [[], [], [0,1], [0,1,2], [], [], [4,5], [4,5,6], [0,1,2,3,4,5,6,7]] (by decide) ?_
   refine DF.op 0 [] 9 rfl rfl rfl (.free rfl (NOp.of (by exact mv1 rfl))) rfl ?_
   refine DF.op 1 [] 9 rfl rfl rfl (.free rfl (NOp.of (by exact mv1 rfl))) rfl ?_
   refine DF.op 2 [0,1] 9 rfl rfl rfl (.free rfl (NOp.of (by exact g_ia_view rfl rfl rfl rfl rfl (by rfl) (by assumption)))) rfl ?_
   refine DF.op 3 [0,1,2] 9 rfl rfl rfl (.free rfl (NOp.of (by exact g_load_ref rfl rfl rfl))) rfl ?_
   refine DF.op 4 [] 9 rfl rfl rfl (.free rfl (NOp.of (by exact mv1 rfl))) rfl ?_
   refine DF.op 5 [] 9 rfl rfl rfl (.free rfl (NOp.of (by exact mv1 rfl))) rfl ?_
   refine DF.op 6 [4,5] 9 rfl rfl rfl (.free rfl (NOp.of (by exact g_ia_view rfl rfl rfl rfl rfl (by rfl) (by assumption)))) rfl ?_
   refine DF.op 7 [4,5,6] 9 rfl rfl rfl (.free rfl (NOp.of (by exact g_load_ref rfl rfl rfl))) rfl ?_
   refine DF.op 8 [0,1,2,3,4,5,6,7] 9 rfl rfl rfl (.free rfl (NOp.of (by exact g_neSr rfl rfl rfl))) rfl ?_
   refine DF.fin (ps := [(0,1),(0,4),(0,5),(0,6),(0,7),(1,0),(1,4),(1,5),(1,6),(1,7),(2,4),(2,5),(2,6),(2,7),(3,4),(3,5),(3,6),(3,7),(4,0),(4,1),(4,2),(4,3),(4,5),(5,0),(5,1),(5,2),(5,3),(5,4),(6,0),(6,1),(6,2),(6,3),(7,0),(7,1),(7,2),(7,3)]) 9 rfl (by decide +kernel) (by decide +kernel) (by rfl) ?_
   refine th_n ?_
   refine AC.condF rfl ?_
   refine AC.skip (ib_n (th_n (AC.region ?_)))
   refine AL.p (by exact g_arith rfl rfl rfl (by exact wrap_i64 (by omega))) rfl ?_
   refine AL.p (by exact mv1 rfl) rfl ?_
   refine AL.nil (th_n ?_)
   exact ⟨k + 1, by omega, by omega, Weak.ren _ [] hC rfl (by repeat (first | exact True.intro | refine And.intro ?_ ?_ | exact DLead.same)) (by repeat (exact True.intro)) rfl rfl rfl⟩
  ·refine AC.exit (th_e (th_e (ib_y (th_n (AC.seq (AC.region ?_))))))
   refine AL.p (by exact as1 rfl) rfl ?_
   refine AL.nil (th_n (AC.ret (bq_r ?_)))
   exact ret1 rfl rfl
theorem en_sameTexts : Enters Tryz.prog 10 := enters_of Tryz.func10 rfl rfl
set_option maxHeartbeats 32000000 in
theorem FnCovers_gen (code more : List UInt8) (n : Int) (l lc lh ae be lF : List (List UInt8)) (sg : Int) (up : Bool) (xh : List UInt8) (ne : Int) (sF : List Sig) (hc : code.length ≤ 9223372036854775807) (hm : more.length ≤ 9223372036854775807)
  (hl : l.length ≤ 4) (hlx : ∀ x, x ∈ l → x.length ≤ 10) (hlc : lc.length ≤ 4) (hlcx : ∀ x, x ∈ lc → x.length ≤ 10) (hlh : lh.length ≤ 4) (hlhx : ∀ x, x ∈ lh → x.length ≤ 10) (hxh : xh.length ≤ 10)
  (hae : ae.length ≤ 300) (haex : ∀ x, x ∈ ae → x.length ≤ 10) (hbe : be.length ≤ 300) (hbex : ∀ x, x ∈ be → x.length ≤ 10) (hsF : sF.length ≤ 8) (hsFx : ∀ x, x ∈ sF → x.name.length ≤ 10) (hlF : lF.length ≤ 4) (hlFx : ∀ x, x ∈ lF → x.length ≤ 10)
  (hD1 : ASpec Tryz.prog 5 [.d (vB code)] [] (Pure1 (.tup [aI n, .d (vSs l)]))) (hD2 : ASpec Tryz.prog 17 [.d (vB more)] [] (Pure1 (.tup [.d (vSs lc), aI sg, aT up])))
  (hD3 : ASpec Tryz.prog 19 [.d (vB more)] [] (Pure1 (.tup [.d (vSs lh), aS (bstr xh)]))) (hD4 : ASpec Tryz.prog 21 [.d (vB more)] [] (Pure1 (.tup [aI ne, .d (vSs ae), .d (vSs be)])))
  (hD5 : ASpec Tryz.prog 23 [.d (vB more)] [] (Pure1 (.tup [.d (vSigs sF), .d (vSs lF)]))) : ASpec Tryz.prog 3 [.d (vB code), .d (vB more)] [] (Pure1 (aT true)) := by
 have hBig := big_spec code more hc hm
 have big10 : ∀ {L : List (List UInt8)}, (∀ x, x ∈ L → x.length ≤ 10) → ∀ x, x ∈ L → x.length ≤ 2000000 := fun h x hx => Nat.le_trans (h x hx) (by decide)
 have hM1 := iMint_spec n l (by omega) (big10 hlx)
 have hM2 := sMint_spec n l (by omega) (big10 hlx)
 have hT1 := iTaut_spec n l (by omega) (big10 hlx)
 have hT2 := sTaut_spec n l (by omega) (big10 hlx)
 have hV1 := iCov_spec n l (by omega) (big10 hlx)
 have hV2 := sCov_spec n l (by omega) (big10 hlx)
 have hMy : (mintR n l).2 = true → cvB n l = true ∧ (mintR n l).1 = mintL n.toNat l := by
  unfold mintR
  split
  ·rename_i q; exact fun _ => ⟨q, rfl⟩
  ·intro q; cases q
 have hMn : (mintR n l).1.length ≤ 256 := by
  unfold mintR
  split
  ·rename_i q
   obtain ⟨m, hm, hm1, hm2, _⟩ := cvB_n q
   subst hm
   have := mintL_len m l
   have := pow_le256 (Nat.le_refl m) hm2
   rw [Int.toNat_natCast]; dsimp only; omega
  ·exact Nat.zero_le _
 obtain ⟨M, hM⟩ : ∃ M, M = mintR n l := ⟨_, rfl⟩
 obtain ⟨T, hT⟩ : ∃ T, T = tautR n l := ⟨_, rfl⟩
 obtain ⟨V, hV⟩ : ∃ V, V = cvB n l := ⟨_, rfl⟩
 rw [← hM] at hM1 hM2 hMy hMn
 rw [← hT] at hT1 hT2
 rw [← hV] at hV1 hV2
 have hS1 := sameTextsV_spec M.1 (by omega)
 have hC1 := iCofac_spec lc sg up (by omega) (big10 hlcx)
 have hC2 := sCofac_spec lc sg up (by omega) (big10 hlcx)
 have hCl : (cofR lc sg up).1.length ≤ 4 := by
  unfold cofR
  split
  ·exact Nat.le_trans (cofL_len _ _ _ _) hlc
  ·exact Nat.zero_le _
 obtain ⟨K, hK⟩ : ∃ K, K = cofR lc sg up := ⟨_, rfl⟩
 rw [← hK] at hC1 hC2 hCl
 have hS2 := sameTextsV_spec K.1 (by omega)
 have hH1 := iCovHas_spec lh xh (by omega) (by omega) (big10 hlhx)
 have hH2 := sCovHas_spec lh xh (by omega) (by omega) (big10 hlhx)
 obtain ⟨H, hH⟩ : ∃ H, H = covR lh xh := ⟨_, rfl⟩
 rw [← hH] at hH1 hH2
 have hE1 := iEquiv_spec ne ae be (by omega) (big10 haex) (by omega) (big10 hbex)
 have hE2 := sEquiv_spec ne ae be (by omega) (big10 haex) (by omega) (big10 hbex)
 obtain ⟨E, hE⟩ : ∃ E, E = eqvR ne ae be := ⟨_, rfl⟩
 rw [← hE] at hE1 hE2
 have hF1 := iFmtCov_spec sF lF (by omega) (fun t ht => by have := hsFx t ht; omega) (by omega) (big10 hlFx)
 have hF2 := sFmtCov_spec sF lF (by omega) (fun t ht => by have := hsFx t ht; omega) (by omega) (big10 hlFx)
 obtain ⟨F, hF⟩ : ∃ F, F = fmtCR sF lF := ⟨_, rfl⟩
 rw [← hF] at hF1 hF2
 clear hM hT hV hK hH hE hF
 refine ASpec.of Tryz.func3 rfl rfl fun C hC => ?_
 refine AC.seq (AC.region ?_)
 refine AL.p (by exact as1 rfl) rfl ?_
 refine AL.nil (th_n (AC.seq (AC.seq (AC.region ?_))))
 refine AL.p (by exact mv1 rfl) rfl ?_
 refine AL.p (by exact mv1 rfl) rfl ?_
 refine AL.q (by exact h_pure en_big rfl rfl (by repeat (first | exact rfl | exact DLead.same | refine ⟨_, _, rfl, ?_, ?_⟩)) hBig rfl) rfl ?_
 refine AL.nil (th_n ?_)
 refine AC.condB rfl (fun h0 => ?_) (fun h0 => ?_)
 ·refine AC.seq (AC.region ?_)
  refine AL.p (by exact as1 rfl) rfl ?_
  refine AL.nil (th_n (AC.ret (th_r (bq_r ?_))))
  exact ret1 rfl rfl
 ·refine AC.skip (th_n (AC.seq (AC.region ?_)))
  refine AL.p (by exact mv1 rfl) rfl ?_
  refine AL.q (by exact h_pure en_sDrawMint rfl rfl (by repeat (first | exact rfl | exact DLead.same | refine ⟨_, _, rfl, ?_, ?_⟩)) hD1 rfl) rfl ?_
  refine AL.p (by exact mv5 rfl) rfl ?_
  refine AL.p (by exact g_extract (r := .d _) rfl rfl) rfl ?_
  refine AL.p (by exact g_extract (r := .d _) rfl rfl) rfl ?_
  refine AL.p (by exact as1 rfl) rfl ?_
  refine AL.p (by exact as1 rfl) rfl ?_
  refine AL.nil (th_n (AC.seq (AC.region ?_)))
  refine AL.p (by exact mv1 rfl) rfl ?_
  refine AL.p (by exact mv1 rfl) rfl ?_
  refine AL.q (by exact h_pure en_iMint rfl rfl (by repeat (first | exact rfl | exact DLead.same | refine ⟨_, _, rfl, ?_, ?_⟩)) hM1 rfl) rfl ?_
  refine AL.p (by exact mv5 rfl) rfl ?_
  refine AL.p (by exact g_extract (r := .d _) rfl rfl) rfl ?_
  refine AL.p (by exact g_extract (r := .d _) rfl rfl) rfl ?_
  refine AL.p (by exact as1 rfl) rfl ?_
  refine AL.p (by exact as1 rfl) rfl ?_
  refine AL.nil (th_n (AC.seq (AC.region ?_)))
  refine AL.p (by exact mv1 rfl) rfl ?_
  refine AL.p (by exact mv1 rfl) rfl ?_
  refine AL.q (by exact h_pure en_sMint rfl rfl (by repeat (first | exact rfl | exact DLead.same | refine ⟨_, _, rfl, ?_, ?_⟩)) hM2 rfl) rfl ?_
  refine AL.p (by exact mv5 rfl) rfl ?_
  refine AL.p (by exact g_extract (r := .d _) rfl rfl) rfl ?_
  refine AL.p (by exact g_extract (r := .d _) rfl rfl) rfl ?_
  refine AL.p (by exact as1 rfl) rfl ?_
  refine AL.p (by exact as1 rfl) rfl ?_
  refine AL.nil (th_n (AC.seq (AC.region ?_)))
  refine AL.p (by exact mv1 rfl) rfl ?_
  refine AL.p (by exact mv1 rfl) rfl ?_
  refine AL.q (by exact h_pure en_iTaut rfl rfl (by repeat (first | exact rfl | exact DLead.same | refine ⟨_, _, rfl, ?_, ?_⟩)) hT1 rfl) rfl ?_
  refine AL.p (by exact mv5 rfl) rfl ?_
  refine AL.p (by exact g_extract (r := .d _) rfl rfl) rfl ?_
  refine AL.p (by exact g_extract (r := .d _) rfl rfl) rfl ?_
  refine AL.p (by exact as1 rfl) rfl ?_
  refine AL.p (by exact as1 rfl) rfl ?_
  refine AL.nil (th_n (AC.seq (AC.region ?_)))
  refine AL.p (by exact mv1 rfl) rfl ?_
  refine AL.p (by exact mv1 rfl) rfl ?_
  refine AL.q (by exact h_pure en_sTaut rfl rfl (by repeat (first | exact rfl | exact DLead.same | refine ⟨_, _, rfl, ?_, ?_⟩)) hT2 rfl) rfl ?_
  refine AL.p (by exact mv5 rfl) rfl ?_
  refine AL.p (by exact g_extract (r := .d _) rfl rfl) rfl ?_
  refine AL.p (by exact g_extract (r := .d _) rfl rfl) rfl ?_
  refine AL.p (by exact as1 rfl) rfl ?_
  refine AL.p (by exact as1 rfl) rfl ?_
  refine AL.nil (th_n (AC.seq (AC.seq ?_)))
  have hmore : more.length ≤ 2000000 := by have := (Bool.or_eq_false_iff.1 h0); simp at this; omega
  refine AC.weak (t := ⟨303, 300, [(1, .d (vB more)), (5, aI n), (6, .d (vSs l)), (7, .d (vSs M.1)), (8, aT M.2), (9, .d (vSs M.1)), (10, aT M.2), (11, aT T.1), (12, aT T.2), (13, aT T.1), (14, aT T.2)], []⟩) (Weak.ren _ [] hC rfl (by repeat (first | exact True.intro | refine And.intro ?_ ?_ | exact DLead.same)) (by repeat (exact True.intro)) rfl rfl rfl) ?_
  refine AC.region ?_
  refine AL.p (by exact mv1 rfl) rfl ?_
  refine AL.p (by exact mv1 rfl) rfl ?_
  refine AL.p (by exact g_neBr rfl rfl rfl) rfl ?_
  refine AL.p (by exact mv1 rfl) rfl ?_
  refine AL.yes rfl rfl rfl ?_
  refine AL.p (by exact mv1 rfl) rfl ?_
  refine AL.yes rfl rfl rfl ?_
  refine AL.p (by exact mv1 rfl) rfl ?_
  refine AL.yes rfl rfl rfl ?_
  refine AL.q (by exact h_pure en_sameTexts rfl rfl (by repeat (first | exact rfl | exact DLead.same | refine ⟨_, _, rfl, ?_, ?_⟩)) hS1 rfl) rfl ?_
  refine AL.yes rfl rfl rfl ?_
  refine AL.p (by exact g_not rfl) rfl ?_
  refine AL.p (by exact g_pickF (r := .d _) rfl rfl) rfl ?_
  refine AL.p (by exact mv1 rfl) rfl ?_
  refine AL.yes rfl rfl rfl ?_
  refine AL.p (by exact mv1 rfl) rfl ?_
  refine AL.yes rfl rfl rfl ?_
  refine AL.p (by exact mv1 rfl) rfl ?_
  refine AL.yes rfl rfl rfl ?_
  refine AL.p (by exact g_neBr rfl rfl rfl) rfl ?_
  refine AL.p (by exact g_pickF (r := .d _) rfl rfl) rfl ?_
  refine AL.p (by exact mv1 rfl) rfl ?_
  refine AL.yes rfl rfl rfl ?_
  refine AL.p (by exact mv1 rfl) rfl ?_
  refine AL.yes rfl rfl rfl ?_
  refine AL.p (by exact mv1 rfl) rfl ?_
  refine AL.yes rfl rfl rfl ?_
  refine AL.p (by exact g_neBr rfl rfl rfl) rfl ?_
  refine AL.p (by exact g_pickF (r := .d _) rfl rfl) rfl ?_
  refine AL.p (by exact mv1 rfl) rfl ?_
  refine AL.yes rfl rfl rfl ?_
  refine AL.p (by exact mv1 rfl) rfl ?_
  refine AL.yes rfl rfl rfl ?_
  refine AL.p (by exact mv1 rfl) rfl ?_
  refine AL.yes rfl rfl rfl ?_
  refine AL.q (by exact h_pure en_iCov rfl rfl (by repeat (first | exact rfl | exact DLead.same | refine ⟨_, _, rfl, ?_, ?_⟩)) hV1 rfl) rfl ?_
  refine AL.yes rfl rfl rfl ?_
  refine AL.p (by exact mv1 rfl) rfl ?_
  refine AL.yes rfl rfl rfl ?_
  refine AL.p (by exact mv1 rfl) rfl ?_
  refine AL.yes rfl rfl rfl ?_
  refine AL.q (by exact h_pure en_sCov rfl rfl (by repeat (first | exact rfl | exact DLead.same | refine ⟨_, _, rfl, ?_, ?_⟩)) hV2 rfl) rfl ?_
  refine AL.yes rfl rfl rfl ?_
  refine AL.p (by exact g_neBr rfl rfl rfl) rfl ?_
  refine AL.p (by exact g_pickF (r := .d _) rfl rfl) rfl ?_
  refine AL.nil (th_n ?_)
  refine AC.condF rfl ?_
  refine AC.skip (th_n ?_)
  refine AC.cut (fun (_ : Unit) => ⟨303, 900, [(1, .d (vB more))], []⟩) (fun _ => True) ?_ ?_
  ·refine AC.seq (AC.region ?_)
   refine AL.p (by exact mv1 rfl) rfl ?_
   refine AL.p (by exact mv1 rfl) rfl ?_
   refine AL.caseGB rfl rfl (fun h1 => ?_) (fun h1 => ?_)
   ·refine AL.yes rfl rfl rfl ?_
    refine AL.p (by exact mv1 rfl) rfl ?_
    refine AL.yes rfl rfl rfl ?_
    refine AL.p (by exact g_len_view (k := l.length) rfl rfl (strsL_len _)) rfl ?_
    refine AL.yes rfl rfl rfl ?_
    refine AL.p (by exact g_cmp rfl rfl rfl) rfl ?_
    refine AL.p (by exact g_pickT (r := .d _) rfl rfl) rfl ?_
    refine AL.nil (th_n ?_)
    refine AC.condD rfl (fun h2 => ?_) (fun h2 => ?_)
    ·refine AC.seq ?_
     have q1 : M.2 = true := by assumption
     have q2 : (l.length : Int) > 0 := by assumption
     obtain ⟨hcv, hML⟩ := hMy q1
     obtain ⟨m, hm, hm1, hm2, hml⟩ := cvB_n hcv
     subst hm
     rw [Int.toNat_natCast] at hML
     have hl0 : 0 < l.length := by omega
     have hNo := numberOf_spec more hmore
     obtain ⟨s, hs⟩ : ∃ s, s = nofF more more.length % m := ⟨_, rfl⟩
     have hsm : s < m := by rw [hs]; exact Nat.mod_lt _ (by omega)
     have hrem : ((nofF more more.length : Nat) : Int).tmod m = (s : Int) := by rw [Int.tmod_eq_emod_of_nonneg (by omega), hs]; rfl
     have hf0 : (fst0 l).length = m := hml _ (fst0_mem hl0)
     have hA1 := iCofac_spec l s true (by omega) (big10 hlx)
     have hA0 := iCofac_spec l s false (by omega) (big10 hlx)
     rw [cofR_yes hl0 (by rw [hf0]; exact hcv) (by rw [hf0]; omega), Int.toNat_natCast] at hA1 hA0
     have hl1 := cofL_len l s true l.length
     have hl2 := cofL_len l s false l.length
     have hx1 : ∀ up, ∀ c, c ∈ cofL l s up l.length → c.length ≤ 2000000 := fun up c hc => by obtain ⟨c', h1, _, rfl⟩ := cofL_mem.1 hc; rw [List.length_set]; have := hml c' h1; omega
     have hK1 : ∀ x, x ∈ M.1 → x.getD s 0 = 49 → ASpec Tryz.prog 15 [.d (vSs (cofL l s true l.length)), aS (bstr x)] [] (Pure1 (.tup [aT true, aT true])) := fun x hx hb => by have h := iCovHas_spec (cofL l s true l.length) x (by omega) (by rw [hML] at hx; have := (codesN_mem m x (List.mem_filter.1 hx).1).1; omega) (hx1 true); rwa [cov_one hcv hml hsm (by rw [← hML]; exact hx) true hb] at h
     have hK0 : ∀ x, x ∈ M.1 → ¬ x.getD s 0 = 49 → ASpec Tryz.prog 15 [.d (vSs (cofL l s false l.length)), aS (bstr x)] [] (Pure1 (.tup [aT true, aT true])) := fun x hx hb => by have h := iCovHas_spec (cofL l s false l.length) x (by omega) (by rw [hML] at hx; have := (codesN_mem m x (List.mem_filter.1 hx).1).1; omega) (hx1 false); rwa [cov_one hcv hml hsm (by rw [← hML]; exact hx) false (by rw [hML] at hx; have h2 := codesN_mem m x (List.mem_filter.1 hx).1; rcases h2.2 (x.getD s 0) (by rw [List.getD_eq_getElem?_getD, List.getElem?_eq_getElem (by omega)]; exact List.getElem_mem _) with q | q; (rw [q]; rfl); exact absurd q hb)] at h
     have hml2 : ∀ x, x ∈ M.1 → x.length = m := fun x hx => by rw [hML] at hx; exact (codesN_mem m x (List.mem_filter.1 hx).1).1
     have hQ := iEquiv_spec m l (l ++ [fst0 l]) (by omega) (big10 hlx) (by rw [List.length_append]; simp only [List.length_cons, List.length_nil]; omega) (fun x hx => by rcases List.mem_append.1 hx with q | q; exact big10 hlx x q; rw [List.mem_singleton.1 q]; omega)
     rw [dup_eqv hcv (fst0_mem hl0) (by omega)] at hQ
     have hget0 := fst0_at hl0
     obtain ⟨A1, hAA1⟩ : ∃ A, A = cofL l s true l.length := ⟨_, rfl⟩
     obtain ⟨A0, hAA0⟩ : ∃ A, A = cofL l s false l.length := ⟨_, rfl⟩
     rw [← hAA1] at hA1 hK1
     rw [← hAA0] at hA0 hK0
     clear hAA1 hAA0 hx1 hl1 hl2
     refine AC.region ?_
     refine AL.p (by exact mv1 rfl) rfl ?_
     refine AL.q (by exact h_pure en_numberOf rfl rfl (by repeat (first | exact rfl | exact DLead.same | refine ⟨_, _, rfl, ?_, ?_⟩)) hNo rfl) rfl ?_
     refine AL.p (by exact mv1 rfl) rfl ?_
     refine AL.p (by exact g_rem rfl rfl (by omega) rfl) rfl ?_
     refine AL.p (by exact as1 rfl) rfl ?_
     refine AL.nil (th_n (AC.seq ?_))
     rw [hrem]
     refine AC.region ?_
     refine AL.p (by exact mv1 rfl) rfl ?_
     refine AL.p (by exact mv1 rfl) rfl ?_
     refine AL.q (by exact h_pure en_iCofac rfl rfl (by repeat (first | exact rfl | exact DLead.same | refine ⟨_, _, rfl, ?_, ?_⟩)) hA1 rfl) rfl ?_
     refine AL.p (by exact mv5 rfl) rfl ?_
     refine AL.p (by exact g_extract (r := .d _) rfl rfl) rfl ?_
     refine AL.p (by exact g_extract (r := .d _) rfl rfl) rfl ?_
     refine AL.p (by exact as1 rfl) rfl ?_
     refine AL.p (by exact as1 rfl) rfl ?_
     refine AL.nil (th_n (AC.seq (AC.region ?_)))
     refine AL.p (by exact mv1 rfl) rfl ?_
     refine AL.p (by exact mv1 rfl) rfl ?_
     refine AL.q (by exact h_pure en_iCofac rfl rfl (by repeat (first | exact rfl | exact DLead.same | refine ⟨_, _, rfl, ?_, ?_⟩)) hA0 rfl) rfl ?_
     refine AL.p (by exact mv5 rfl) rfl ?_
     refine AL.p (by exact g_extract (r := .d _) rfl rfl) rfl ?_
     refine AL.p (by exact g_extract (r := .d _) rfl rfl) rfl ?_
     refine AL.p (by exact as1 rfl) rfl ?_
     refine AL.p (by exact as1 rfl) rfl ?_
     refine AL.nil (th_n (AC.seq (AC.seq (AC.region ?_))))
     refine AL.p (by exact mv1 rfl) rfl ?_
     refine AL.p (by exact g_not rfl) rfl ?_
     refine AL.p (by exact mv1 rfl) rfl ?_
     refine AL.yes rfl rfl rfl ?_
     refine AL.p (by exact mv1 rfl) rfl ?_
     refine AL.yes rfl rfl rfl ?_
     refine AL.p (by exact g_not rfl) rfl ?_
     refine AL.p (by exact g_pickF (r := .d _) rfl rfl) rfl ?_
     refine AL.nil (th_n ?_)
     refine AC.condF rfl ?_
     refine AC.skip (th_n (AC.seq (AC.seq (AC.region ?_))))
     refine AL.p (by exact mv1 rfl) rfl ?_
     refine AL.p (by exact g_len_view (k := M.1.length) rfl rfl (strsL_len _)) rfl ?_
     refine AL.p (by exact mv1 rfl) rfl ?_
     refine AL.nil (th_n (AC.block ?_))
     refine AC.loop (ι := Nat) (fun k => ⟨303, 600, [(1, .d (vB more)), (5, aI m), (6, .d (vSs l)), (15, aI s), (16, .d (vSs A1)), (18, .d (vSs A0)), (141, .d (vSs M.1)), (142, aI M.1.length), (143, aI k)], []⟩) (fun k => k ≤ M.1.length) (fun k => M.1.length - k) (0) ?_ (Nat.zero_le _) ?_
     ·refine Weak.ren _ [] hC rfl ?_ ?_ rfl rfl rfl <;> repeat (first | exact True.intro | refine And.intro ?_ ?_ | exact DLead.same)
     ·intro k hk
      refine AC.seq (AC.region ?_)
      refine AL.p (by exact g_cmp rfl rfl rfl) rfl ?_
      refine AL.nil (th_n (AC.seq ?_))
      refine AC.condD rfl (fun h3 => ?_) (fun h3 => ?_)
      ·refine AC.skip (th_n (AC.seq (AC.block (AC.seq ?_))))
       have hk1 : k < M.1.length := by omega
       have hget := strs_at hk1
       have hxm := List.getElem_mem hk1
       obtain ⟨x, hx⟩ : ∃ x, x = M.1[k] := ⟨_, rfl⟩
       rw [← hx] at hget hxm
       have hxl := hml2 x hxm
       have hgm : (bstr x).data.toList[s]? = some (x.getD s 0) := bstr_getD (by omega)
       have hk1x := hK1 x hxm
       have hk0x := hK0 x hxm
       obtain ⟨X, hX⟩ : ∃ X, X = x.getD s 0 := ⟨_, rfl⟩
       rw [← hX] at hgm hk1x hk0x
       refine AC.region ?_
       refine AL.p (by exact g_ia_view rfl rfl rfl rfl rfl (by rfl) (by assumption)) rfl ?_
       refine AL.p (by exact g_load_ref rfl rfl rfl) rfl ?_
       refine AL.p (by exact as1 rfl) rfl ?_
       refine AL.nil (th_n (AC.seq (AC.region ?_)))
       refine AL.p (by exact mv1 rfl) rfl ?_
       refine AL.p (by exact as1 rfl) rfl ?_
       refine AL.nil (th_n (AC.seq (AC.seq (AC.region ?_))))
       refine AL.p (by exact mv1 rfl) rfl ?_
       refine AL.p (by exact mv1 rfl) rfl ?_
       refine AL.p (by exact g_index rfl rfl rfl (by rfl) (by assumption)) rfl ?_
       refine AL.p (by exact g_cmp rfl rfl rfl) rfl ?_
       refine AL.nil (th_n ?_)
       refine AC.condD rfl (fun h4 => ?_) (fun h4 => ?_)
       ·refine AC.region ?_
        refine AL.p (by exact mv1 rfl) rfl ?_
        refine AL.p (by exact as1 rfl) rfl ?_
        refine AL.nil (th_n (AC.seq (AC.region ?_)))
        refine AL.p (by exact mv1 rfl) rfl ?_
        refine AL.p (by exact mv1 rfl) rfl ?_
        (have e := hk1x (UInt8.toNat_inj.1 (by show X.toNat = 49; omega)); refine AL.q (by exact h_pure en_iCovHas rfl rfl (by repeat (first | exact rfl | exact DLead.same | refine ⟨_, _, rfl, ?_, ?_⟩)) e rfl) rfl ?_)
        refine AL.p (by exact mv5 rfl) rfl ?_
        refine AL.p (by exact g_extract (r := .d _) rfl rfl) rfl ?_
        refine AL.p (by exact g_extract (r := .d _) rfl rfl) rfl ?_
        refine AL.p (by exact as1 rfl) rfl ?_
        refine AL.p (by exact as1 rfl) rfl ?_
        refine AL.nil (th_n (AC.seq (AC.region ?_)))
        refine AL.p (by exact mv1 rfl) rfl ?_
        refine AL.p (by exact g_not rfl) rfl ?_
        refine AL.p (by exact mv1 rfl) rfl ?_
        refine AL.yes rfl rfl rfl ?_
        refine AL.p (by exact mv1 rfl) rfl ?_
        refine AL.yes rfl rfl rfl ?_
        refine AL.p (by exact g_not rfl) rfl ?_
        refine AL.p (by exact g_pickF (r := .d _) rfl rfl) rfl ?_
        refine AL.nil (th_n ?_)
        refine AC.condF rfl ?_
        refine AC.skip (ib_n (th_n (AC.region ?_)))
        refine AL.p (by exact g_arith rfl rfl rfl (by exact wrap_i64 (by omega))) rfl ?_
        refine AL.p (by exact mv1 rfl) rfl ?_
        refine AL.nil (th_n ?_)
        exact ⟨k + 1, by omega, by omega, Weak.ren _ [] hC rfl (by repeat (first | exact True.intro | refine And.intro ?_ ?_ | exact DLead.same)) (by repeat (exact True.intro)) rfl rfl rfl⟩
       ·refine AC.skip (th_n (AC.seq (AC.region ?_)))
        refine AL.p (by exact mv1 rfl) rfl ?_
        refine AL.p (by exact mv1 rfl) rfl ?_
        (have e := hk0x (fun q => ‹¬ (X.toNat : Int) = 49› (by rw [q]; rfl)); refine AL.q (by exact h_pure en_iCovHas rfl rfl (by repeat (first | exact rfl | exact DLead.same | refine ⟨_, _, rfl, ?_, ?_⟩)) e rfl) rfl ?_)
        refine AL.p (by exact mv5 rfl) rfl ?_
        refine AL.p (by exact g_extract (r := .d _) rfl rfl) rfl ?_
        refine AL.p (by exact g_extract (r := .d _) rfl rfl) rfl ?_
        refine AL.p (by exact as1 rfl) rfl ?_
        refine AL.p (by exact as1 rfl) rfl ?_
        refine AL.nil (th_n (AC.seq (AC.region ?_)))
        refine AL.p (by exact mv1 rfl) rfl ?_
        refine AL.p (by exact g_not rfl) rfl ?_
        refine AL.p (by exact mv1 rfl) rfl ?_
        refine AL.yes rfl rfl rfl ?_
        refine AL.p (by exact mv1 rfl) rfl ?_
        refine AL.yes rfl rfl rfl ?_
        refine AL.p (by exact g_not rfl) rfl ?_
        refine AL.p (by exact g_pickF (r := .d _) rfl rfl) rfl ?_
        refine AL.nil (th_n ?_)
        refine AC.condF rfl ?_
        refine AC.skip (ib_n (th_n (AC.region ?_)))
        refine AL.p (by exact g_arith rfl rfl rfl (by exact wrap_i64 (by omega))) rfl ?_
        refine AL.p (by exact mv1 rfl) rfl ?_
        refine AL.nil (th_n ?_)
        exact ⟨k + 1, by omega, by omega, Weak.ren _ [] hC rfl (by repeat (first | exact True.intro | refine And.intro ?_ ?_ | exact DLead.same)) (by repeat (exact True.intro)) rfl rfl rfl⟩
      ·refine AC.exit (th_e (th_e (ib_y (th_n (AC.seq ?_)))))
       refine AC.drawn' mixed_ok [[], [], [], [], [2,3], [], [5], [5,6], [5,6,7], [2,3,4,5,6,7,8], [0,1,2,3,4,5,6,7,8,9], [0,1,2,3,4,5,6,7,8,9,10], [0,1,2,3,4,5,6,7,8,9,10,11], [0,1,2,3,4,5,6,7,8,9,10,11], [0,1,2,3,4,5,6,7,8,9,10,11,12], [0,1,2,3,4,5,6,7,8,9,10,11,12,13,14]] (by decide) ?_
       refine DF.op 0 [] 16 rfl rfl rfl (.free rfl (NOp.of (by exact mv1 rfl))) rfl ?_
       refine DF.op 1 [] 16 rfl rfl rfl (.free rfl (NOp.of (by exact mv1 rfl))) rfl ?_
       refine DF.op 2 [] 16 rfl rfl rfl (.free rfl (by exact h_lit rfl rfl rfl rfl rfl rfl rfl rfl)) rfl ?_
       refine DF.op 3 [] 16 rfl rfl rfl (.free rfl (NOp.of (by exact mv1 rfl))) rfl ?_
       refine DF.op 4 [2,3] 16 rfl rfl rfl (.free rfl (by exact h_appendSt [] l (.own rfl rfl rfl) (.view rfl) (by simp only [List.nil_append]; omega) (by simp))) rfl ?_
       refine DF.op 5 [] 16 rfl rfl rfl (.free rfl (NOp.of (by exact mv1 rfl))) rfl ?_
       refine DF.op 6 [5] 16 rfl rfl rfl (.free rfl (NOp.of (by exact g_ia_view (i := 0) rfl rfl rfl rfl rfl rfl hget0))) rfl ?_
       refine DF.op 7 [5,6] 16 rfl rfl rfl (.free rfl (NOp.of (by exact g_load_ref rfl rfl rfl))) rfl ?_
       refine DF.op 8 [5,6,7] 16 rfl rfl rfl (.free rfl (by exact h_litF rfl rfl rfl rfl rfl rfl rfl rfl)) rfl ?_
       refine DF.op 9 [2,3,4,5,6,7,8] 16 rfl rfl rfl (.free rfl (by exact h_appendSt ([] ++ l) [fst0 l] (.own rfl rfl (strsL_len _).symm) (.view rfl) (by simp only [List.nil_append, List.length_append, List.length_cons, List.length_nil]; omega) (by simp))) rfl ?_
       refine DF.op 10 (List.range 10) 16 rfl rfl rfl (.free rfl (by exact h_borrow [672] en_iEquiv rfl rfl hQ (.cons (.of .d) (.cons (.of .d) (.cons (.of (.own (id := 672) rfl rfl (ownl _ _) (ownt _ _))) .nil))) rfl)) rfl ?_
       refine DF.op 11 (List.range 11) 16 rfl rfl rfl (.free rfl (NOp.of (by exact mv5 rfl))) rfl ?_
       refine DF.op 12 (List.range 12) 16 rfl rfl rfl (.free rfl (NOp.of (by exact g_extract (r := .d _) rfl rfl))) rfl ?_
       refine DF.op 13 (List.range 12) 16 rfl rfl rfl (.free rfl (NOp.of (by exact g_extract (r := .d _) rfl rfl))) rfl ?_
       refine DF.op 14 (List.range 13) 16 rfl rfl rfl (.free rfl (NOp.of (by exact as1 rfl))) rfl ?_
       refine DF.op 15 (List.range 15) 16 rfl rfl rfl (.free rfl (NOp.of (by exact as1 rfl))) rfl ?_
       refine DF.fin (ps := [(0,1),(0,2),(0,3),(0,4),(0,5),(0,6),(0,7),(0,8),(0,9),(1,0),(1,2),(1,3),(1,4),(1,5),(1,6),(1,7),(1,8),(1,9),(2,0),(2,1),(2,3),(2,5),(2,6),(2,7),(2,8),(3,0),(3,1),(3,2),(3,5),(3,6),(3,7),(3,8),(4,0),(4,1),(4,5),(4,6),(4,7),(4,8),(5,0),(5,1),(5,2),(5,3),(5,4),(6,0),(6,1),(6,2),(6,3),(6,4),(7,0),(7,1),(7,2),(7,3),(7,4),(8,0),(8,1),(8,2),(8,3),(8,4),(9,0),(9,1),(12,13),(13,12),(13,14),(14,13)]) 16 rfl (by decide +kernel) (by decide +kernel) (by rfl) ?_
       refine th_n (AC.seq (AC.region ?_))
       refine AL.p (by exact mv1 rfl) rfl ?_
       refine AL.p (by exact g_len_view (k := l.length) rfl rfl (strsL_len _)) rfl ?_
       refine AL.p (by exact g_cmp rfl rfl rfl) rfl ?_
       refine AL.p (by exact mv1 rfl) rfl ?_
       refine AL.caseG rfl rfl (fun h4 => ?_) (fun h4 => ?_)
       ·refine AL.yes rfl rfl rfl ?_
        refine AL.p (by exact mv1 rfl) rfl ?_
        refine AL.yes rfl rfl rfl ?_
        refine AL.p (by exact g_not rfl) rfl ?_
        refine AL.yes rfl rfl rfl ?_
        refine AL.p (by exact mv1 rfl) rfl ?_
        refine AL.yes rfl rfl rfl ?_
        refine AL.p (by exact mv1 rfl) rfl ?_
        refine AL.yes rfl rfl rfl ?_
        refine AL.p (by exact g_not rfl) rfl ?_
        refine AL.yes rfl rfl rfl ?_
        refine AL.p (by exact g_pickF (r := .d _) rfl rfl) rfl ?_
        refine AL.p (by exact g_pickT (r := .d _) rfl rfl) rfl ?_
        refine AL.nil (th_n ?_)
        refine AC.condF rfl ?_
        refine AC.skip (th_n ?_)
        exact ⟨(), trivial, Weak.ren _ [] hC rfl (by repeat (first | exact True.intro | refine And.intro ?_ ?_ | exact DLead.same)) (by repeat (exact True.intro)) rfl rfl rfl⟩
       ·refine AL.not rfl rfl rfl rfl rfl ?_
        refine AL.not rfl rfl rfl rfl rfl ?_
        refine AL.not rfl rfl rfl rfl rfl ?_
        refine AL.notU rfl rfl rfl ?_
        refine AL.notU rfl rfl rfl ?_
        refine AL.not rfl rfl rfl rfl rfl ?_
        refine AL.p (by exact g_pickF (r := .d _) rfl rfl) rfl ?_
        refine AL.nil (th_n ?_)
        refine AC.condF rfl ?_
        refine AC.skip (th_n ?_)
        exact ⟨(), trivial, Weak.ren _ [] hC rfl (by repeat (first | exact True.intro | refine And.intro ?_ ?_ | exact DLead.same)) (by repeat (exact True.intro)) rfl rfl rfl⟩
    ·refine AC.skip (th_n ?_)
     exact ⟨(), trivial, Weak.ren _ [] hC rfl (by repeat (first | exact True.intro | refine And.intro ?_ ?_ | exact DLead.same)) (by repeat (exact True.intro)) rfl rfl rfl⟩
   ·refine AL.not rfl rfl rfl rfl rfl ?_
    refine AL.not rfl rfl rfl rfl rfl ?_
    refine AL.not rfl rfl rfl rfl rfl ?_
    refine AL.p (by exact g_pickF (r := .d _) rfl rfl) rfl ?_
    refine AL.nil (th_n ?_)
    refine AC.condF rfl ?_
    refine AC.skip (th_n ?_)
    exact ⟨(), trivial, Weak.ren _ [] hC rfl (by repeat (first | exact True.intro | refine And.intro ?_ ?_ | exact DLead.same)) (by repeat (exact True.intro)) rfl rfl rfl⟩
  ·intro _ _
   refine AC.seq (AC.region ?_)
   refine AL.p (by exact mv1 rfl) rfl ?_
   refine AL.q (by exact h_pure en_sDrawCofac rfl rfl (by repeat (first | exact rfl | exact DLead.same | refine ⟨_, _, rfl, ?_, ?_⟩)) hD2 rfl) rfl ?_
   refine AL.p (by exact mv5 rfl) rfl ?_
   refine AL.p (by exact g_extract (r := .d _) rfl rfl) rfl ?_
   refine AL.p (by exact g_extract (r := .d _) rfl rfl) rfl ?_
   refine AL.p (by exact g_extract (r := .d _) rfl rfl) rfl ?_
   refine AL.p (by exact as1 rfl) rfl ?_
   refine AL.p (by exact as1 rfl) rfl ?_
   refine AL.p (by exact as1 rfl) rfl ?_
   refine AL.nil (th_n (AC.seq (AC.region ?_)))
   refine AL.p (by exact mv1 rfl) rfl ?_
   refine AL.p (by exact mv1 rfl) rfl ?_
   refine AL.p (by exact mv1 rfl) rfl ?_
   refine AL.q (by exact h_pure en_iCofac rfl rfl (by repeat (first | exact rfl | exact DLead.same | refine ⟨_, _, rfl, ?_, ?_⟩)) hC1 rfl) rfl ?_
   refine AL.p (by exact mv5 rfl) rfl ?_
   refine AL.p (by exact g_extract (r := .d _) rfl rfl) rfl ?_
   refine AL.p (by exact g_extract (r := .d _) rfl rfl) rfl ?_
   refine AL.p (by exact as1 rfl) rfl ?_
   refine AL.p (by exact as1 rfl) rfl ?_
   refine AL.nil (th_n (AC.seq (AC.region ?_)))
   refine AL.p (by exact mv1 rfl) rfl ?_
   refine AL.p (by exact mv1 rfl) rfl ?_
   refine AL.p (by exact mv1 rfl) rfl ?_
   refine AL.q (by exact h_pure en_sCofac rfl rfl (by repeat (first | exact rfl | exact DLead.same | refine ⟨_, _, rfl, ?_, ?_⟩)) hC2 rfl) rfl ?_
   refine AL.p (by exact mv5 rfl) rfl ?_
   refine AL.p (by exact g_extract (r := .d _) rfl rfl) rfl ?_
   refine AL.p (by exact g_extract (r := .d _) rfl rfl) rfl ?_
   refine AL.p (by exact as1 rfl) rfl ?_
   refine AL.p (by exact as1 rfl) rfl ?_
   refine AL.nil (th_n (AC.seq (AC.region ?_)))
   refine AL.p (by exact mv1 rfl) rfl ?_
   refine AL.q (by exact h_pure en_sDrawCovHas rfl rfl (by repeat (first | exact rfl | exact DLead.same | refine ⟨_, _, rfl, ?_, ?_⟩)) hD3 rfl) rfl ?_
   refine AL.p (by exact mv5 rfl) rfl ?_
   refine AL.p (by exact g_extract (r := .d _) rfl rfl) rfl ?_
   refine AL.p (by exact g_extract (r := .d _) rfl rfl) rfl ?_
   refine AL.p (by exact as1 rfl) rfl ?_
   refine AL.p (by exact as1 rfl) rfl ?_
   refine AL.nil (th_n (AC.seq (AC.region ?_)))
   refine AL.p (by exact mv1 rfl) rfl ?_
   refine AL.p (by exact mv1 rfl) rfl ?_
   refine AL.q (by exact h_pure en_iCovHas rfl rfl (by repeat (first | exact rfl | exact DLead.same | refine ⟨_, _, rfl, ?_, ?_⟩)) hH1 rfl) rfl ?_
   refine AL.p (by exact mv5 rfl) rfl ?_
   refine AL.p (by exact g_extract (r := .d _) rfl rfl) rfl ?_
   refine AL.p (by exact g_extract (r := .d _) rfl rfl) rfl ?_
   refine AL.p (by exact as1 rfl) rfl ?_
   refine AL.p (by exact as1 rfl) rfl ?_
   refine AL.nil (th_n (AC.seq (AC.region ?_)))
   refine AL.p (by exact mv1 rfl) rfl ?_
   refine AL.p (by exact mv1 rfl) rfl ?_
   refine AL.q (by exact h_pure en_sCovHas rfl rfl (by repeat (first | exact rfl | exact DLead.same | refine ⟨_, _, rfl, ?_, ?_⟩)) hH2 rfl) rfl ?_
   refine AL.p (by exact mv5 rfl) rfl ?_
   refine AL.p (by exact g_extract (r := .d _) rfl rfl) rfl ?_
   refine AL.p (by exact g_extract (r := .d _) rfl rfl) rfl ?_
   refine AL.p (by exact as1 rfl) rfl ?_
   refine AL.p (by exact as1 rfl) rfl ?_
   refine AL.nil (th_n (AC.seq ?_))
   refine AC.weak (t := ⟨303, 1200, [(1, .d (vB more)), (30, .d (vSs K.1)), (31, aT K.2), (32, .d (vSs K.1)), (33, aT K.2), (36, aT H.1), (37, aT H.2), (38, aT H.1), (39, aT H.2)], []⟩) (Weak.ren _ [] hC rfl (by repeat (first | exact True.intro | refine And.intro ?_ ?_ | exact DLead.same)) (by repeat (exact True.intro)) rfl rfl rfl) ?_
   refine AC.region ?_
   refine AL.p (by exact mv1 rfl) rfl ?_
   refine AL.q (by exact h_pure en_sDrawEquiv rfl rfl (by repeat (first | exact rfl | exact DLead.same | refine ⟨_, _, rfl, ?_, ?_⟩)) hD4 rfl) rfl ?_
   refine AL.p (by exact mv5 rfl) rfl ?_
   refine AL.p (by exact g_extract (r := .d _) rfl rfl) rfl ?_
   refine AL.p (by exact g_extract (r := .d _) rfl rfl) rfl ?_
   refine AL.p (by exact g_extract (r := .d _) rfl rfl) rfl ?_
   refine AL.p (by exact as1 rfl) rfl ?_
   refine AL.p (by exact as1 rfl) rfl ?_
   refine AL.p (by exact as1 rfl) rfl ?_
   refine AL.nil (th_n (AC.seq (AC.region ?_)))
   refine AL.p (by exact mv1 rfl) rfl ?_
   refine AL.p (by exact mv1 rfl) rfl ?_
   refine AL.p (by exact mv1 rfl) rfl ?_
   refine AL.q (by exact h_pure en_iEquiv rfl rfl (by repeat (first | exact rfl | exact DLead.same | refine ⟨_, _, rfl, ?_, ?_⟩)) hE1 rfl) rfl ?_
   refine AL.p (by exact mv5 rfl) rfl ?_
   refine AL.p (by exact g_extract (r := .d _) rfl rfl) rfl ?_
   refine AL.p (by exact g_extract (r := .d _) rfl rfl) rfl ?_
   refine AL.p (by exact as1 rfl) rfl ?_
   refine AL.p (by exact as1 rfl) rfl ?_
   refine AL.nil (th_n (AC.seq (AC.region ?_)))
   refine AL.p (by exact mv1 rfl) rfl ?_
   refine AL.p (by exact mv1 rfl) rfl ?_
   refine AL.p (by exact mv1 rfl) rfl ?_
   refine AL.q (by exact h_pure en_sEquiv rfl rfl (by repeat (first | exact rfl | exact DLead.same | refine ⟨_, _, rfl, ?_, ?_⟩)) hE2 rfl) rfl ?_
   refine AL.p (by exact mv5 rfl) rfl ?_
   refine AL.p (by exact g_extract (r := .d _) rfl rfl) rfl ?_
   refine AL.p (by exact g_extract (r := .d _) rfl rfl) rfl ?_
   refine AL.p (by exact as1 rfl) rfl ?_
   refine AL.p (by exact as1 rfl) rfl ?_
   refine AL.nil (th_n (AC.seq (AC.region ?_)))
   refine AL.p (by exact mv1 rfl) rfl ?_
   refine AL.q (by exact h_pure en_sDrawFmtCov rfl rfl (by repeat (first | exact rfl | exact DLead.same | refine ⟨_, _, rfl, ?_, ?_⟩)) hD5 rfl) rfl ?_
   refine AL.p (by exact mv5 rfl) rfl ?_
   refine AL.p (by exact g_extract (r := .d _) rfl rfl) rfl ?_
   refine AL.p (by exact g_extract (r := .d _) rfl rfl) rfl ?_
   refine AL.p (by exact as1 rfl) rfl ?_
   refine AL.p (by exact as1 rfl) rfl ?_
   refine AL.nil (th_n (AC.seq (AC.region ?_)))
   refine AL.p (by exact mv1 rfl) rfl ?_
   refine AL.p (by exact mv1 rfl) rfl ?_
   refine AL.q (by exact h_pure en_iFmtCov rfl rfl (by repeat (first | exact rfl | exact DLead.same | refine ⟨_, _, rfl, ?_, ?_⟩)) hF1 rfl) rfl ?_
   refine AL.p (by exact mv5 rfl) rfl ?_
   refine AL.p (by exact g_extract (r := .d _) rfl rfl) rfl ?_
   refine AL.p (by exact g_extract (r := .d _) rfl rfl) rfl ?_
   refine AL.p (by exact as1 rfl) rfl ?_
   refine AL.p (by exact as1 rfl) rfl ?_
   refine AL.nil (th_n (AC.seq (AC.region ?_)))
   refine AL.p (by exact mv1 rfl) rfl ?_
   refine AL.p (by exact mv1 rfl) rfl ?_
   refine AL.q (by exact h_pure en_sFmtCov rfl rfl (by repeat (first | exact rfl | exact DLead.same | refine ⟨_, _, rfl, ?_, ?_⟩)) hF2 rfl) rfl ?_
   refine AL.p (by exact mv5 rfl) rfl ?_
   refine AL.p (by exact g_extract (r := .d _) rfl rfl) rfl ?_
   refine AL.p (by exact g_extract (r := .d _) rfl rfl) rfl ?_
   refine AL.p (by exact as1 rfl) rfl ?_
   refine AL.p (by exact as1 rfl) rfl ?_
   refine AL.nil (th_n (AC.seq ?_))
   refine AC.weak (t := ⟨303, 1500, [(30, .d (vSs K.1)), (31, aT K.2), (32, .d (vSs K.1)), (33, aT K.2), (36, aT H.1), (37, aT H.2), (38, aT H.1), (39, aT H.2), (43, aT E.1), (44, aT E.2), (45, aT E.1), (46, aT E.2), (49, aS (bstr F.1)), (50, aT F.2), (51, aS (bstr F.1)), (52, aT F.2)], []⟩) (Weak.ren _ [] hC rfl (by repeat (first | exact True.intro | refine And.intro ?_ ?_ | exact DLead.same)) (by repeat (exact True.intro)) rfl rfl rfl) ?_
   refine AC.region ?_
   refine AL.p (by exact mv1 rfl) rfl ?_
   refine AL.p (by exact mv1 rfl) rfl ?_
   refine AL.p (by exact g_eqBr rfl rfl rfl) rfl ?_
   refine AL.p (by exact mv1 rfl) rfl ?_
   refine AL.yes rfl rfl rfl ?_
   refine AL.p (by exact mv1 rfl) rfl ?_
   refine AL.yes rfl rfl rfl ?_
   refine AL.p (by exact mv1 rfl) rfl ?_
   refine AL.yes rfl rfl rfl ?_
   refine AL.q (by exact h_pure en_sameTexts rfl rfl (by repeat (first | exact rfl | exact DLead.same | refine ⟨_, _, rfl, ?_, ?_⟩)) hS2 rfl) rfl ?_
   refine AL.p (by exact g_pickT (r := .d _) rfl rfl) rfl ?_
   refine AL.p (by exact mv1 rfl) rfl ?_
   refine AL.yes rfl rfl rfl ?_
   refine AL.p (by exact mv1 rfl) rfl ?_
   refine AL.yes rfl rfl rfl ?_
   refine AL.p (by exact mv1 rfl) rfl ?_
   refine AL.yes rfl rfl rfl ?_
   refine AL.p (by exact g_eqBr rfl rfl rfl) rfl ?_
   refine AL.p (by exact g_pickT (r := .d _) rfl rfl) rfl ?_
   refine AL.p (by exact mv1 rfl) rfl ?_
   refine AL.yes rfl rfl rfl ?_
   refine AL.p (by exact mv1 rfl) rfl ?_
   refine AL.yes rfl rfl rfl ?_
   refine AL.p (by exact mv1 rfl) rfl ?_
   refine AL.yes rfl rfl rfl ?_
   refine AL.p (by exact g_eqBr rfl rfl rfl) rfl ?_
   refine AL.p (by exact g_pickT (r := .d _) rfl rfl) rfl ?_
   refine AL.p (by exact mv1 rfl) rfl ?_
   refine AL.yes rfl rfl rfl ?_
   refine AL.p (by exact mv1 rfl) rfl ?_
   refine AL.yes rfl rfl rfl ?_
   refine AL.p (by exact mv1 rfl) rfl ?_
   refine AL.yes rfl rfl rfl ?_
   refine AL.p (by exact g_eqBr rfl rfl rfl) rfl ?_
   refine AL.p (by exact g_pickT (r := .d _) rfl rfl) rfl ?_
   refine AL.p (by exact mv1 rfl) rfl ?_
   refine AL.yes rfl rfl rfl ?_
   refine AL.p (by exact mv1 rfl) rfl ?_
   refine AL.yes rfl rfl rfl ?_
   refine AL.p (by exact mv1 rfl) rfl ?_
   refine AL.yes rfl rfl rfl ?_
   refine AL.p (by exact g_eqBr rfl rfl rfl) rfl ?_
   refine AL.p (by exact g_pickT (r := .d _) rfl rfl) rfl ?_
   refine AL.p (by exact mv1 rfl) rfl ?_
   refine AL.yes rfl rfl rfl ?_
   refine AL.p (by exact mv1 rfl) rfl ?_
   refine AL.yes rfl rfl rfl ?_
   refine AL.p (by exact mv1 rfl) rfl ?_
   refine AL.yes rfl rfl rfl ?_
   refine AL.p (by exact g_eqBr rfl rfl rfl) rfl ?_
   refine AL.p (by exact g_pickT (r := .d _) rfl rfl) rfl ?_
   refine AL.p (by exact mv1 rfl) rfl ?_
   refine AL.yes rfl rfl rfl ?_
   refine AL.p (by exact mv1 rfl) rfl ?_
   refine AL.yes rfl rfl rfl ?_
   refine AL.p (by exact mv1 rfl) rfl ?_
   refine AL.yes rfl rfl rfl ?_
   refine AL.p (by exact g_scmp rfl rfl rfl) rfl ?_
   refine AL.p (by exact g_pickT (r := .d _) rfl rfl) rfl ?_
   refine AL.p (by exact as1 rfl) rfl ?_
   refine AL.nil (th_n (AC.ret (bq_r ?_)))
   exact ret1 rfl (by simp)
theorem FnCovers_spec (code more : List UInt8) (hc : code.length ≤ 9223372036854775807) (hm : more.length ≤ 9223372036854775807) : ASpec Tryz.prog 3 [.d (vB code), .d (vB more)] [] (Pure1 (aT true)) := by
 obtain ⟨n, l, _, hl, hlx, hD1⟩ := sDrawMint_ex code
 obtain ⟨lc, sg, up, hlc, hlcx, _, hD2⟩ := sDrawCofac_ex more
 obtain ⟨lh, xh, hlh, hlhx, hxh, hD3⟩ := sDrawCovHas_ex more
 obtain ⟨ne, ae, be, _, hae, haex, hbe, hbex, hD4⟩ := sDrawEquiv_ex more
 obtain ⟨sF, lF, hsF, hsFx, hlF, hlFx, hD5⟩ := sDrawFmtCov_ex more
 exact FnCovers_gen code more n l lc lh ae be lF sg up xh ne sF hc hm hl hlx hlc hlcx hlh hlhx hxh hae haex hbe hbex hsF hsFx hlF hlFx hD1 hD2 hD3 hD4 hD5
end Go.Proofs.YtoicgeakgfiobaaGreat
