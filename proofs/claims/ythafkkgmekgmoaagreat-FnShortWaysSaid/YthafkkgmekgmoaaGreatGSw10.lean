/- Contracts of the functions of the program and of the reference, each proved by a walk through its code. -/
import Derived.WalkKit
import Derived.WalkSpells
import Derived.WalkLawsBesides
import Derived.Deep.Draws
import Derived.Lib.Hide
import Derived.Maps.AppendAt
import Derived.OwnWalk
import Derived.Deep.MidRow
import Derived.Laws.ResultCell
import Derived.Deep.Upon
import Derived.Great.FillDense
import Derived.Laws.Tables
import Derived.Laws.BytesArg
import Derived.Laws.MakeOwn
import Derived.Great.BuildSlice
import Derived.ArgAppend
import Derived.Deep.AppendSrc
import Derived.Test.YthafkkgmekgmoaaGreatProg
import Derived.KernelRfl
import Derived.Orders
import Derived.Laws.IdiomStrings
import Derived.Lib.AppendZerosOnto
import Derived.ProofKit
import Derived.OpenShut
import Derived.Lib.SliceRun
import Derived.Laws.StructEq
import Derived.ChangeKeysEq
import Derived.Sort.Grow
import Derived.Laws.RangeString
import Derived.Below
import Derived.Laws.Small
import Derived.MapKept
import Derived.WideMake
import Derived.Laws.IdiomCopy
import Derived.Shelf.Strings.Builder1
import Derived.Shelf.Strings.Builder2
import Derived.Shelf.Strings.OnBuilder
import Derived.Shelf.Bits.Mul64
import Derived.Test.YthafkkgmekgmoaaGreatRows
import Derived.Test.YthafkkgmekgmoaaGreatGSw9
set_option linter.all false
set_option maxRecDepth 20000
namespace Go.Proofs.YthafkkgmekgmoaaGreat
open Go.RowKit
def okS (s : Stg) : Bool := decide (1 ≤ s.net.ts.length) && decide (0 ≤ s.net.places) && decide (s.net.places ≤ 40) && decide (s.net.ts.length ≤ 13) && s.net.ts.all (fun t => decide (t.pre.length ≤ 4) && decide (t.post.length ≤ 4)) && decide (1 ≤ s.sigs.length) && decide (s.sigs.length ≤ 8) && s.sigs.all (fun x => decide (x.name.length ≤ 10)) && decide (1 ≤ s.labs.length) && decide (s.labs.length ≤ 20) && s.labs.all (fun x => decide (-10 ≤ x.sig) && decide (x.sig ≤ 10)) && decide (s.start.length ≤ 40)
structure StgS (s : Stg) : Prop where
 p : 0 ≤ s.net.places ∧ s.net.places ≤ 40
 tl : s.net.ts.length ≤ 13
 t : ∀ t, t ∈ s.net.ts → t.pre.length ≤ 4 ∧ t.post.length ≤ 4
 s0 : 1 ≤ s.sigs.length
 sl : s.sigs.length ≤ 8
 sn : ∀ x, x ∈ s.sigs → x.name.length ≤ 10
 ll : s.labs.length ≤ 20
 lb : ∀ x, x ∈ s.labs → -10 ≤ x.sig ∧ x.sig ≤ 10
 st : s.start.length ≤ 60
theorem okS_S {s : Stg} (h : okS s = true) : StgS s ∧ 1 ≤ s.labs.length ∧ s.start.length ≤ 40 := by
 simp only [okS, Bool.and_eq_true, decide_eq_true_eq, List.all_eq_true] at h
 obtain ⟨⟨⟨⟨⟨⟨⟨⟨⟨⟨⟨h0, h1⟩, h2⟩, h3⟩, h4⟩, h5⟩, h6⟩, h7⟩, h8⟩, h9⟩, h10⟩, h11⟩ := h
 exact ⟨⟨⟨h1, h2⟩, h3, h4, h5, h6, h7, h9, h10, by omega⟩, h8, h11⟩
theorem StgS.B {s : Stg} (h : StgS s) : StgB s := ⟨⟨by have := h.p; omega, by have := h.tl; omega, fun t ht => by have := h.t t ht; omega⟩, by have := h.sl; omega, fun t ht => by have := h.sn t ht; omega, by have := h.ll; omega, fun x hx => by have := h.lb x hx; omega, by have := h.st; omega⟩
def plS0 : Stg := buildS [97, 98] [99] [] [97, 43, 62, 99, 43, 32, 98, 43, 62, 99, 43, 32, 99, 43, 62, 97, 45, 32, 99, 43, 62, 98, 45, 32, 97, 45, 62, 99, 45, 32, 98, 45, 62, 99, 45, 32, 42, 99, 45, 62, 97, 43, 32, 42, 99, 45, 62, 98, 43]
theorem plS0_ok : okS plS0 = true := by decide +kernel
def plS1 : Stg := buildS [97] [98] [] [97, 43, 62, 98, 43, 32, 98, 43, 62, 97, 45, 32, 97, 45, 62, 98, 45, 32, 42, 98, 45, 62, 97, 43]
theorem plS1_ok : okS plS1 = true := by decide +kernel
def plS2 : Stg := buildS [114] [120, 121] [] [114, 43, 62, 120, 43, 32, 114, 43, 62, 121, 43, 32, 120, 43, 62, 114, 45, 32, 121, 43, 62, 114, 45, 32, 114, 45, 62, 120, 45, 32, 114, 45, 62, 121, 45, 32, 42, 120, 45, 62, 114, 43, 32, 42, 121, 45, 62, 114, 43]
theorem plS2_ok : okS plS2 = true := by decide +kernel
def plS3 : Stg := buildS [97, 100] [98, 99] [] [97, 43, 62, 98, 43, 32, 98, 43, 62, 100, 43, 32, 100, 43, 62, 99, 43, 32, 99, 43, 62, 97, 45, 32, 97, 45, 62, 98, 45, 32, 98, 45, 62, 100, 45, 32, 100, 45, 62, 99, 45, 32, 42, 99, 45, 62, 97, 43]
theorem plS3_ok : okS plS3 = true := by decide +kernel
def plS4 : Stg := buildS [97] [98] [120] [97, 43, 62, 120, 43, 32, 120, 43, 62, 98, 43, 32, 98, 43, 62, 97, 45, 32, 97, 45, 62, 120, 45, 32, 120, 45, 62, 98, 45, 32, 42, 98, 45, 62, 97, 43]
theorem plS4_ok : okS plS4 = true := by decide +kernel
def plS5 : Stg := buildS [97, 98] [99] [] [42, 95, 112, 62, 97, 43, 32, 95, 112, 62, 98, 43, 32, 97, 43, 62, 99, 43, 47, 49, 32, 99, 43, 47, 49, 62, 97, 45, 32, 97, 45, 62, 99, 45, 47, 49, 32, 99, 45, 47, 49, 62, 95, 112, 32, 98, 43, 62, 99, 43, 47, 50, 32, 99, 43, 47, 50, 62, 98, 45, 32, 98, 45, 62, 99, 45, 47, 50, 32, 99, 45, 47, 50, 62, 95, 112]
theorem plS5_ok : okS plS5 = true := by decide +kernel
def plS6 : Stg := buildS [97] [98] [] [97, 43, 62, 126, 32, 126, 62, 98, 43, 32, 98, 43, 62, 97, 45, 32, 97, 45, 62, 98, 45, 32, 42, 98, 45, 62, 97, 43]
theorem plS6_ok : okS plS6 = true := by decide +kernel
def grS0 : Stg := buildS [114] [120, 121] [] [42, 121, 45, 62, 114, 43, 32, 114, 43, 62, 120, 43, 32, 120, 43, 62, 120, 45, 32, 120, 45, 62, 121, 43, 32, 121, 43, 62, 114, 45, 32, 114, 45, 62, 121, 45]
theorem grS0_ok : okS grS0 = true := by decide +kernel
def grS1 : Stg := buildS [97] [98, 99] [] [42, 97, 45, 62, 97, 43, 32, 97, 43, 62, 95, 112, 32, 95, 112, 62, 98, 43, 32, 95, 112, 62, 99, 43, 32, 98, 43, 62, 98, 45, 32, 99, 43, 62, 99, 45, 32, 98, 45, 62, 95, 113, 32, 99, 45, 62, 95, 113, 32, 95, 113, 62, 97, 45]
theorem grS1_ok : okS grS1 = true := by decide +kernel
def grS2 : Stg := buildS [97] [98] [] [97, 43, 47, 49, 62, 98, 43, 32, 98, 43, 62, 97, 43, 47, 50, 32, 97, 43, 47, 50, 62, 98, 45, 32, 42, 98, 45, 62, 97, 43, 47, 49]
theorem grS2_ok : okS grS2 = true := by decide +kernel
def grS4 : Stg := buildS [97] [98] [] [42, 95, 112, 62, 97, 43, 32, 97, 43, 62, 98, 43, 32, 98, 43, 62, 95, 113]
theorem grS4_ok : okS grS4 = true := by decide +kernel
def twS0 : Stg := buildS [112] [113] [] [112, 43, 62, 113, 43, 32, 113, 43, 62, 112, 45, 32, 112, 45, 62, 113, 45, 32, 42, 113, 45, 62, 112, 43]
theorem twS0_ok : okS twS0 = true := by decide +kernel
def twS1 : Stg := buildS [97] [98] [] [97, 43, 62, 98, 43, 32, 98, 43, 62, 97, 45, 32, 97, 45, 62, 98, 45, 32, 42, 98, 45, 62, 97, 43]
theorem twS1_ok : okS twS1 = true := by decide +kernel
def grS3 : Stg := unionT twS0 twS1
theorem grS3_ok : okS grS3 = true := by decide +kernel
theorem twS_ok : (unionS twS0 twS1).2 = true := by decide +kernel
theorem twS_net : okS ⟨(unionR twS0.net twS1.net).1, twS0.sigs, twS0.labs, []⟩ = true := by decide +kernel
def plS (i : Int) : Stg := if i = 0 then plS0 else if i = 1 then plS1 else if i = 2 then plS2 else if i = 3 then plS3 else if i = 4 then plS4 else if i = 5 then plS5 else plS6
theorem plS_ok (i : Int) : okS (plS i) = true := by
 unfold plS
 split
 ·exact plS0_ok
 split
 ·exact plS1_ok
 split
 ·exact plS2_ok
 split
 ·exact plS3_ok
 split
 ·exact plS4_ok
 split
 ·exact plS5_ok
 exact plS6_ok
def stgI (c : Cur) : Stg × Cur := if (c.pick 9).1 = 0 then (grS0, (c.pick 9).2) else if (c.pick 9).1 = 1 then (grS1, (c.pick 9).2) else if (c.pick 9).1 = 2 then (grS2, (c.pick 9).2) else if (c.pick 9).1 = 3 then (grS3, (c.pick 9).2) else if (c.pick 9).1 = 4 then (grS4, (c.pick 9).2) else (plS ((c.pick 9).2.pick 7).1, ((c.pick 9).2.pick 7).2)
theorem stgI_in (c : Cur) : okS (stgI c).1 = true ∧ (stgI c).2.pos ≤ c.pos + 4 ∧ (stgI c).2.code = c.code := by
 have h1 := c.pick_pos 9
 have h2 := (c.pick 9).2.pick_pos 7
 have k1 := c.pick_code 9
 have k2 := (c.pick 9).2.pick_code 7
 unfold stgI
 split
 ·exact ⟨grS0_ok, by dsimp only; omega, k1⟩
 split
 ·exact ⟨grS1_ok, by dsimp only; omega, k1⟩
 split
 ·exact ⟨grS2_ok, by dsimp only; omega, k1⟩
 split
 ·exact ⟨grS3_ok, by dsimp only; omega, k1⟩
 split
 ·exact ⟨grS4_ok, by dsimp only; omega, k1⟩
 exact ⟨plS_ok _, by dsimp only; omega, k2.trans k1⟩
theorem plS0_spec : ASpec Tryz.prog 145 [aS (bstr [97, 98]), aS (bstr [99]), aS (bstr []), aS (bstr [97, 43, 62, 99, 43, 32, 98, 43, 62, 99, 43, 32, 99, 43, 62, 97, 45, 32, 99, 43, 62, 98, 45, 32, 97, 45, 62, 99, 45, 32, 98, 45, 62, 99, 45, 32, 42, 99, 45, 62, 97, 43, 32, 42, 99, 45, 62, 98, 43])] [] (Fun1 (stgO plS0 0 1 2) (stgChs plS0 0 1 2)) := l2Build_spec _ _ _ _ (by decide) (by decide) (by decide) (by decide) (by decide +kernel)
theorem plS1_spec : ASpec Tryz.prog 145 [aS (bstr [97]), aS (bstr [98]), aS (bstr []), aS (bstr [97, 43, 62, 98, 43, 32, 98, 43, 62, 97, 45, 32, 97, 45, 62, 98, 45, 32, 42, 98, 45, 62, 97, 43])] [] (Fun1 (stgO plS1 0 1 2) (stgChs plS1 0 1 2)) := l2Build_spec _ _ _ _ (by decide) (by decide) (by decide) (by decide) (by decide +kernel)
theorem plS2_spec : ASpec Tryz.prog 145 [aS (bstr [114]), aS (bstr [120, 121]), aS (bstr []), aS (bstr [114, 43, 62, 120, 43, 32, 114, 43, 62, 121, 43, 32, 120, 43, 62, 114, 45, 32, 121, 43, 62, 114, 45, 32, 114, 45, 62, 120, 45, 32, 114, 45, 62, 121, 45, 32, 42, 120, 45, 62, 114, 43, 32, 42, 121, 45, 62, 114, 43])] [] (Fun1 (stgO plS2 0 1 2) (stgChs plS2 0 1 2)) := l2Build_spec _ _ _ _ (by decide) (by decide) (by decide) (by decide) (by decide +kernel)
theorem plS3_spec : ASpec Tryz.prog 145 [aS (bstr [97, 100]), aS (bstr [98, 99]), aS (bstr []), aS (bstr [97, 43, 62, 98, 43, 32, 98, 43, 62, 100, 43, 32, 100, 43, 62, 99, 43, 32, 99, 43, 62, 97, 45, 32, 97, 45, 62, 98, 45, 32, 98, 45, 62, 100, 45, 32, 100, 45, 62, 99, 45, 32, 42, 99, 45, 62, 97, 43])] [] (Fun1 (stgO plS3 0 1 2) (stgChs plS3 0 1 2)) := l2Build_spec _ _ _ _ (by decide) (by decide) (by decide) (by decide) (by decide +kernel)
theorem plS4_spec : ASpec Tryz.prog 145 [aS (bstr [97]), aS (bstr [98]), aS (bstr [120]), aS (bstr [97, 43, 62, 120, 43, 32, 120, 43, 62, 98, 43, 32, 98, 43, 62, 97, 45, 32, 97, 45, 62, 120, 45, 32, 120, 45, 62, 98, 45, 32, 42, 98, 45, 62, 97, 43])] [] (Fun1 (stgO plS4 0 1 2) (stgChs plS4 0 1 2)) := l2Build_spec _ _ _ _ (by decide) (by decide) (by decide) (by decide) (by decide +kernel)
theorem plS5_spec : ASpec Tryz.prog 145 [aS (bstr [97, 98]), aS (bstr [99]), aS (bstr []), aS (bstr [42, 95, 112, 62, 97, 43, 32, 95, 112, 62, 98, 43, 32, 97, 43, 62, 99, 43, 47, 49, 32, 99, 43, 47, 49, 62, 97, 45, 32, 97, 45, 62, 99, 45, 47, 49, 32, 99, 45, 47, 49, 62, 95, 112, 32, 98, 43, 62, 99, 43, 47, 50, 32, 99, 43, 47, 50, 62, 98, 45, 32, 98, 45, 62, 99, 45, 47, 50, 32, 99, 45, 47, 50, 62, 95, 112])] [] (Fun1 (stgO plS5 0 1 2) (stgChs plS5 0 1 2)) := l2Build_spec _ _ _ _ (by decide) (by decide) (by decide) (by decide) (by decide +kernel)
theorem plS6_spec : ASpec Tryz.prog 145 [aS (bstr [97]), aS (bstr [98]), aS (bstr []), aS (bstr [97, 43, 62, 126, 32, 126, 62, 98, 43, 32, 98, 43, 62, 97, 45, 32, 97, 45, 62, 98, 45, 32, 42, 98, 45, 62, 97, 43])] [] (Fun1 (stgO plS6 0 1 2) (stgChs plS6 0 1 2)) := l2Build_spec _ _ _ _ (by decide) (by decide) (by decide) (by decide) (by decide +kernel)
theorem grS0_spec : ASpec Tryz.prog 145 [aS (bstr [114]), aS (bstr [120, 121]), aS (bstr []), aS (bstr [42, 121, 45, 62, 114, 43, 32, 114, 43, 62, 120, 43, 32, 120, 43, 62, 120, 45, 32, 120, 45, 62, 121, 43, 32, 121, 43, 62, 114, 45, 32, 114, 45, 62, 121, 45])] [] (Fun1 (stgO grS0 0 1 2) (stgChs grS0 0 1 2)) := l2Build_spec _ _ _ _ (by decide) (by decide) (by decide) (by decide) (by decide +kernel)
theorem grS1_spec : ASpec Tryz.prog 145 [aS (bstr [97]), aS (bstr [98, 99]), aS (bstr []), aS (bstr [42, 97, 45, 62, 97, 43, 32, 97, 43, 62, 95, 112, 32, 95, 112, 62, 98, 43, 32, 95, 112, 62, 99, 43, 32, 98, 43, 62, 98, 45, 32, 99, 43, 62, 99, 45, 32, 98, 45, 62, 95, 113, 32, 99, 45, 62, 95, 113, 32, 95, 113, 62, 97, 45])] [] (Fun1 (stgO grS1 0 1 2) (stgChs grS1 0 1 2)) := l2Build_spec _ _ _ _ (by decide) (by decide) (by decide) (by decide) (by decide +kernel)
theorem grS2_spec : ASpec Tryz.prog 145 [aS (bstr [97]), aS (bstr [98]), aS (bstr []), aS (bstr [97, 43, 47, 49, 62, 98, 43, 32, 98, 43, 62, 97, 43, 47, 50, 32, 97, 43, 47, 50, 62, 98, 45, 32, 42, 98, 45, 62, 97, 43, 47, 49])] [] (Fun1 (stgO grS2 0 1 2) (stgChs grS2 0 1 2)) := l2Build_spec _ _ _ _ (by decide) (by decide) (by decide) (by decide) (by decide +kernel)
theorem grS4_spec : ASpec Tryz.prog 145 [aS (bstr [97]), aS (bstr [98]), aS (bstr []), aS (bstr [42, 95, 112, 62, 97, 43, 32, 97, 43, 62, 98, 43, 32, 98, 43, 62, 95, 113])] [] (Fun1 (stgO grS4 0 1 2) (stgChs grS4 0 1 2)) := l2Build_spec _ _ _ _ (by decide) (by decide) (by decide) (by decide) (by decide +kernel)
theorem twS0_spec : ASpec Tryz.prog 145 [aS (bstr [112]), aS (bstr [113]), aS (bstr []), aS (bstr [112, 43, 62, 113, 43, 32, 113, 43, 62, 112, 45, 32, 112, 45, 62, 113, 45, 32, 42, 113, 45, 62, 112, 43])] [] (Fun1 (stgO twS0 0 1 2) (stgChs twS0 0 1 2)) := l2Build_spec _ _ _ _ (by decide) (by decide) (by decide) (by decide) (by decide +kernel)
theorem twS1_spec : ASpec Tryz.prog 145 [aS (bstr [97]), aS (bstr [98]), aS (bstr []), aS (bstr [97, 43, 62, 98, 43, 32, 98, 43, 62, 97, 45, 32, 97, 45, 62, 98, 45, 32, 42, 98, 45, 62, 97, 43])] [] (Fun1 (stgO twS1 0 1 2) (stgChs twS1 0 1 2)) := l2Build_spec _ _ _ _ (by decide) (by decide) (by decide) (by decide) (by decide +kernel)
set_option maxHeartbeats 4000000 in
theorem l2Plain_spec (c : Cur) (hp : c.pos ≤ 100000000) : ASpec Tryz.prog 241 [.ptr 0 0] [(0, curC c)] (Fun1 (stgO (plS (c.pick 7).1) 1 2 3) ((0, curC (c.pick 7).2) :: stgChs (plS (c.pick 7).1) 1 2 3)) := by
 have hK := pick_spec c 7 (by decide) (by omega)
 obtain ⟨p, hpp⟩ : ∃ p, p = c.pick 7 := ⟨_, rfl⟩
 rw [← hpp] at hK ⊢
 have hS : plS p.1 = if p.1 = 0 then plS0 else if p.1 = 1 then plS1 else if p.1 = 2 then plS2 else if p.1 = 3 then plS3 else if p.1 = 4 then plS4 else if p.1 = 5 then plS5 else plS6 := rfl
 obtain ⟨s, hs⟩ : ∃ s, s = plS p.1 := ⟨_, rfl⟩
 rw [← hs] at hS ⊢
 refine ASpec.of Tryz.func241 rfl rfl fun C hC => ?_
 refine AC.seq (AC.region ?_)
 refine AL.q (by exact h_alloc rfl) rfl ?_
 refine AL.nil (th_n (AC.seq (AC.seq (AC.region ?_))))
 refine AL.p (by exact mv3 rfl) rfl ?_
 refine AL.q (by exact h_fun (cs := [0]) en_pick rfl rfl (by repeat (first | exact rfl | exact DLead.same | refine ⟨_, _, rfl, ?_, ?_⟩ | refine ⟨_, rfl, ?_⟩)) (by repeat (first | exact True.intro | refine And.intro ?_ ?_ | exact DLead.same | exact rfl | refine ⟨_, _, rfl, rfl, ?_⟩ | refine ⟨_, rfl, ?_⟩ | refine ⟨_, _, rfl, ?_, ?_⟩)) hK rfl rfl rfl rfl) rfl ?_
 refine AL.nil (th_n (AC.block (AC.seq (AC.region ?_))))
 refine zc ?_
 refine za ?_
 refine AL.nil (th_n ?_)
 refine AC.condD rfl (fun h0 => ?_) (fun h0 => ?_)
 ·refine AC.seq (AC.region ?_)
  refine AL.q (by exact h_fun (cs := []) en_l2Build rfl rfl (by repeat (first | exact rfl | exact DLead.same | refine ⟨_, _, rfl, ?_, ?_⟩)) (by repeat (exact True.intro)) plS0_spec rfl rfl rfl rfl) rfl ?_
  refine zs ?_
  refine AL.nil (th_n (AC.ret (ib_r (th_r (bq_r ?_)))))
  have e : s = plS0 := by rw [hS, if_pos h0]
  exact retN [(1, _), (2, _), (3, _)] rfl (by rw [e]; repeat (first | exact rfl | exact DLead.same | refine ⟨_, _, rfl, ?_, ?_⟩ | refine ⟨_, rfl, ?_⟩)) (by rw [e]; repeat (first | exact True.intro | refine And.intro ?_ ?_ | exact DLead.same | exact rfl | refine ⟨_, _, rfl, rfl, ?_⟩ | refine ⟨_, rfl, ?_⟩ | refine ⟨_, _, rfl, ?_, ?_⟩)) rfl rfl
 ·refine AC.seq (AC.region ?_)
  refine zc ?_
  refine za ?_
  refine AL.nil (th_n ?_)
  refine AC.condD rfl (fun h1 => ?_) (fun h1 => ?_)
  ·refine AC.seq (AC.region ?_)
   refine AL.q (by exact h_fun (cs := []) en_l2Build rfl rfl (by repeat (first | exact rfl | exact DLead.same | refine ⟨_, _, rfl, ?_, ?_⟩)) (by repeat (exact True.intro)) plS1_spec rfl rfl rfl rfl) rfl ?_
   refine zs ?_
   refine AL.nil (th_n (AC.ret (ib_r (th_r (bq_r ?_)))))
   have e : s = plS1 := by rw [hS, if_neg h0, if_pos h1]
   exact retN [(1, _), (2, _), (3, _)] rfl (by rw [e]; repeat (first | exact rfl | exact DLead.same | refine ⟨_, _, rfl, ?_, ?_⟩ | refine ⟨_, rfl, ?_⟩)) (by rw [e]; repeat (first | exact True.intro | refine And.intro ?_ ?_ | exact DLead.same | exact rfl | refine ⟨_, _, rfl, rfl, ?_⟩ | refine ⟨_, rfl, ?_⟩ | refine ⟨_, _, rfl, ?_, ?_⟩)) rfl rfl
  ·refine AC.seq (AC.region ?_)
   refine zc ?_
   refine za ?_
   refine AL.nil (th_n ?_)
   refine AC.condD rfl (fun h2 => ?_) (fun h2 => ?_)
   ·refine AC.seq (AC.region ?_)
    refine AL.q (by exact h_fun (cs := []) en_l2Build rfl rfl (by repeat (first | exact rfl | exact DLead.same | refine ⟨_, _, rfl, ?_, ?_⟩)) (by repeat (exact True.intro)) plS2_spec rfl rfl rfl rfl) rfl ?_
    refine zs ?_
    refine AL.nil (th_n (AC.ret (ib_r (th_r (bq_r ?_)))))
    have e : s = plS2 := by rw [hS, if_neg h0, if_neg h1, if_pos h2]
    exact retN [(1, _), (2, _), (3, _)] rfl (by rw [e]; repeat (first | exact rfl | exact DLead.same | refine ⟨_, _, rfl, ?_, ?_⟩ | refine ⟨_, rfl, ?_⟩)) (by rw [e]; repeat (first | exact True.intro | refine And.intro ?_ ?_ | exact DLead.same | exact rfl | refine ⟨_, _, rfl, rfl, ?_⟩ | refine ⟨_, rfl, ?_⟩ | refine ⟨_, _, rfl, ?_, ?_⟩)) rfl rfl
   ·refine AC.seq (AC.region ?_)
    refine zc ?_
    refine za ?_
    refine AL.nil (th_n ?_)
    refine AC.condD rfl (fun h3 => ?_) (fun h3 => ?_)
    ·refine AC.seq (AC.region ?_)
     refine AL.q (by exact h_fun (cs := []) en_l2Build rfl rfl (by repeat (first | exact rfl | exact DLead.same | refine ⟨_, _, rfl, ?_, ?_⟩)) (by repeat (exact True.intro)) plS3_spec rfl rfl rfl rfl) rfl ?_
     refine zs ?_
     refine AL.nil (th_n (AC.ret (ib_r (th_r (bq_r ?_)))))
     have e : s = plS3 := by rw [hS, if_neg h0, if_neg h1, if_neg h2, if_pos h3]
     exact retN [(1, _), (2, _), (3, _)] rfl (by rw [e]; repeat (first | exact rfl | exact DLead.same | refine ⟨_, _, rfl, ?_, ?_⟩ | refine ⟨_, rfl, ?_⟩)) (by rw [e]; repeat (first | exact True.intro | refine And.intro ?_ ?_ | exact DLead.same | exact rfl | refine ⟨_, _, rfl, rfl, ?_⟩ | refine ⟨_, rfl, ?_⟩ | refine ⟨_, _, rfl, ?_, ?_⟩)) rfl rfl
    ·refine AC.seq (AC.region ?_)
     refine zc ?_
     refine za ?_
     refine AL.nil (th_n ?_)
     refine AC.condD rfl (fun h4 => ?_) (fun h4 => ?_)
     ·refine AC.seq (AC.region ?_)
      refine AL.q (by exact h_fun (cs := []) en_l2Build rfl rfl (by repeat (first | exact rfl | exact DLead.same | refine ⟨_, _, rfl, ?_, ?_⟩)) (by repeat (exact True.intro)) plS4_spec rfl rfl rfl rfl) rfl ?_
      refine zs ?_
      refine AL.nil (th_n (AC.ret (ib_r (th_r (bq_r ?_)))))
      have e : s = plS4 := by rw [hS, if_neg h0, if_neg h1, if_neg h2, if_neg h3, if_pos h4]
      exact retN [(1, _), (2, _), (3, _)] rfl (by rw [e]; repeat (first | exact rfl | exact DLead.same | refine ⟨_, _, rfl, ?_, ?_⟩ | refine ⟨_, rfl, ?_⟩)) (by rw [e]; repeat (first | exact True.intro | refine And.intro ?_ ?_ | exact DLead.same | exact rfl | refine ⟨_, _, rfl, rfl, ?_⟩ | refine ⟨_, rfl, ?_⟩ | refine ⟨_, _, rfl, ?_, ?_⟩)) rfl rfl
     ·refine AC.seq (AC.region ?_)
      refine zc ?_
      refine za ?_
      refine AL.nil (th_n ?_)
      refine AC.condD rfl (fun h5 => ?_) (fun h5 => ?_)
      ·refine AC.seq (AC.region ?_)
       refine AL.q (by exact h_fun (cs := []) en_l2Build rfl rfl (by repeat (first | exact rfl | exact DLead.same | refine ⟨_, _, rfl, ?_, ?_⟩)) (by repeat (exact True.intro)) plS5_spec rfl rfl rfl rfl) rfl ?_
       refine zs ?_
       refine AL.nil (th_n (AC.ret (ib_r (th_r (bq_r ?_)))))
       have e : s = plS5 := by rw [hS, if_neg h0, if_neg h1, if_neg h2, if_neg h3, if_neg h4, if_pos h5]
       exact retN [(1, _), (2, _), (3, _)] rfl (by rw [e]; repeat (first | exact rfl | exact DLead.same | refine ⟨_, _, rfl, ?_, ?_⟩ | refine ⟨_, rfl, ?_⟩)) (by rw [e]; repeat (first | exact True.intro | refine And.intro ?_ ?_ | exact DLead.same | exact rfl | refine ⟨_, _, rfl, rfl, ?_⟩ | refine ⟨_, rfl, ?_⟩ | refine ⟨_, _, rfl, ?_, ?_⟩)) rfl rfl
      ·refine AC.skip (ib_n (th_n (AC.seq (AC.region ?_))))
       refine AL.q (by exact h_fun (cs := []) en_l2Build rfl rfl (by repeat (first | exact rfl | exact DLead.same | refine ⟨_, _, rfl, ?_, ?_⟩)) (by repeat (exact True.intro)) plS6_spec rfl rfl rfl rfl) rfl ?_
       refine zs ?_
       refine AL.nil (th_n (AC.ret (bq_r ?_)))
       have e : s = plS6 := by rw [hS, if_neg h0, if_neg h1, if_neg h2, if_neg h3, if_neg h4, if_neg h5]
       exact retN [(1, _), (2, _), (3, _)] rfl (by rw [e]; repeat (first | exact rfl | exact DLead.same | refine ⟨_, _, rfl, ?_, ?_⟩ | refine ⟨_, rfl, ?_⟩)) (by rw [e]; repeat (first | exact True.intro | refine And.intro ?_ ?_ | exact DLead.same | exact rfl | refine ⟨_, _, rfl, rfl, ?_⟩ | refine ⟨_, rfl, ?_⟩ | refine ⟨_, _, rfl, ?_, ?_⟩)) rfl rfl
theorem en_l2Plain : Enters Tryz.prog 241 := enters_of Tryz.func241 rfl rfl
theorem twS_L : NetL (unionR twS0.net twS1.net).1 := ((okS_S twS_net).1.B.n).L
set_option maxHeartbeats 4000000 in
theorem stg_spec (c : Cur) (hp : c.pos ≤ 10000000) : ASpec Tryz.prog 191 [.ptr 0 0] [(0, curC c)] (Fun1 (stgQ (stgI c).1 1 2) [(0, curC (stgI c).2), (1, .arr 149 2 (sigsL (stgI c).1.sigs)), (2, .arr 156 2 (labsL (stgI c).1.labs))]) := by
 have hK := pick_spec c 9 (by decide) (by omega)
 have hpos := c.pick_pos 9
 have hS : stgI c = if (c.pick 9).1 = 0 then (grS0, (c.pick 9).2) else if (c.pick 9).1 = 1 then (grS1, (c.pick 9).2) else if (c.pick 9).1 = 2 then (grS2, (c.pick 9).2) else if (c.pick 9).1 = 3 then (grS3, (c.pick 9).2) else if (c.pick 9).1 = 4 then (grS4, (c.pick 9).2) else (plS ((c.pick 9).2.pick 7).1, ((c.pick 9).2.pick 7).2) := rfl
 obtain ⟨p, hpp⟩ : ∃ p, p = c.pick 9 := ⟨_, rfl⟩
 rw [← hpp] at hK hS hpos
 have hP := l2Plain_spec p.2 (by omega)
 obtain ⟨pp, hpq⟩ : ∃ pp, pp = plS (p.2.pick 7).1 := ⟨_, rfl⟩
 rw [← hpq] at hP hS
 obtain ⟨s, hs⟩ : ∃ s, s = stgI c := ⟨_, rfl⟩
 rw [← hs] at hS ⊢
 have hU := sUnionSTGs_own twS0 twS1 (okS_S twS0_ok).1.B (okS_S twS1_ok).1.B twS_L twS_ok
 rw [show unionT twS0 twS1 = grS3 from rfl] at hU
 refine ASpec.of Tryz.func191 rfl rfl fun C hC => ?_
 refine AC.seq (AC.region ?_)
 refine AL.q (by exact h_alloc rfl) rfl ?_
 refine AL.nil (th_n (AC.seq (AC.seq (AC.region ?_))))
 refine AL.p (by exact mv3 rfl) rfl ?_
 refine AL.q (by exact h_fun (cs := [0]) en_pick rfl rfl (by repeat (first | exact rfl | exact DLead.same | refine ⟨_, _, rfl, ?_, ?_⟩ | refine ⟨_, rfl, ?_⟩)) (by repeat (first | exact True.intro | refine And.intro ?_ ?_ | exact DLead.same | exact rfl | refine ⟨_, _, rfl, rfl, ?_⟩ | refine ⟨_, rfl, ?_⟩ | refine ⟨_, _, rfl, ?_, ?_⟩)) hK rfl rfl rfl rfl) rfl ?_
 refine AL.nil (th_n (AC.block (AC.seq (AC.region ?_))))
 refine zc ?_
 refine za ?_
 refine AL.nil (th_n ?_)
 refine AC.condD rfl (fun h0 => ?_) (fun h0 => ?_)
 ·refine AC.seq (AC.region ?_)
  refine AL.q (by exact h_fun (cs := []) en_l2Build rfl rfl (by repeat (first | exact rfl | exact DLead.same | refine ⟨_, _, rfl, ?_, ?_⟩)) (by repeat (exact True.intro)) grS0_spec rfl rfl rfl rfl) rfl ?_
  refine AL.weak (Weak.freezeA (i := 9) (k := 1) rfl rfl rfl (ownl _ _) (ownt _ _)) ?_
  refine zs ?_
  refine AL.nil (th_n (AC.ret (ib_r (th_r (bq_r ?_)))))
  have e : s = (grS0, p.2) := by rw [hS, if_pos h0]
  exact retN [(1, _), (2, _)] rfl (by rw [e]; repeat (first | exact rfl | exact DLead.same | refine ⟨_, _, rfl, ?_, ?_⟩ | refine ⟨_, rfl, ?_⟩)) (by rw [e]; repeat (first | exact True.intro | refine And.intro ?_ ?_ | exact DLead.same | exact rfl | refine ⟨_, _, rfl, rfl, ?_⟩ | refine ⟨_, rfl, ?_⟩ | refine ⟨_, _, rfl, ?_, ?_⟩)) rfl rfl
 ·refine AC.seq (AC.region ?_)
  refine zc ?_
  refine za ?_
  refine AL.nil (th_n ?_)
  refine AC.condD rfl (fun h1 => ?_) (fun h1 => ?_)
  ·refine AC.seq (AC.region ?_)
   refine AL.q (by exact h_fun (cs := []) en_l2Build rfl rfl (by repeat (first | exact rfl | exact DLead.same | refine ⟨_, _, rfl, ?_, ?_⟩)) (by repeat (exact True.intro)) grS1_spec rfl rfl rfl rfl) rfl ?_
   refine AL.weak (Weak.freezeA (i := 12) (k := 1) rfl rfl rfl (ownl _ _) (ownt _ _)) ?_
   refine zs ?_
   refine AL.nil (th_n (AC.ret (ib_r (th_r (bq_r ?_)))))
   have e : s = (grS1, p.2) := by rw [hS, if_neg h0, if_pos h1]
   exact retN [(1, _), (2, _)] rfl (by rw [e]; repeat (first | exact rfl | exact DLead.same | refine ⟨_, _, rfl, ?_, ?_⟩ | refine ⟨_, rfl, ?_⟩)) (by rw [e]; repeat (first | exact True.intro | refine And.intro ?_ ?_ | exact DLead.same | exact rfl | refine ⟨_, _, rfl, rfl, ?_⟩ | refine ⟨_, rfl, ?_⟩ | refine ⟨_, _, rfl, ?_, ?_⟩)) rfl rfl
  ·refine AC.seq (AC.region ?_)
   refine zc ?_
   refine za ?_
   refine AL.nil (th_n ?_)
   refine AC.condD rfl (fun h2 => ?_) (fun h2 => ?_)
   ·refine AC.seq (AC.region ?_)
    refine AL.q (by exact h_fun (cs := []) en_l2Build rfl rfl (by repeat (first | exact rfl | exact DLead.same | refine ⟨_, _, rfl, ?_, ?_⟩)) (by repeat (exact True.intro)) grS2_spec rfl rfl rfl rfl) rfl ?_
    refine AL.weak (Weak.freezeA (i := 15) (k := 1) rfl rfl rfl (ownl _ _) (ownt _ _)) ?_
    refine zs ?_
    refine AL.nil (th_n (AC.ret (ib_r (th_r (bq_r ?_)))))
    have e : s = (grS2, p.2) := by rw [hS, if_neg h0, if_neg h1, if_pos h2]
    exact retN [(1, _), (2, _)] rfl (by rw [e]; repeat (first | exact rfl | exact DLead.same | refine ⟨_, _, rfl, ?_, ?_⟩ | refine ⟨_, rfl, ?_⟩)) (by rw [e]; repeat (first | exact True.intro | refine And.intro ?_ ?_ | exact DLead.same | exact rfl | refine ⟨_, _, rfl, rfl, ?_⟩ | refine ⟨_, rfl, ?_⟩ | refine ⟨_, _, rfl, ?_, ?_⟩)) rfl rfl
   ·refine AC.seq (AC.region ?_)
    refine zc ?_
    refine za ?_
    refine AL.nil (th_n ?_)
    refine AC.condD rfl (fun h3 => ?_) (fun h3 => ?_)
    ·refine AC.seq (AC.region ?_)
     refine AL.q (by exact h_fun (cs := []) en_l2Build rfl rfl (by repeat (first | exact rfl | exact DLead.same | refine ⟨_, _, rfl, ?_, ?_⟩)) (by repeat (exact True.intro)) twS0_spec rfl rfl rfl rfl) rfl ?_
     refine AL.weak (Weak.freezeA3 19 rfl rfl rfl rfl rfl rfl rfl (ownl _ _) (ownl _ _) (ownl _ _) (ownt _ _) (ownt _ _) (ownt _ _)) ?_
     refine AL.q (by exact h_fun (cs := []) en_l2Build rfl rfl (by repeat (first | exact rfl | exact DLead.same | refine ⟨_, _, rfl, ?_, ?_⟩)) (by repeat (exact True.intro)) twS1_spec rfl rfl rfl rfl) rfl ?_
     refine AL.weak (Weak.freezeA3 20 rfl rfl rfl rfl rfl rfl rfl (ownl _ _) (ownl _ _) (ownl _ _) (ownt _ _) (ownt _ _) (ownt _ _)) ?_
     refine AL.q (by exact h_fun (cs := []) en_sUnionSTGs rfl rfl (by repeat (first | exact rfl | exact DLead.same | refine ⟨_, _, rfl, ?_, ?_⟩ | refine ⟨_, rfl, ?_⟩)) (by repeat (exact True.intro)) hU rfl rfl rfl rfl) rfl ?_
     refine AL.p (by exact mv5 rfl) rfl ?_
     refine AL.p (by exact g_extract (r := .agg _) rfl rfl) rfl ?_
     refine AL.p (by exact g_extract (r := .d _) rfl rfl) rfl ?_
     refine AL.q (by exact h_alloc rfl) rfl ?_
     refine zs ?_
     refine za ?_
     refine AL.nil (th_n (AC.seq (AC.region ?_)))
     refine zm ?_
     refine AL.nil (th_n ?_)
     refine AC.condT rfl ?_
     refine AC.seq (AC.region ?_)
     refine AL.p (by exact g_load_ptrN rfl rfl rfl rfl rfl) rfl ?_
     refine zs ?_
     refine AL.nil (th_n (AC.ret (ib_r (th_r (bq_r ?_)))))
     have e : s = (grS3, p.2) := by rw [hS, if_neg h0, if_neg h1, if_neg h2, if_pos h3]
     exact retN [(1, _), (2, _)] rfl (by rw [e]; repeat (first | exact rfl | exact DLead.same | refine ⟨_, _, rfl, ?_, ?_⟩ | refine ⟨_, rfl, ?_⟩)) (by rw [e]; repeat (first | exact True.intro | refine And.intro ?_ ?_ | exact DLead.same | exact rfl | refine ⟨_, _, rfl, rfl, ?_⟩ | refine ⟨_, rfl, ?_⟩ | refine ⟨_, _, rfl, ?_, ?_⟩)) rfl rfl
    ·refine AC.seq (AC.region ?_)
     refine zc ?_
     refine za ?_
     refine AL.nil (th_n ?_)
     refine AC.condD rfl (fun h4 => ?_) (fun h4 => ?_)
     ·refine AC.seq (AC.region ?_)
      refine AL.q (by exact h_fun (cs := []) en_l2Build rfl rfl (by repeat (first | exact rfl | exact DLead.same | refine ⟨_, _, rfl, ?_, ?_⟩)) (by repeat (exact True.intro)) grS4_spec rfl rfl rfl rfl) rfl ?_
      refine AL.weak (Weak.freezeA (i := 28) (k := 1) rfl rfl rfl (ownl _ _) (ownt _ _)) ?_
      refine zs ?_
      refine AL.nil (th_n (AC.ret (ib_r (th_r (bq_r ?_)))))
      have e : s = (grS4, p.2) := by rw [hS, if_neg h0, if_neg h1, if_neg h2, if_neg h3, if_pos h4]
      exact retN [(1, _), (2, _)] rfl (by rw [e]; repeat (first | exact rfl | exact DLead.same | refine ⟨_, _, rfl, ?_, ?_⟩ | refine ⟨_, rfl, ?_⟩)) (by rw [e]; repeat (first | exact True.intro | refine And.intro ?_ ?_ | exact DLead.same | exact rfl | refine ⟨_, _, rfl, rfl, ?_⟩ | refine ⟨_, rfl, ?_⟩ | refine ⟨_, _, rfl, ?_, ?_⟩)) rfl rfl
     ·refine AC.skip (ib_n (th_n (AC.seq (AC.region ?_))))
      refine AL.p (by exact mv3 rfl) rfl ?_
      refine AL.q (by exact h_fun (cs := [0]) en_l2Plain rfl rfl (by repeat (first | exact rfl | refine ⟨_, _, rfl, ?_, ?_⟩ | refine ⟨_, rfl, ?_⟩)) (by repeat (first | exact True.intro | refine And.intro ?_ ?_ | exact DLead.same | exact rfl | refine ⟨_, _, rfl, rfl, ?_⟩ | refine ⟨_, rfl, ?_⟩ | refine ⟨_, _, rfl, ?_, ?_⟩)) hP rfl rfl rfl rfl) rfl ?_
      refine AL.weak (Weak.freezeA (i := 30) (k := 1) rfl rfl rfl (ownl _ _) (ownt _ _)) ?_
      refine zs ?_
      refine AL.nil (th_n (AC.ret (bq_r ?_)))
      have e : s = (pp, (p.2.pick 7).2) := by rw [hS, if_neg h0, if_neg h1, if_neg h2, if_neg h3, if_neg h4]
      exact retN [(1, _), (2, _)] rfl (by rw [e]; repeat (first | exact rfl | exact DLead.same | refine ⟨_, _, rfl, ?_, ?_⟩ | refine ⟨_, rfl, ?_⟩)) (by rw [e]; repeat (first | exact True.intro | refine And.intro ?_ ?_ | exact DLead.same | exact rfl | refine ⟨_, _, rfl, rfl, ?_⟩ | refine ⟨_, rfl, ?_⟩ | refine ⟨_, _, rfl, ?_, ?_⟩)) rfl rfl
theorem en_stg : Enters Tryz.prog 191 := enters_of Tryz.func191 rfl rfl
theorem of_any (c : Cur) (L : List (List UInt8)) (h0 : 0 < L.length) (hl : L.length ≤ 65536) (hp : c.pos ≤ 100000000000000) : ASpec Tryz.prog 131 [.ptr 0 0, .d (vSx L)] [(0, curC c)] (Fun1 (aS (bstr (L.getD (c.pick L.length).1.toNat []))) [(0, curC (c.pick L.length).2)]) := by
 have hi := c.pick_in L.length (by omega)
 have h := of_spec c (sxL L) (bstr (L.getD (c.pick L.length).1.toNat [])) (by rw [sxL_len]; exact h0) (by rw [sxL_len]; exact hl) hp (by
  rw [sxL_len, sxL_get (show (c.pick L.length).1.toNat < L.length by omega), List.getD_eq_getElem?_getD, List.getElem?_eq_getElem (show (c.pick L.length).1.toNat < L.length by omega)]; rfl)
 rw [sxL_len] at h
 exact h
theorem getD_le {L : List (List UInt8)} {m : Nat} (h : ∀ x, x ∈ L → x.length ≤ m) (i : Nat) : (L.getD i []).length ≤ m := by
 rw [List.getD_eq_getElem?_getD]
 cases e : L[i]? with
 | none => exact Nat.zero_le _
 | some x => exact h x (List.mem_of_getElem? e)
theorem quo19 {u : Int} (h : 0 ≤ u ∧ u < 20) : IntKind.i64.wrap (u.tdiv 19) = u / 19 := by
 rw [Int.tdiv_eq_ediv_of_nonneg h.1]
 exact wrap_i64 (by omega)
structure SgS (k : Nat) (c : SG) : Prop where
 sg : c.sigs.length ≤ 8
 sn : ∀ x, x ∈ c.sigs → x.name.length ≤ 10
 n0 : 1 ≤ c.codes.length
 n : c.codes.length ≤ 300 + k
 cl : ∀ w, w ∈ c.codes → w.length ≤ 8 + 10 * k
 a : c.arcs.length ≤ 4000 + k
theorem SgS.L {k : Nat} {c : SG} (h : SgS k c) (hk : k ≤ 10) : SgL c := ⟨by have := h.sg; omega, fun t ht => by have := h.sn t ht; omega, by have := h.n; omega, fun w hw => by have := h.cl w hw; omega, by have := h.a; omega⟩
theorem SgS.mono {k j : Nat} {c : SG} (h : SgS k c) (hk : k ≤ j) : SgS j c := ⟨h.sg, h.sn, h.n0, by have := h.n; omega, fun w hw => by have := h.cl w hw; omega, by have := h.a; omega⟩
theorem codeS_S {s : Stg} (hs : StgS s) (h : (codeS s).2 = true) : SgS 0 (codeS s).1 := by
 have hp := codeS_pos h
 have hin := explS_in s
 unfold codeS at h hp ⊢
 split
 ·rename_i q
  rw [if_pos q] at hp
  refine ⟨hs.sl, hs.sn, hp, ?_, fun w hw => ?_, ?_⟩
  ·show (mixC _ _ _ _).length ≤ _
   rw [mixC_len]; omega
  ·have hw : w ∈ mixC s (explS s).1 s.sigs.length 0 := hw
   unfold mixC at hw
   obtain ⟨a, _, rfl⟩ := List.mem_map.1 hw
   rw [if_neg (Nat.not_lt_zero _), codeC_len]
   have := hs.sl; omega
  ·show (arcsOf _ _).length ≤ _
   rw [arcsOf_len]; exact q.2.2
 ·rename_i q; rw [if_neg q] at h; cases h
theorem plS1_code : (codeS plS1).2 = true := by decide +kernel
def SgO (k pos : Nat) : AV → List (Nat × Chunk) → Prop := fun r chs => ∃ (g : SG) (c : Cur), (SgS k g ∧ c.pos ≤ pos) ∧ r = .agg [.d (vSigs g.sigs), .own 1 g.codes.length, .own 2 g.arcs.length] ∧ chs = [(0, curC c), (1, .arr 9 1 (tsX g.codes)), (2, .arr 75 4 (arL g.arcs))]
def SgE (k pos : Nat) : AV → List (Nat × Chunk) → Prop := fun r chs => ∃ (g : SG) (c : Cur), (SgS k g ∧ c.pos ≤ pos) ∧ r = sgA g ∧ chs = [(0, curC c)]
set_option maxHeartbeats 8000000 in
theorem coded_spec (c : Cur) (hp : c.pos ≤ 100000) : ASpec Tryz.prog 202 [.ptr 0 0] [(0, curC c)] (SgO 0 (c.pos + 20)) := by
 have hB1 := sBuild_spec plS1 (okS_S plS1_ok).1.B
 have hS1 := codeS_S (okS_S plS1_ok).1 plS1_code
 obtain ⟨P, hP⟩ : ∃ P, P = codeS plS1 := ⟨_, rfl⟩
 rw [← hP] at hB1 hS1
 clear hP
 refine ASpec.of Tryz.func202 rfl rfl fun C hC => ?_
 refine AC.seq (AC.region ?_)
 refine AL.q (by exact h_alloc rfl) rfl ?_
 refine AL.nil (th_n (AC.seq (AC.seq (AC.region ?_))))
 refine za ?_
 refine AL.nil (th_n (AC.block ?_))
 refine AC.loop (ι := Nat × Cur) (fun y => ⟨26, 300, [(0, .ptr 0 0), (2, .ptr 201 0), (3, aI y.1)], [(0, some (curC y.2)), (201, some (.cells 68 zSG))]⟩) (fun y => y.1 ≤ 4 ∧ y.2.pos ≤ c.pos + 4 * y.1) (fun y => 4 - y.1) ((0, c)) ?_ (⟨Nat.zero_le _, Nat.le_refl _⟩) ?_
 ·exact zw [(201, _)] hC
 ·rintro ⟨k, e⟩ ⟨hk, he⟩
  dsimp only at hk he ⊢
  refine AC.seq (AC.seq (AC.region ?_))
  refine zm ?_
  refine zc ?_
  refine AL.nil (th_n ?_)
  refine AC.condD rfl (fun h0 => ?_) (fun h0 => ?_)
  ·refine AC.skip (th_n (AC.seq (AC.block (AC.seq ?_))))
   have hk1 : k < 4 := by omega
   have hS := stg_spec e (by omega)
   have hSi := stgI_in e
   obtain ⟨A, hAA⟩ : ∃ A, A = stgI e := ⟨_, rfl⟩
   rw [← hAA] at hS hSi
   have hBd := sBuild_spec A.1 (okS_S hSi.1).1.B
   have hCS := fun h : (codeS A.1).2 = true => codeS_S (okS_S hSi.1).1 h
   obtain ⟨⟨G, ok⟩, hG⟩ : ∃ G, G = codeS A.1 := ⟨_, rfl⟩
   rw [← hG] at hBd hCS
   dsimp only at hBd hCS
   clear hG hAA
   refine AC.region ?_
   refine AL.p (by exact mv3 rfl) rfl ?_
   refine AL.q (by exact h_fun (cs := [0]) en_stg rfl rfl (by repeat (first | exact rfl | refine ⟨_, _, rfl, ?_, ?_⟩ | refine ⟨_, rfl, ?_⟩)) (by repeat (first | exact True.intro | refine And.intro ?_ ?_ | exact DLead.same | exact rfl | refine ⟨_, _, rfl, rfl, ?_⟩ | refine ⟨_, rfl, ?_⟩ | refine ⟨_, _, rfl, ?_, ?_⟩)) hS rfl rfl rfl rfl) rfl ?_
   refine AL.weak (Weak.freezeA (i := 14) (k := 2) rfl rfl rfl (ownl _ _) (ownt _ _)) ?_
   refine AL.weak (Weak.freezeA (i := 14) (k := 3) rfl rfl rfl (ownl _ _) (ownt _ _)) ?_
   refine AL.weak (t := ⟨26, 308, [(0, .ptr 0 0), (2, .ptr 201 0), (3, aI k), (14, stgA A.1)], [(0, some (curC A.2)), (201, some (.cells 68 zSG))]⟩) (zw [(201, 201)] hC) ?_
   refine AL.q (by exact h_fun (cs := []) en_sBuild rfl rfl (by repeat (first | exact rfl | exact DLead.same | refine ⟨_, _, rfl, ?_, ?_⟩ | refine ⟨_, rfl, ?_⟩)) (by repeat (exact True.intro)) hBd rfl rfl rfl rfl) rfl ?_
   refine AL.p (by exact mv5 rfl) rfl ?_
   refine AL.p (by exact g_extract (r := .agg _) rfl rfl) rfl ?_
   refine AL.p (by exact g_extract (r := .d _) rfl rfl) rfl ?_
   refine AL.q (by exact h_alloc rfl) rfl ?_
   refine zs ?_
   refine za ?_
   refine AL.nil (th_n (AC.seq ?_))
   refine AC.weak (t := ⟨26, 500, [(0, .ptr 0 0), (2, .ptr 201 0), (3, aI k), (4, .ptr 200 0), (5, aT ok)], [(0, some (curC A.2)), (201, some (.cells 68 zSG)), (200, some (.cells 68 [.d (vSigs G.sigs), .own 101 G.codes.length, .own 102 G.arcs.length])), (101, some (.arr 9 1 (tsX G.codes))), (102, some (.arr 75 4 (arL G.arcs)))]⟩) (zw [(201, 201), (200, _), (101, _), (102, _)] hC) ?_
   refine AC.region ?_
   refine zm ?_
   refine AL.nil (th_n ?_)
   refine AC.condB rfl (fun h1 => ?_) (fun h1 => ?_)
   ·refine AC.seq (AC.region ?_)
    refine AL.p (by exact g_load_ptrN rfl rfl rfl rfl rfl) rfl ?_
    refine zs ?_
    refine AL.nil (th_n (AC.ret (ib_r (th_r (th_r (ib_r (th_r (bq_r ?_))))))))
    have hok : ok = true := ‹ok = true›
    exact retX [(1, 101), (2, 102)] rfl ⟨G, A.2, ⟨hCS hok, by omega⟩, rfl, rfl⟩ (by repeat (first | exact DLead.same | exact rfl | refine ⟨_, rfl, ?_⟩ | refine ⟨_, _, rfl, ?_, ?_⟩)) (by repeat (first | exact True.intro | refine And.intro ?_ ?_ | exact DLead.same | exact rfl | refine ⟨_, _, rfl, rfl, ?_⟩ | refine ⟨_, rfl, ?_⟩ | refine ⟨_, _, rfl, ?_, ?_⟩)) rfl rfl
   ·refine AC.skip (ib_n (th_n (AC.region ?_)))
    refine zm ?_
    refine zA ?_
    refine za ?_
    refine AL.nil (th_n ?_)
    exact ⟨(k + 1, A.2), ⟨by dsimp only; omega, by dsimp only; omega⟩, by dsimp only; omega, zw [(201, 201)] hC⟩
  ·refine AC.exit (th_e (th_e (ib_y (th_n (AC.seq (AC.region ?_))))))
   refine AL.q (by exact h_fun (cs := []) en_l2Build rfl rfl (by repeat (first | exact rfl | exact DLead.same | refine ⟨_, _, rfl, ?_, ?_⟩)) (by repeat (exact True.intro)) plS1_spec rfl rfl rfl rfl) rfl ?_
   refine AL.weak (Weak.freezeA3 21 rfl rfl rfl rfl rfl rfl rfl (ownl _ _) (ownl _ _) (ownl _ _) (ownt _ _) (ownt _ _) (ownt _ _)) ?_
   refine AL.weak (t := ⟨26, 400, [(0, .ptr 0 0), (2, .ptr 201 0), (21, stgA plS1)], [(0, some (curC e)), (201, some (.cells 68 zSG))]⟩) (zw [(201, 201)] hC) ?_
   refine AL.q (by exact h_fun (cs := []) en_sBuild rfl rfl (by repeat (first | exact rfl | exact DLead.same | refine ⟨_, _, rfl, ?_, ?_⟩ | refine ⟨_, rfl, ?_⟩)) (by repeat (exact True.intro)) hB1 rfl rfl rfl rfl) rfl ?_
   refine AL.p (by exact mv5 rfl) rfl ?_
   refine AL.p (by exact g_extract (r := .agg _) rfl rfl) rfl ?_
   refine AL.p (by exact g_extract (r := .d _) rfl rfl) rfl ?_
   refine AL.q (by exact h_alloc rfl) rfl ?_
   refine zs ?_
   refine za ?_
   refine AL.nil (th_n (AC.seq ?_))
   refine AC.weak (t := ⟨26, 500, [(2, .ptr 201 0), (6, .ptr 200 0)], [(0, some (curC e)), (201, some (.cells 68 zSG)), (200, some (.cells 68 [.d (vSigs P.1.sigs), .own 101 P.1.codes.length, .own 102 P.1.arcs.length])), (101, some (.arr 9 1 (tsX P.1.codes))), (102, some (.arr 75 4 (arL P.1.arcs)))]⟩) (zw [(201, 201), (200, _), (101, _), (102, _)] hC) ?_
   refine AC.region ?_
   refine AL.p (by exact g_load_ptrN rfl rfl rfl rfl rfl) rfl ?_
   refine zs ?_
   refine AL.nil (th_n (AC.ret (bq_r ?_)))
   exact retX [(1, 101), (2, 102)] rfl ⟨P.1, e, ⟨hS1, by omega⟩, rfl, rfl⟩ (by repeat (first | exact DLead.same | exact rfl | refine ⟨_, rfl, ?_⟩ | refine ⟨_, _, rfl, ?_, ?_⟩)) (by repeat (first | exact True.intro | refine And.intro ?_ ?_ | exact DLead.same | exact rfl | refine ⟨_, _, rfl, rfl, ?_⟩ | refine ⟨_, rfl, ?_⟩ | refine ⟨_, _, rfl, ?_, ?_⟩)) rfl rfl
theorem en_coded : Enters Tryz.prog 202 := enters_of Tryz.func202 rfl rfl
theorem arL_set0 {l : List Ar} (h : 0 < l.length) (a : Ar) : (arL l).set 0 (arD a) = arL (l.set 0 a) := by unfold arL; rw [List.map_set]
theorem tsX_set0 {l : List (List UInt8)} (w : List UInt8) : (tsX l).set 0 [dS (bstr w)] = tsX (l.set 0 w) := by unfold tsX; rw [List.map_set]
set_option maxHeartbeats 8000000 in
theorem anyCoded_spec (c : Cur) (hp : c.pos ≤ 100000) : ASpec Tryz.prog 143 [.ptr 0 0] [(0, curC c)] (SgE 1 (c.pos + 60)) := by
 have hCo := coded_spec c hp
 refine ASpec.of Tryz.func143 rfl rfl fun C hC => ?_
 refine AC.seq (AC.region ?_)
 refine AL.q (by exact h_alloc rfl) rfl ?_
 refine AL.nil (th_n (AC.seq (AC.region ?_)))
 refine AL.p (by exact mv3 rfl) rfl ?_
 refine AL.r (by exact h_funR (cs := [0]) en_coded rfl rfl (by repeat (first | exact rfl | refine ⟨_, _, rfl, ?_, ?_⟩ | refine ⟨_, rfl, ?_⟩)) (by repeat (first | exact True.intro | refine And.intro ?_ ?_ | exact DLead.same | exact rfl | refine ⟨_, _, rfl, rfl, ?_⟩ | refine ⟨_, rfl, ?_⟩ | refine ⟨_, _, rfl, ?_, ?_⟩)) hCo rfl rfl rfl) rfl ?_
 rintro _ ⟨_, _, ⟨G, d, ⟨hG, hd⟩, rfl, rfl⟩, rfl⟩
 obtain ⟨sg, M, L⟩ := G
 have hM0 : 0 < M.length := hG.n0
 have hMn : M.length ≤ 300 + 0 := hG.n
 have hLn : L.length ≤ 4000 + 0 := hG.a
 refine AL.q (by exact h_alloc rfl) rfl ?_
 refine zs ?_
 refine AL.nil (th_n ?_)
 refine AC.cut (fun (z : SG × Cur) => ⟨60, 1500, [(2, .ptr 201 0), (3, .ptr 200 0)], [(0, some (curC z.2)), (201, some (.cells 68 zSG)), (200, some (.cells 68 (sgC z.1)))]⟩) (fun z => SgS 1 z.1 ∧ z.2.pos ≤ c.pos + 60) ?_ ?_
 ·refine AC.seq ?_
  refine AC.weak (t := ⟨60, 300, [(0, .ptr 0 0), (2, .ptr 201 0), (3, .ptr 200 0)], [(0, some (curC d)), (201, some (.cells 68 zSG)), (200, some (.cells 68 [.d (vSigs sg), .own 101 M.length, .own 102 L.length])), (101, some (.arr 9 1 (tsX M))), (102, some (.arr 75 4 (arL L)))]⟩) (zw [(201, _), (200, _), (101, _), (102, _)] hC) ?_
  have hK := pick_spec d 20 (by decide) (by omega)
  have hKp := d.pick_pos 20
  obtain ⟨p, hpp⟩ : ∃ p, p = d.pick 20 := ⟨_, rfl⟩
  rw [← hpp] at hK hKp
  have hM1 := tsX_get hM0
  have hw := hG.cl _ (List.getElem_mem hM0)
  obtain ⟨w, hww⟩ : ∃ w, w = M[0] := ⟨_, rfl⟩
  rw [← hww] at hM1 hw
  have hSp := spoilt_spec p.2 w [48, 49, 50] (by omega) (by decide) (by decide) (by omega)
  have hSi := p.2.spoilt_in w [48, 49, 50]
  obtain ⟨z, hz⟩ : ∃ z, z = p.2.spoilt w [48, 49, 50] := ⟨_, rfl⟩
  rw [← hz] at hSp hSi
  have hK2 := pick_spec p.2 9 (by decide) (by omega)
  have hK2i := p.2.pick_in 9 (by decide)
  have hK2p := p.2.pick_pos 9
  obtain ⟨u, hu⟩ : ∃ u, u = p.2.pick 9 := ⟨_, rfl⟩
  rw [← hu] at hK2 hK2i hK2p
  have hset := tsX_set0 (l := M) z.1
  clear hpp hz hu
  refine AC.region ?_
  refine AL.p (by exact mv3 rfl) rfl ?_
  refine AL.q (by exact h_fun (cs := [0]) en_pick rfl rfl (by repeat (first | exact rfl | exact DLead.same | refine ⟨_, _, rfl, ?_, ?_⟩ | refine ⟨_, rfl, ?_⟩)) (by repeat (first | exact True.intro | refine And.intro ?_ ?_ | exact DLead.same | exact rfl | refine ⟨_, _, rfl, rfl, ?_⟩ | refine ⟨_, rfl, ?_⟩ | refine ⟨_, _, rfl, ?_, ?_⟩)) hK rfl rfl rfl rfl) rfl ?_
  refine AL.nil (th_n (AC.block (AC.seq (AC.region ?_))))
  refine zc ?_
  refine za ?_
  refine AL.nil (th_n ?_)
  refine AC.condD rfl (fun h0 => ?_) (fun h0 => ?_)
  ·refine AC.drawn' mixed_ok [[], [0], [], [], [3], [3,4], [3,4,5], [2,3,4,5,6], [0,1,2,3,4,5,6,7], [0,1,2,3,4,5,6,7,8]] (by decide) ?_
   refine DF.op 0 [] 10 rfl rfl rfl (.free rfl (NOp.of (by exact g_fa_ptr rfl rfl rfl rfl rfl))) rfl ?_
   refine DF.op 1 [0] 10 rfl rfl rfl (.free rfl (NOp.of (by exact g_load_ptr rfl rfl rfl rfl rfl))) rfl ?_
   refine DF.op 2 [] 10 rfl rfl rfl (.free rfl (NOp.of (by exact mv3 rfl))) rfl ?_
   refine DF.op 3 [] 10 rfl rfl rfl (.free rfl (NOp.of (by exact g_fa_ptr rfl rfl rfl rfl rfl))) rfl ?_
   refine DF.op 4 [3] 10 rfl rfl rfl (.free rfl (NOp.of (by exact g_load_ptr rfl rfl rfl rfl rfl))) rfl ?_
   refine DF.op 5 [3,4] 10 rfl rfl rfl (.free rfl (NOp.of (by exact g_ia_own (i := 0) (l := M.length) rfl rfl rfl rfl rfl rfl hM0 rfl))) rfl ?_
   refine DF.op 6 [3,4,5] 10 rfl rfl rfl (.free rfl (NOp.of (by exact g_load_arr1 rfl rfl rfl rfl (by rw [Nat.mul_one]; exact hM1)))) rfl ?_
   refine DF.op 7 [2,3,4,5,6] 10 rfl rfl rfl (.free rfl (by exact h_fun (cs := [0]) en_spoilt rfl rfl (by repeat (first | exact rfl | exact DLead.same | refine ⟨_, _, rfl, ?_, ?_⟩ | refine ⟨_, rfl, ?_⟩)) (by repeat (first | exact True.intro | refine And.intro ?_ ?_ | exact DLead.same | exact rfl | refine ⟨_, _, rfl, rfl, ?_⟩ | refine ⟨_, rfl, ?_⟩ | refine ⟨_, _, rfl, ?_, ?_⟩)) hSp rfl rfl rfl rfl)) rfl ?_
   refine DF.op 8 [0,1,2,3,4,5,6,7] 10 rfl rfl rfl (.free rfl (NOp.of (by exact g_ia_own (i := 0) (l := M.length) rfl rfl rfl rfl rfl rfl hM0 rfl))) rfl ?_
   refine DF.op 9 (List.range 9) 10 rfl rfl rfl (.free rfl (by exact h_store_arr (i := 0) (j := 0) (d := dS (bstr z.1)) rfl rfl rfl rfl .same rfl hM1 (by decide))) rfl ?_
   refine DF.fin (ps := [(0,2),(0,3),(0,4),(0,5),(0,6),(0,7),(1,2),(1,3),(1,4),(1,5),(1,6),(1,7),(2,0),(2,1),(2,3),(2,4),(2,5),(2,6),(3,0),(3,1),(3,2),(4,0),(4,1),(4,2),(5,0),(5,1),(5,2),(6,0),(6,1),(6,2),(7,0),(7,1)]) 10 rfl (by decide +kernel) (by decide +kernel) (by rfl) ?_
   refine ib_n (th_n ?_)
   (have hg := ‹p.1 = 0›; exact ⟨(⟨sg, M.set 0 z.1, L⟩, z.2), ⟨⟨hG.sg, hG.sn, by dsimp only; rw [List.length_set]; exact hG.n0, by dsimp only; rw [List.length_set]; omega, fun x hx => by rcases List.mem_or_eq_of_mem_set hx with q | rfl; (have := hG.cl x q; omega); omega, by have := hG.a; dsimp only at this ⊢; omega⟩, by dsimp only; omega⟩, ((Weak.freezeP (els' := tsX (M.set 0 z.1)) 3 1 rfl rfl rfl rfl (by rw [List.length_set, tsX_len]; exact Nat.le_refl _) ((List.take_of_length_le (by rw [List.length_set, tsX_len]; exact Nat.le_refl _)).trans hset) rfl).trans (Weak.freezeP (els' := arL (L)) 3 2 rfl rfl rfl rfl (by rw [arL_len]; exact Nat.le_refl _) (List.take_of_length_le (by rw [arL_len]; exact Nat.le_refl _)) rfl)).trans (zw [(201, 201), (200, 200)] hC)⟩)
  ·refine AC.seq (AC.region ?_)
   refine zc ?_
   refine za ?_
   refine AL.nil (th_n ?_)
   refine AC.condD rfl (fun h1 => ?_) (fun h1 => ?_)
   ·refine AC.seq (AC.region ?_)
    refine zF ?_
    refine zl ?_
    refine AL.p (by exact g_len_own (sz := 1) (els := []) (e' := 0) rfl rfl (by simp only [maxLen]; omega)) rfl ?_
    refine zc ?_
    refine AL.nil (th_n ?_)
    refine AC.condD rfl (fun h2 => ?_) (fun h2 => ?_)
    ·have hL0 : 0 < L.length := by omega
     have hrow := arL_get hL0
     refine AC.drawn' mixed_ok [[], [0], [], [2], [2,3], [0,1,2,3,4], [0,1,2,3,4,5], [0,1,2,3,4,5,6]] (by decide) ?_
     refine DF.op 0 [] 8 rfl rfl rfl (.free rfl (NOp.of (by exact g_fa_ptr rfl rfl rfl rfl rfl))) rfl ?_
     refine DF.op 1 [0] 8 rfl rfl rfl (.free rfl (NOp.of (by exact g_load_ptr rfl rfl rfl rfl rfl))) rfl ?_
     refine DF.op 2 [] 8 rfl rfl rfl (.free rfl (NOp.of (by exact mv3 rfl))) rfl ?_
     refine DF.op 3 [2] 8 rfl rfl rfl (.free rfl (by exact h_fun (cs := [0]) en_pick rfl rfl (by repeat (first | exact rfl | exact DLead.same | refine ⟨_, _, rfl, ?_, ?_⟩ | refine ⟨_, rfl, ?_⟩)) (by repeat (first | exact True.intro | refine And.intro ?_ ?_ | exact DLead.same | exact rfl | refine ⟨_, _, rfl, rfl, ?_⟩ | refine ⟨_, rfl, ?_⟩ | refine ⟨_, _, rfl, ?_, ?_⟩)) hK2 rfl rfl rfl rfl)) rfl ?_
     refine DF.op 4 [2,3] 8 rfl rfl rfl (.free rfl (NOp.of (by exact g_arith rfl rfl rfl (by exact wrap_i64 (by omega))))) rfl ?_
     refine DF.op 5 [0,1,2,3,4] 8 rfl rfl rfl (.free rfl (NOp.of (by exact g_ia_own (i := 0) (l := L.length) rfl rfl rfl rfl rfl rfl hL0 rfl))) rfl ?_
     refine DF.op 6 [0,1,2,3,4,5] 8 rfl rfl rfl (.free rfl (NOp.of (by exact g_fa_ptr rfl rfl rfl rfl rfl))) rfl ?_
     refine DF.op 7 [0,1,2,3,4,5,6] 8 rfl rfl rfl (.free rfl (by exact h_store_arr (i := 0) (j := 3) (d := dI (u.1 - 1)) rfl rfl rfl rfl .same rfl hrow (by decide))) rfl ?_
     refine DF.fin (ps := [(0,2),(0,3),(0,4),(1,2),(1,3),(1,4),(2,0),(2,1),(3,0),(3,1),(4,0),(4,1)]) 8 rfl (by decide +kernel) (by decide +kernel) (by rfl) ?_
     refine ib_n (th_n ?_)
     (have hg := ‹p.1 = 1›; have hg2 := ‹(L.length : Int) > 0›; have hL0 : 0 < L.length := (by omega); exact ⟨(⟨sg, M, L.set 0 ⟨L[0].from_, L[0].sig, L[0].up, u.1 - 1⟩⟩, u.2), ⟨⟨hG.sg, hG.sn, hG.n0, by have := hG.n; dsimp only at this ⊢; omega, fun w hw => by have := hG.cl w hw; omega, by dsimp only; rw [List.length_set]; omega⟩, by dsimp only; omega⟩, ((Weak.freezeP (els' := tsX (M)) 3 1 rfl rfl rfl rfl (by rw [tsX_len]; exact Nat.le_refl _) (List.take_of_length_le (by rw [tsX_len]; exact Nat.le_refl _)) rfl).trans (Weak.freezeP (els' := arL (L.set 0 ⟨L[0].from_, L[0].sig, L[0].up, u.1 - 1⟩)) 3 2 rfl rfl rfl rfl (by rw [List.length_set, arL_len]; exact Nat.le_refl _) ((List.take_of_length_le (by rw [List.length_set, arL_len]; exact Nat.le_refl _)).trans (arL_set0 hL0 ⟨L[0].from_, L[0].sig, L[0].up, u.1 - 1⟩)) rfl)).trans (zw [(201, 201), (200, 200)] hC)⟩)
    ·refine AC.skip (ib_n (th_n ?_))
     exact ⟨(⟨sg, M, L⟩, p.2), ⟨⟨hG.sg, hG.sn, hG.n0, by have := hG.n; dsimp only at this ⊢; omega, fun w hw => by have := hG.cl w hw; omega, by have := hG.a; dsimp only at this ⊢; omega⟩, by dsimp only; omega⟩, ((Weak.freezeP (els' := tsX (M)) 3 1 rfl rfl rfl rfl (by rw [tsX_len]; exact Nat.le_refl _) (List.take_of_length_le (by rw [tsX_len]; exact Nat.le_refl _)) rfl).trans (Weak.freezeP (els' := arL (L)) 3 2 rfl rfl rfl rfl (by rw [arL_len]; exact Nat.le_refl _) (List.take_of_length_le (by rw [arL_len]; exact Nat.le_refl _)) rfl)).trans (zw [(201, 201), (200, 200)] hC)⟩
   ·refine AC.seq (AC.region ?_)
    refine zc ?_
    refine za ?_
    refine AL.nil (th_n ?_)
    refine AC.condD rfl (fun h2 => ?_) (fun h2 => ?_)
    ·refine AC.drawn' mixed_ok [[], [0], [], [2], [2,3], [2,3,4], [2,3,4,5], [0,1,2,3,4,5,6], [0,1,2,3,4,5,6,7], [0,1,2,3,4,5,6,7,8]] (by decide) ?_
     refine DF.op 0 [] 10 rfl rfl rfl (.free rfl (NOp.of (by exact g_fa_ptr rfl rfl rfl rfl rfl))) rfl ?_
     refine DF.op 1 [0] 10 rfl rfl rfl (.free rfl (NOp.of (by exact g_load_ptr rfl rfl rfl rfl rfl))) rfl ?_
     refine DF.op 2 [] 10 rfl rfl rfl (.free rfl (NOp.of (by exact g_fa_ptr rfl rfl rfl rfl rfl))) rfl ?_
     refine DF.op 3 [2] 10 rfl rfl rfl (.free rfl (NOp.of (by exact g_load_ptr rfl rfl rfl rfl rfl))) rfl ?_
     refine DF.op 4 [2,3] 10 rfl rfl rfl (.free rfl (NOp.of (by exact g_ia_own (i := 0) (l := M.length) rfl rfl rfl rfl rfl rfl hM0 rfl))) rfl ?_
     refine DF.op 5 [2,3,4] 10 rfl rfl rfl (.free rfl (NOp.of (by exact g_load_arr1 rfl rfl rfl rfl (by rw [Nat.mul_one]; exact hM1)))) rfl ?_
     refine DF.op 6 [2,3,4,5] 10 rfl rfl rfl (.free rfl (by exact h_litF rfl rfl rfl rfl rfl rfl rfl rfl)) rfl ?_
     refine DF.op 7 [0,1,2,3,4,5,6] 10 rfl rfl rfl (.free rfl (by exact h_appendX M [w] (.own rfl rfl (tsX_len _).symm) (.view rfl) (by rw [List.length_append]; simp only [List.length_cons, List.length_nil]; omega) (by simp))) rfl ?_
     refine DF.op 8 [0,1,2,3,4,5,6,7] 10 rfl rfl rfl (.free rfl (NOp.of (by exact g_fa_ptr rfl rfl rfl rfl rfl))) rfl ?_
     refine DF.op 9 (List.range 9) 10 rfl rfl rfl (.free rfl (by exact h_store rfl rfl rfl rfl rfl rfl)) rfl ?_
     refine DF.fin (ps := [(0,2),(0,3),(0,4),(0,5),(0,6),(1,2),(1,3),(1,4),(1,5),(1,6),(2,0),(2,1),(3,0),(3,1),(4,0),(4,1),(5,0),(5,1),(6,0),(6,1)]) 10 rfl (by decide +kernel) (by decide +kernel) (by rfl) ?_
     refine ib_n (th_n ?_)
     (have hg := ‹p.1 = 2›; exact ⟨(⟨sg, M ++ [w], L⟩, p.2), ⟨⟨hG.sg, hG.sn, by dsimp only; rw [List.length_append]; omega, by dsimp only; rw [List.length_append, List.length_singleton]; omega, fun x hx => by rcases List.mem_append.1 hx with q | q; (have := hG.cl x q; omega); (rw [List.mem_singleton.1 q]; omega), by have := hG.a; dsimp only at this ⊢; omega⟩, by dsimp only; omega⟩, ((Weak.freezeP (els' := tsX (M ++ [w])) 3 1 rfl rfl rfl rfl (by rw [tsX_len]; exact Nat.le_refl _) (List.take_of_length_le (by rw [tsX_len]; exact Nat.le_refl _)) rfl).trans (Weak.freezeP (els' := arL (L)) 3 2 rfl rfl rfl rfl (by rw [arL_len]; exact Nat.le_refl _) (List.take_of_length_le (by rw [arL_len]; exact Nat.le_refl _)) rfl)).trans (zw [(201, 201), (200, 200)] hC)⟩)
    ·refine AC.seq (AC.region ?_)
     refine zc ?_
     refine za ?_
     refine AL.nil (th_n ?_)
     refine AC.condD rfl (fun h3 => ?_) (fun h3 => ?_)
     ·refine AC.seq (AC.region ?_)
      refine zF ?_
      refine zl ?_
      refine AL.p (by exact g_len_own (sz := 1) (els := []) (e' := 0) rfl rfl (by simp only [maxLen]; omega)) rfl ?_
      refine zc ?_
      refine AL.nil (th_n ?_)
      refine AC.condD rfl (fun h4 => ?_) (fun h4 => ?_)
      ·have hL0 : 0 < L.length := by omega
       have hrow := arL_get hL0
       refine AC.drawn' mixed_ok [[], [0], [], [2], [2,3], [2,3,4], [2,3,4,5], [2,3,4,5,6], [0,1,2,3,4,5,6,7], [0,1,2,3,4,5,6,7,8], [0,1,2,3,4,5,6,7,8,9]] (by decide) ?_
       refine DF.op 0 [] 11 rfl rfl rfl (.free rfl (NOp.of (by exact g_fa_ptr rfl rfl rfl rfl rfl))) rfl ?_
       refine DF.op 1 [0] 11 rfl rfl rfl (.free rfl (NOp.of (by exact g_load_ptr rfl rfl rfl rfl rfl))) rfl ?_
       refine DF.op 2 [] 11 rfl rfl rfl (.free rfl (NOp.of (by exact g_fa_ptr rfl rfl rfl rfl rfl))) rfl ?_
       refine DF.op 3 [2] 11 rfl rfl rfl (.free rfl (NOp.of (by exact g_load_ptr rfl rfl rfl rfl rfl))) rfl ?_
       refine DF.op 4 [2,3] 11 rfl rfl rfl (.free rfl (NOp.of (by exact g_ia_own (i := 0) (l := L.length) rfl rfl rfl rfl rfl rfl hL0 rfl))) rfl ?_
       refine DF.op 5 [2,3,4] 11 rfl rfl rfl (.free rfl (NOp.of (by exact g_fa_ptr rfl rfl rfl rfl rfl))) rfl ?_
       refine DF.op 6 [2,3,4,5] 11 rfl rfl rfl (.free rfl (NOp.of (by exact g_load_arr (i := 0) (j := 2) rfl rfl rfl rfl rfl hrow rfl))) rfl ?_
       refine DF.op 7 [2,3,4,5,6] 11 rfl rfl rfl (.free rfl (NOp.of (by exact g_not rfl))) rfl ?_
       refine DF.op 8 [0,1,2,3,4,5,6,7] 11 rfl rfl rfl (.free rfl (NOp.of (by exact g_ia_own (i := 0) (l := L.length) rfl rfl rfl rfl rfl rfl hL0 rfl))) rfl ?_
       refine DF.op 9 (List.range 9) 11 rfl rfl rfl (.free rfl (NOp.of (by exact g_fa_ptr rfl rfl rfl rfl rfl))) rfl ?_
       refine DF.op 10 (List.range 10) 11 rfl rfl rfl (.free rfl (by exact h_store_arr (i := 0) (j := 2) (d := dT (!L[0].up)) rfl rfl rfl rfl .same rfl hrow (by decide))) rfl ?_
       refine DF.fin (ps := [(0,2),(0,3),(0,4),(0,5),(0,6),(0,7),(1,2),(1,3),(1,4),(1,5),(1,6),(1,7),(2,0),(2,1),(3,0),(3,1),(4,0),(4,1),(5,0),(5,1),(6,0),(6,1),(7,0),(7,1)]) 11 rfl (by decide +kernel) (by decide +kernel) (by rfl) ?_
       refine ib_n (th_n ?_)
       (have hg := ‹p.1 = 3›; have hg2 := ‹(L.length : Int) > 0›; have hL0 : 0 < L.length := (by omega); exact ⟨(⟨sg, M, L.set 0 ⟨L[0].from_, L[0].sig, !L[0].up, L[0].to_⟩⟩, p.2), ⟨⟨hG.sg, hG.sn, hG.n0, by have := hG.n; dsimp only at this ⊢; omega, fun w hw => by have := hG.cl w hw; omega, by dsimp only; rw [List.length_set]; omega⟩, by dsimp only; omega⟩, ((Weak.freezeP (els' := tsX (M)) 3 1 rfl rfl rfl rfl (by rw [tsX_len]; exact Nat.le_refl _) (List.take_of_length_le (by rw [tsX_len]; exact Nat.le_refl _)) rfl).trans (Weak.freezeP (els' := arL (L.set 0 ⟨L[0].from_, L[0].sig, !L[0].up, L[0].to_⟩)) 3 2 rfl rfl rfl rfl (by rw [List.length_set, arL_len]; exact Nat.le_refl _) ((List.take_of_length_le (by rw [List.length_set, arL_len]; exact Nat.le_refl _)).trans (arL_set0 hL0 ⟨L[0].from_, L[0].sig, !L[0].up, L[0].to_⟩)) rfl)).trans (zw [(201, 201), (200, 200)] hC)⟩)
      ·refine AC.skip (ib_n (th_n ?_))
       exact ⟨(⟨sg, M, L⟩, p.2), ⟨⟨hG.sg, hG.sn, hG.n0, by have := hG.n; dsimp only at this ⊢; omega, fun w hw => by have := hG.cl w hw; omega, by have := hG.a; dsimp only at this ⊢; omega⟩, by dsimp only; omega⟩, ((Weak.freezeP (els' := tsX (M)) 3 1 rfl rfl rfl rfl (by rw [tsX_len]; exact Nat.le_refl _) (List.take_of_length_le (by rw [tsX_len]; exact Nat.le_refl _)) rfl).trans (Weak.freezeP (els' := arL (L)) 3 2 rfl rfl rfl rfl (by rw [arL_len]; exact Nat.le_refl _) (List.take_of_length_le (by rw [arL_len]; exact Nat.le_refl _)) rfl)).trans (zw [(201, 201), (200, 200)] hC)⟩
     ·refine AC.skip (ib_n (th_n ?_))
      exact ⟨(⟨sg, M, L⟩, p.2), ⟨⟨hG.sg, hG.sn, hG.n0, by have := hG.n; dsimp only at this ⊢; omega, fun w hw => by have := hG.cl w hw; omega, by have := hG.a; dsimp only at this ⊢; omega⟩, by dsimp only; omega⟩, ((Weak.freezeP (els' := tsX (M)) 3 1 rfl rfl rfl rfl (by rw [tsX_len]; exact Nat.le_refl _) (List.take_of_length_le (by rw [tsX_len]; exact Nat.le_refl _)) rfl).trans (Weak.freezeP (els' := arL (L)) 3 2 rfl rfl rfl rfl (by rw [arL_len]; exact Nat.le_refl _) (List.take_of_length_le (by rw [arL_len]; exact Nat.le_refl _)) rfl)).trans (zw [(201, 201), (200, 200)] hC)⟩
 ·rintro ⟨g, e⟩ ⟨hg, he⟩
  dsimp only at hg he ⊢
  refine AC.seq (AC.region ?_)
  refine AL.p (by exact g_load_ptrN rfl rfl rfl rfl rfl) rfl ?_
  refine zs ?_
  refine AL.nil (th_n (AC.ret (bq_r ?_)))
  exact retX [] rfl ⟨g, e, ⟨hg, he⟩, rfl, rfl⟩ (by repeat (first | exact DLead.same | exact rfl | refine ⟨_, rfl, ?_⟩ | refine ⟨_, _, rfl, ?_, ?_⟩)) (by repeat (first | exact True.intro | refine And.intro ?_ ?_ | exact DLead.same | exact rfl | refine ⟨_, _, rfl, rfl, ?_⟩ | refine ⟨_, rfl, ?_⟩ | refine ⟨_, _, rfl, ?_, ?_⟩)) rfl rfl
theorem en_anyCoded : Enters Tryz.prog 143 := enters_of Tryz.func143 rfl rfl
set_option maxHeartbeats 1000000 in
theorem ifAr_spec (l : List Ar) (hl : l.length ≤ 1000000) (g : FuncId) (ds : List DV) (hen : Enters Tryz.prog g) (p : Ar → Bool) (hp : ∀ t, t ∈ l → ASpec Tryz.prog g (arA t :: ds.map .d) [] (Pure1 (aT (p t)))) : ASpec Tryz.prog 251 [.d (vArs l), .clo g (ds.map .d)] [] (Pure1 (aI (findI p l))) := by
 refine ASpec.of Tryz.func251 rfl rfl fun C hC => ?_
 refine AC.seq (AC.region ?_)
 refine za ?_
 refine AL.nil (th_n (AC.seq (AC.seq (AC.region ?_))))
 refine zm ?_
 refine AL.p (by exact g_len_view rfl rfl (by exact List.length_map _)) rfl ?_
 refine zm ?_
 refine AL.nil (th_n (AC.block ?_))
 refine AC.loop (ι := Nat) (fun k => ⟨19, 0, [(0, .d (vArs l)), (1, .clo g (ds.map .d)), (6, .d (vArs l)), (7, aI l.length), (8, aI k)], []⟩) (fun k => k ≤ l.length ∧ ∀ j (hj : j < l.length), j < k → p l[j] = false) (fun k => l.length - k) (0) ?_ (⟨Nat.zero_le _, fun j _ hj => by omega⟩) ?_
 ·refine Weak.ren _ [] hC rfl ⟨.same, ⟨_, rfl, leadsL_data _ ds⟩, ?_⟩ trivial rfl rfl rfl; repeat (first | exact True.intro | refine And.intro ?_ ?_ | exact DLead.same)
 ·intro k ⟨hk, hall⟩
  refine AC.seq (AC.region ?_)
  refine zc ?_
  refine AL.nil (th_n (AC.seq ?_))
  refine AC.condD rfl (fun h0 => ?_) (fun h0 => ?_)
  ·refine AC.skip (th_n (AC.seq (AC.block (AC.seq ?_))))
   have hk1 : k < l.length := by omega
   have hget := arL_get hk1
   refine AC.region ?_
   refine zm ?_
   refine za ?_
   refine AL.nil (th_n (AC.seq (AC.region ?_)))
   refine AL.p (by exact mv6 rfl) rfl ?_
   refine zm ?_
   refine zm ?_
   refine AL.p (by exact g_ia_view rfl rfl rfl rfl rfl (by rfl) (by assumption)) rfl ?_
   refine AL.p (by exact g_load_refN rfl rfl rfl rfl) rfl ?_
   refine AL.q (by exact h_pure hen rfl rfl (by exact ⟨_, _, rfl, ⟨_, rfl, _, _, rfl, .same, _, _, rfl, .same, _, _, rfl, .same, _, _, rfl, .same, rfl⟩, leadsL_data _ ds⟩) (hp l[k] (List.getElem_mem hk1)) rfl) rfl ?_
   refine AL.nil (th_n ?_)
   refine AC.condB rfl (fun h1 => ?_) (fun h1 => ?_)
   ·refine AC.seq (AC.region ?_)
    refine zm ?_
    refine za ?_
    refine AL.nil (th_n (AC.ret (ib_r (th_r (th_r (ib_r (th_r (bq_r ?_))))))))
    exact ret1 rfl (by rw [findI_at hk1 h1 (fun j hj => hall j (by omega) hj)])
   ·refine AC.skip (ib_n (th_n (AC.region ?_)))
    refine zA ?_
    refine zm ?_
    refine AL.nil (th_n ?_)
    exact ⟨k + 1, ⟨by omega, fun j hj hj2 => by rcases Nat.lt_succ_iff_lt_or_eq.1 hj2 with h | rfl; exact hall j hj h; exact h1⟩, by omega, Weak.ren _ [] hC rfl ⟨.same, ⟨_, rfl, leadsL_data _ ds⟩, by repeat (first | exact True.intro | refine And.intro ?_ ?_ | exact DLead.same)⟩ trivial rfl rfl rfl⟩
  ·refine AC.exit (th_e (th_e (ib_y (th_n (AC.seq (AC.region ?_))))))
   refine za ?_
   refine AL.nil (th_n (AC.ret (bq_r ?_)))
   exact ret1 rfl (by rw [findI_none (fun j hj => hall j hj (by omega))])
theorem en_ifAr : Enters Tryz.prog 251 := enters_of Tryz.func251 rfl rfl
set_option maxHeartbeats 1000000 in
theorem cfAr_spec (l : List Ar) (hl : l.length ≤ 1000000) (g : FuncId) (ds : List DV) (hen : Enters Tryz.prog g) (p : Ar → Bool) (hp : ∀ t, t ∈ l → ASpec Tryz.prog g (arA t :: ds.map .d) [] (Pure1 (aT (p t)))) : ASpec Tryz.prog 214 [.d (vArs l), .clo g (ds.map .d)] [] (Pure1 (aT (l.any p))) := by
 refine ASpec.of Tryz.func214 rfl rfl fun C hC => ?_
 refine AC.seq (AC.region ?_)
 refine za ?_
 refine AL.nil (th_n (AC.seq (AC.region ?_)))
 refine zm ?_
 refine AL.p (by exact mv6 rfl) rfl ?_
 refine AL.q (by exact h_pure en_ifAr rfl rfl (by exact ⟨_, _, rfl, .same, _, _, rfl, ⟨_, rfl, leadsL_data _ ds⟩, rfl⟩) (ifAr_spec l hl g ds hen p hp) rfl) rfl ?_
 refine zc ?_
 refine za ?_
 refine AL.nil (th_n (AC.ret (bq_r ?_)))
 exact ret1 rfl (by rw [findI_any])
theorem en_cfAr : Enters Tryz.prog 214 := enters_of Tryz.func214 rfl rfl
set_option maxHeartbeats 4000000 in
theorem delAr_spec (l : List Ar) (hl : l.length ≤ 1000000) (g : FuncId) (ds : List DV) (hen : Enters Tryz.prog g) (p : Ar → Bool) (hp : ∀ t, t ∈ l → ASpec Tryz.prog g (arA t :: ds.map .d) [] (Pure1 (aT (p t)))) :
  ASpec Tryz.prog 218 [.own 0 l.length, .clo g (ds.map .d)] [(0, .arr 75 4 (arL l))] (Fun1 (.own 0 (l.filter fun x => !p x).length) [(0, .arr 75 4 (arL (l.filter fun x => !p x)))]) := by
 have hIf := ifAr_spec l hl g ds hen p hp
 have hor := findI_or p l
 obtain ⟨F, hF⟩ : ∃ F, F = findI p l := ⟨_, rfl⟩
 rw [← hF] at hIf hor
 have hFb : -1 ≤ F ∧ F ≤ 1000000 := by rcases hor with ⟨e, _⟩ | ⟨k, hk, e, _⟩ <;> omega
 clear hF
 refine ASpec.of Tryz.func218 rfl rfl fun C hC => ?_
 refine AC.seq (AC.region ?_)
 refine za ?_
 refine AL.nil (th_n (AC.seq (AC.region ?_)))
 refine AL.p (by exact mv2 rfl) rfl ?_
 refine AL.p (by exact mv6 rfl) rfl ?_
 refine AL.q (by exact h_borrow [0] en_ifAr rfl rfl hIf (.cons (.of (.own (id := 0) rfl rfl (Nat.le_of_eq (arL_len _).symm) (List.take_of_length_le (Nat.le_of_eq (arL_len _))))) (.cons .clo .nil)) rfl) rfl ?_
 refine za ?_
 refine AL.nil (th_n (AC.seq (AC.seq (AC.region ?_))))
 refine zm ?_
 refine zc ?_
 refine AL.nil (th_n ?_)
 refine AC.condD rfl (fun h0 => ?_) (fun h0 => ?_)
 ·refine AC.seq (AC.region ?_)
  refine AL.p (by exact mv2 rfl) rfl ?_
  refine AL.p (by exact as2 rfl) rfl ?_
  refine AL.nil (th_n (AC.ret (th_r (bq_r ?_))))
  have e := filter_no (hor.elim (fun h => h.2) (fun ⟨k, _, h, _⟩ => absurd h (by omega)))
  exact retN [] rfl (by rw [e]; repeat (first | exact rfl | refine ⟨_, rfl, ?_⟩)) (by rw [e]; repeat (first | exact True.intro | refine And.intro ?_ ?_ | exact rfl | refine ⟨_, _, rfl, rfl, ?_⟩)) rfl rfl
 ·refine AC.skip (th_n (AC.seq (AC.seq ?_)))
  obtain ⟨k0, hk0, rfl, hpk, hbef⟩ := hor.resolve_left fun h => h0 h.1
  have hI0 : DelI p l k0 (k0 + 1) l := ⟨rfl, Nat.lt_succ_self _, hk0, by rw [filt_take hk0, if_pos hpk, List.append_nil]; exact (List.filter_eq_self.2 fun x hx => by obtain ⟨j, hj, rfl⟩ := List.mem_take_iff_getElem.1 hx; rw [hbef j (by omega) (by omega)]; rfl).symm, rfl⟩
  refine AC.region ?_
  refine zm ?_
  refine zA ?_
  refine za ?_
  refine AL.nil (th_n (AC.block ?_))
  refine AC.loop (ι := Nat × Nat × List Ar) (fun x => ⟨42, 300, [(0, .own 0 l.length), (1, .clo g (ds.map .d)), (5, aI x.1), (6, aI x.2.1)], [(0, some (.arr 75 4 (arL x.2.2)))]⟩) (fun x => DelI p l x.1 x.2.1 x.2.2) (fun x => l.length - x.2.1) ((k0, k0 + 1, l)) ?_ (hI0) ?_
  ·exact Weak.ren _ [] hC rfl ⟨⟨_, rfl, rfl⟩, ⟨_, rfl, leadsL_data _ ds⟩, by repeat (first | exact True.intro | refine And.intro ?_ ?_ | exact DLead.same)⟩ (by repeat (first | exact True.intro | refine And.intro ?_ ?_ | exact rfl | refine ⟨_, _, rfl, rfl, ?_⟩)) rfl rfl rfl
  ·rintro ⟨i, j, e⟩ hI
   dsimp only at hI ⊢
   have hlt := hI.lt
   have hle := hI.le
   have hel := hI.len
   refine AC.seq (AC.seq (AC.region ?_))
   refine zm ?_
   refine AL.p (by exact mv2 rfl) rfl ?_
   refine AL.p (by exact g_len_own (sz := 1) (els := []) (e' := 0) rfl rfl (by simp only [maxLen]; omega)) rfl ?_
   refine zc ?_
   refine AL.nil (th_n ?_)
   refine AC.condD rfl (fun h1 => ?_) (fun h1 => ?_)
   ·refine AC.skip (th_n (AC.seq (AC.block (AC.seq ?_))))
    have hj1 : j < l.length := by omega
    have hrow : (arL e)[j]? = some (arD l[j]) := by rw [List.getElem?_map, hI.get hj1]; rfl
    have hG := hp l[j] (List.getElem_mem hj1)
    have hsk := hI.skip hj1
    have hmv := hI.move hj1
    obtain ⟨x, hx⟩ : ∃ x, x = l[j] := ⟨_, rfl⟩
    rw [← hx] at hrow hG hsk hmv
    obtain ⟨b, hb⟩ : ∃ b, b = p x := ⟨_, rfl⟩
    rw [← hb] at hG hsk hmv
    have hset : arL (e.set i x) = (arL e).set i (arD x) := by unfold arL; rw [List.map_set]
    refine AC.region ?_
    refine AL.p (by exact mv2 rfl) rfl ?_
    refine zm ?_
    refine AL.p (by exact g_ia_own (i := j) (l := l.length) rfl rfl rfl rfl rfl rfl hj1 rfl) rfl ?_
    refine AL.p (by exact g_load_arrN rfl rfl rfl rfl rfl rfl hrow) rfl ?_
    refine AL.q (by exact h_alloc rfl) rfl ?_
    refine zs ?_
    refine AL.nil (th_n (AC.seq (AC.region ?_)))
    refine AL.p (by exact mv6 rfl) rfl ?_
    refine AL.p (by exact g_load_ptrN rfl rfl rfl rfl rfl) rfl ?_
    refine AL.q (by exact h_pure hen rfl rfl (by exact ⟨_, _, rfl, ⟨_, rfl, _, _, rfl, .same, _, _, rfl, .same, _, _, rfl, .same, _, _, rfl, .same, rfl⟩, leadsL_data _ ds⟩) hG rfl) rfl ?_
    refine AL.p (by exact g_not rfl) rfl ?_
    refine AL.nil (th_n ?_)
    refine AC.condB rfl (fun h2 => ?_) (fun h2 => ?_)
    ·refine AC.seq (AC.region ?_)
     refine AL.p (by exact mv2 rfl) rfl ?_
     refine zm ?_
     refine AL.p (by exact g_load_ptrN rfl rfl rfl rfl rfl) rfl ?_
     refine AL.p (by exact g_ia_own (i := i) (l := l.length) rfl rfl rfl rfl rfl rfl (by omega) rfl) rfl ?_
     refine AL.q (by exact h_store_row (i := i) (ds := arD x) rfl rfl rfl rfl rfl rfl rfl (by rw [arL_len]; omega)) rfl ?_
     refine AL.nil (th_n (AC.region ?_))
     refine zm ?_
     refine zA ?_
     refine za ?_
     refine AL.nil (ib_n (th_n (AC.region ?_)))
     refine zm ?_
     refine zA ?_
     refine za ?_
     refine AL.nil (th_n ?_)
     (have e2 := hmv (by simpa using ‹(!b) = true›); exact ⟨(i + 1, j + 1, e.set i x), e2, by dsimp only; omega, Weak.ren _ [] hC rfl ⟨⟨_, rfl, rfl⟩, ⟨_, rfl, leadsL_data _ ds⟩, by repeat (first | exact True.intro | refine And.intro ?_ ?_ | exact DLead.same)⟩ (by rw [hset]; repeat (first | exact True.intro | refine And.intro ?_ ?_ | exact rfl | refine ⟨_, _, rfl, rfl, ?_⟩)) rfl rfl rfl⟩)
    ·refine AC.skip (ib_n (th_n (AC.region ?_)))
     refine zm ?_
     refine zA ?_
     refine za ?_
     refine AL.nil (th_n ?_)
     (have e2 := hsk (by simpa using ‹(!b) = false›); exact ⟨(i, j + 1, e), e2, by dsimp only; omega, Weak.ren _ [] hC rfl ⟨⟨_, rfl, rfl⟩, ⟨_, rfl, leadsL_data _ ds⟩, by repeat (first | exact True.intro | refine And.intro ?_ ?_ | exact DLead.same)⟩ (by repeat (first | exact True.intro | refine And.intro ?_ ?_ | exact rfl | refine ⟨_, _, rfl, rfl, ?_⟩)) rfl rfl rfl⟩)
   ·refine AC.exit (th_e (th_e (ib_y (th_n (AC.seq ?_)))))
    have hjj : j = l.length := by omega
    subst hjj
    have hkept := hI.kept
    rw [List.take_length] at hkept
    have hfl : (l.filter fun x => !p x).length = i := by rw [← hkept, List.length_take]; omega
    have hst : (arL e).take i = arL (l.filter fun x => !p x) := by rw [← hkept]; unfold arL; rw [List.map_take]
    refine AC.region ?_
    refine AL.p (by exact mv2 rfl) rfl ?_
    refine zm ?_
    refine AL.p (by exact g_slice_part (els := arL e) (e' := 75) (sz := 4) (l := i) (h := l.length) rfl rfl rfl rfl rfl (.some rfl rfl) .none (by omega) (by rw [arL_len]; omega) rfl rfl) rfl ?_
    refine AL.q (by exact h_clear (i := i) (q := l.length - i) (els := arL e) (e' := 75) (sz := 4) rfl rfl rfl rfl rfl rfl (by omega) (by rw [arL_len]; omega)) rfl ?_
    refine AL.nil (th_n (AC.seq (AC.region ?_)))
    refine AL.p (by exact mv2 rfl) rfl ?_
    refine zm ?_
    refine AL.p (by exact g_slice_own (els := (arL e).take i) (e' := 75) (sz := 4) rfl rfl rfl rfl (.some rfl rfl) (by rw [List.length_take, arL_len]; omega)) rfl ?_
    refine AL.p (by exact as2 rfl) rfl ?_
    refine AL.nil (th_n (AC.ret (bq_r ?_)))
    exact retN [] rfl (by rw [hfl]; repeat (first | exact rfl | refine ⟨_, rfl, ?_⟩)) (by rw [← hst]; repeat (first | exact True.intro | refine And.intro ?_ ?_ | exact rfl | refine ⟨_, _, rfl, rfl, ?_⟩)) rfl rfl
theorem en_delAr : Enters Tryz.prog 218 := enters_of Tryz.func218 rfl rfl
theorem cloneAr_spec (l : List Ar) (hl : l.length ≤ 1000000) : ASpec Tryz.prog 219 [.d (vArs l)] [] (Fun1 (.own 0 l.length) [(0, .arr 75 4 (arL l))]) := by
 refine ASpec.of Tryz.func219 rfl rfl fun C hC => ?_
 refine AC.seq (AC.region ?_)
 refine za ?_
 refine AL.nil (th_n (AC.seq (AC.seq (AC.region ?_))))
 refine zm ?_
 refine AL.eqNil (ht := rfl) (hx := rfl) rfl (fun b hb => ?_)
 refine AL.nil (th_n ?_)
 refine AC.condB rfl (fun h0 => ?_) (fun h0 => ?_)
 ·refine AC.seq (AC.region ?_)
  refine za ?_
  refine AL.nil (th_n ?_)
  have e : l = [] := by have := hb h0; simpa [arL] using this
  subst e
  refine AC.weak (Weak.nilOwn (i := 2) (e := 75) (sz := 4) rfl (by decide)) ?_
  refine AC.ret (th_r (bq_r ?_))
  exact retN [(0, _)] rfl (by repeat (first | exact rfl | refine ⟨_, rfl, ?_⟩)) (by repeat (first | exact True.intro | refine And.intro ?_ ?_ | exact rfl | refine ⟨_, _, rfl, rfl, ?_⟩)) rfl rfl
 ·refine AC.skip (th_n (AC.seq (AC.region ?_)))
  refine AL.q (by exact h_lit rfl rfl rfl rfl rfl rfl rfl rfl) rfl ?_
  refine zm ?_
  refine AL.q (by exact h_appendAr [] l (.own rfl rfl rfl) (.view rfl) (by simp; omega) (by simp)) rfl ?_
  refine AL.p (by exact as2 rfl) rfl ?_
  refine AL.nil (th_n (AC.ret (bq_r ?_)))
  exact retN [(0, _)] rfl (by repeat (first | exact rfl | refine ⟨_, rfl, ?_⟩)) (by repeat (first | exact True.intro | refine And.intro ?_ ?_ | exact rfl | refine ⟨_, _, rfl, rfl, ?_⟩)) rfl rfl
theorem en_cloneAr : Enters Tryz.prog 219 := enters_of Tryz.func219 rfl rfl
theorem arcsFrom1_spec (v : Ar) (k : Int) : ASpec Tryz.prog 220 [arA v, .d (.ref [dI k])] [] (Pure1 (aT (!decide (v.from_ = k)))) := by
 refine ASpec.of Tryz.func220 rfl rfl fun C hC => ?_
 refine AC.seq (AC.region ?_)
 refine AL.q (by exact h_boxF rfl rfl) rfl ?_
 refine za ?_
 refine AL.nil (th_n (AC.seq (AC.region ?_)))
 refine zf ?_
 refine zr ?_
 refine zr ?_
 refine zc ?_
 refine za ?_
 refine AL.nil (th_n (AC.ret (bq_r ?_)))
 exact ret1 rfl rfl
theorem en_arcsFrom1 : Enters Tryz.prog 220 := enters_of Tryz.func220 rfl rfl
def leaveL (c : SG) (k : Int) : List Ar := c.arcs.filter fun v => decide (v.from_ = k)
set_option maxHeartbeats 2000000 in
theorem arcsFrom_spec (c : SG) (k : Int) (hl : c.arcs.length ≤ 1000000) : ASpec Tryz.prog 164 [sgA c, aI k] [] (Pure1 (.d (vArs (leaveL c k)))) := by
 have hCl := cloneAr_spec c.arcs hl
 have hD := delAr_spec c.arcs hl 220 [.ref [dI k]] en_arcsFrom1 (fun v => !decide (v.from_ = k)) (fun v _ => arcsFrom1_spec v k)
 simp only [Bool.not_not] at hD
 have hR : leaveL c k = c.arcs.filter (fun v => decide (v.from_ = k)) := rfl
 rw [← hR] at hD
 obtain ⟨L, hL⟩ : ∃ L, L = leaveL c k := ⟨_, rfl⟩
 rw [← hL] at hD ⊢
 clear hL hR
 refine ASpec.of Tryz.func164 rfl rfl fun C hC => ?_
 refine AC.seq (AC.region ?_)
 refine AL.q (by exact h_boxF rfl rfl) rfl ?_
 refine AL.q (by exact h_boxF rfl rfl) rfl ?_
 refine za ?_
 refine AL.nil (th_n (AC.seq (AC.region ?_)))
 refine zf ?_
 refine zr ?_
 refine AL.q (by exact h_fun (cs := []) en_cloneAr rfl rfl (by repeat (first | exact rfl | exact DLead.same | refine ⟨_, _, rfl, ?_, ?_⟩)) (by repeat (exact True.intro)) hCl rfl rfl rfl rfl) rfl ?_
 refine AL.weak (t := ⟨10, 200, [(3, .d (.ref [dI k])), (7, .own 100 c.arcs.length)], [(100, some (.arr 75 4 (arL c.arcs)))]⟩) (zw [(100, _)] hC) ?_
 refine AL.p (by exact g_fn rfl) rfl ?_
 refine AL.q (by exact h_fun (cs := [100]) en_delAr rfl rfl (by exact ⟨_, _, rfl, ⟨_, rfl, rfl⟩, _, _, rfl, ⟨_, rfl, leadsL_data _ [.ref [dI k]]⟩, rfl⟩) (by repeat (first | exact True.intro | refine And.intro ?_ ?_ | exact rfl | refine ⟨_, _, rfl, rfl, ?_⟩)) hD rfl rfl rfl rfl) rfl ?_
 refine AL.p (by exact as2 rfl) rfl ?_
 refine AL.nil (th_n ?_)
 refine AC.weak (Weak.freeze (i := 4) rfl rfl (Nat.le_of_eq (arL_len _).symm) (List.take_of_length_le (Nat.le_of_eq (arL_len _)))) ?_
 refine AC.ret (bq_r ?_)
 exact ret1 rfl rfl
theorem en_arcsFrom : Enters Tryz.prog 164 := enters_of Tryz.func164 rfl rfl
theorem leave_no {l : List Ar} {k : Int} {j : Nat} (hj : j < l.length) (h : ¬ l[j].from_ = k) : (l.take (j + 1)).filter (fun v => decide (v.from_ = k)) = (l.take j).filter (fun v => decide (v.from_ = k)) := by
 rw [List.take_add_one, List.getElem?_eq_getElem hj, List.filter_append]
 simp [h]
theorem leave_yes {l : List Ar} {k : Int} {j : Nat} (hj : j < l.length) (h : l[j].from_ = k) : (l.take (j + 1)).filter (fun v => decide (v.from_ = k)) = (l.take j).filter (fun v => decide (v.from_ = k)) ++ [l[j]] := by
 rw [List.take_add_one, List.getElem?_eq_getElem hj, List.filter_append]
 simp [h]
set_option maxHeartbeats 2000000 in
theorem l5From_spec (c : SG) (k : Int) (hl : c.arcs.length ≤ 1000000) : ASpec Tryz.prog 168 [sgA c, aI k] [] (Pure1 (.d (vArs (leaveL c k)))) := by
 refine ASpec.of Tryz.func168 rfl rfl fun C hC => ?_
 refine AC.seq (AC.region ?_)
 refine AL.q (by exact h_boxF rfl rfl) rfl ?_
 refine za ?_
 refine AL.nil (th_n (AC.seq (AC.region ?_)))
 refine za ?_
 refine AL.nil (th_n (AC.seq (AC.seq (AC.region ?_))))
 refine zf ?_
 refine zr ?_
 refine AL.p (by exact g_len_view (k := c.arcs.length) rfl rfl (arL_len _)) rfl ?_
 refine zm ?_
 refine AL.nil (th_n (AC.block ?_))
 refine AC.loop (ι := Nat) (fun j => ⟨25, 300, [(1, aI k), (2, .d (.ref (sgD c))), (5, .own 100 ((c.arcs.take j).filter (fun v => decide (v.from_ = k))).length), (9, .d (vArs c.arcs)), (10, aI c.arcs.length), (11, aI j)], [(100, some (.arr 75 4 (arL ((c.arcs.take j).filter (fun v => decide (v.from_ = k))))))]⟩) (fun j => j ≤ c.arcs.length) (fun j => c.arcs.length - j) (0) ?_ (Nat.zero_le _) ?_
 ·exact (Weak.nilOwn (i := 5) (e := 75) (sz := 4) rfl (by decide)).trans (zw [(100, _)] hC)
 ·intro j hj
  refine AC.seq (AC.region ?_)
  refine zc ?_
  refine AL.nil (th_n (AC.seq ?_))
  refine AC.condD rfl (fun h0 => ?_) (fun h0 => ?_)
  ·refine AC.skip (th_n (AC.seq (AC.block (AC.seq ?_))))
   have hj1 : j < c.arcs.length := by omega
   have hget := arL_get hj1
   have hfn := leave_no (k := k) hj1
   have hfy := leave_yes (k := k) hj1
   have hfl := List.length_filter_le (fun v : Ar => decide (v.from_ = k)) (c.arcs.take j)
   rw [List.length_take] at hfl
   obtain ⟨v, hv⟩ : ∃ v, v = c.arcs[j] := ⟨_, rfl⟩
   rw [← hv] at hget hfn hfy
   clear hv
   obtain ⟨F, hF⟩ : ∃ F, F = (c.arcs.take j).filter (fun v => decide (v.from_ = k)) := ⟨_, rfl⟩
   rw [← hF] at hfn hfy hfl ⊢
   clear hF
   refine AC.region ?_
   refine AL.p (by exact g_ia_view rfl rfl rfl rfl rfl (by rfl) (by assumption)) rfl ?_
   refine AL.p (by exact g_load_refN rfl rfl rfl rfl) rfl ?_
   refine AL.q (by exact h_alloc rfl) rfl ?_
   refine zs ?_
   refine AL.nil (th_n (AC.seq (AC.region ?_)))
   refine zF ?_
   refine zl ?_
   refine zm ?_
   refine zc ?_
   refine AL.nil (th_n ?_)
   refine AC.condD rfl (fun h1 => ?_) (fun h1 => ?_)
   ·refine AC.region ?_
    refine AL.p (by exact mv2 rfl) rfl ?_
    refine AL.p (by exact g_load_ptrN rfl rfl rfl rfl rfl) rfl ?_
    refine AL.q (by exact h_litF rfl rfl rfl rfl rfl rfl rfl rfl) rfl ?_
    refine AL.q (by exact h_appendAr F [v] (.own rfl rfl (arL_len _).symm) (.view rfl) (by rw [List.length_append]; simp only [List.length_cons, List.length_nil]; omega) (by simp)) rfl ?_
    refine AL.p (by exact as2 rfl) rfl ?_
    refine AL.nil (ib_n (th_n (AC.region ?_)))
    refine zA ?_
    refine zm ?_
    refine AL.nil (th_n ?_)
    (have e := hfy (by assumption); exact ⟨j + 1, by omega, by omega, zw [(100, _)] hC (by rw [e]; repeat (first | exact True.intro | refine And.intro ?_ ?_ | exact DLead.same | exact rfl | refine ⟨_, rfl, ?_⟩)) (by rw [e]; repeat (first | exact True.intro | refine And.intro ?_ ?_ | exact rfl | refine ⟨_, _, rfl, rfl, ?_⟩))⟩)
   ·refine AC.skip (ib_n (th_n (AC.region ?_)))
    refine zA ?_
    refine zm ?_
    refine AL.nil (th_n ?_)
    (have e := hfn (by assumption); exact ⟨j + 1, by omega, by omega, zw [(100, 100)] hC (by rw [e]; repeat (first | exact True.intro | refine And.intro ?_ ?_ | exact DLead.same | exact rfl | refine ⟨_, rfl, ?_⟩)) (by rw [e]; repeat (first | exact True.intro | refine And.intro ?_ ?_ | exact rfl | refine ⟨_, _, rfl, rfl, ?_⟩))⟩)
  ·refine AC.exit (th_e (th_e (ib_y (th_n (AC.seq ?_)))))
   have hjj : j = c.arcs.length := by omega
   rw [hjj, List.take_length]
   obtain ⟨L, hL⟩ : ∃ L, L = c.arcs.filter (fun v => decide (v.from_ = k)) := ⟨_, rfl⟩
   have hL2 : leaveL c k = L := hL.symm
   rw [← hL, hL2]
   refine AC.weak (Weak.freeze (i := 5) rfl rfl (Nat.le_of_eq (arL_len _).symm) (List.take_of_length_le (Nat.le_of_eq (arL_len _)))) ?_
   refine AC.region ?_
   refine zm ?_
   refine za ?_
   refine AL.nil (th_n (AC.ret (bq_r ?_)))
   exact ret1 rfl rfl
theorem en_l5From : Enters Tryz.prog 168 := enters_of Tryz.func168 rfl rfl
noncomputable def stateB (c : SG) (k : Int) : Bool := validC c && (decide (0 ≤ k) && decide (k ≤ (c.codes.length : Int) - 1))
noncomputable def leaveR (c : SG) (k : Int) : List Ar × Bool := if stateB c k = true then (leaveL c k, true) else ([], false)
theorem l5State_spec (c : SG) (k : Int) (hc : SgL c) : ASpec Tryz.prog 162 [sgA c, aI k] [] (Pure1 (aT (stateB c k))) := by
 have hV := l5Good_spec c hc
 have hW := l1In_spec k 0 ((c.codes.length : Int) - 1)
 have hn := hc.n
 have hR : stateB c k = (validC c && (decide (0 ≤ k) && decide (k ≤ (c.codes.length : Int) - 1))) := rfl
 obtain ⟨b, hb⟩ : ∃ b, b = validC c := ⟨_, rfl⟩
 rw [← hb] at hV hR
 obtain ⟨d, hd⟩ : ∃ d, d = (decide (0 ≤ k) && decide (k ≤ (c.codes.length : Int) - 1)) := ⟨_, rfl⟩
 rw [← hd] at hW hR
 rw [hR]
 clear hR hb hd
 refine ASpec.of Tryz.func162 rfl rfl fun C hC => ?_
 refine AC.seq (AC.region ?_)
 refine AL.q (by exact h_boxF rfl rfl) rfl ?_
 refine za ?_
 refine AL.nil (th_n (AC.seq (AC.region ?_)))
 refine AL.p (by exact g_load_refN rfl rfl rfl rfl) rfl ?_
 refine AL.q (by exact h_pure en_l5Good rfl rfl (by repeat (first | exact rfl | exact DLead.same | refine ⟨_, _, rfl, ?_, ?_⟩ | refine ⟨_, rfl, ?_⟩)) hV rfl) rfl ?_
 refine zm ?_
 refine AL.caseGB rfl rfl (fun h0 => ?_) (fun h0 => ?_)
 ·refine zy ?_
  refine zm ?_
  refine zy ?_
  refine zf ?_
  refine zy ?_
  refine zr ?_
  refine zy ?_
  refine AL.p (by exact g_len_view (k := c.codes.length) rfl rfl (tsX_len _)) rfl ?_
  refine zy ?_
  refine zA ?_
  refine zy ?_
  refine AL.q (by exact h_pure en_l1In rfl rfl (by repeat (first | exact rfl | exact DLead.same | refine ⟨_, _, rfl, ?_, ?_⟩)) hW rfl) rfl ?_
  refine zQ ?_
  refine za ?_
  refine AL.nil (th_n (AC.ret (bq_r ?_)))
  (have q := ‹b = true›; exact ret1 rfl (by rw [q, Bool.true_and]))
 ·refine zn ?_
  refine zn ?_
  refine zn ?_
  refine zn ?_
  refine zn ?_
  refine zn ?_
  refine zP ?_
  refine za ?_
  refine AL.nil (th_n (AC.ret (bq_r ?_)))
  (have q := ‹b = false›; exact ret1 rfl (by rw [q]; rfl))
theorem en_l5State : Enters Tryz.prog 162 := enters_of Tryz.func162 rfl rfl
set_option maxHeartbeats 2000000 in
theorem iArcsFrom_spec (c : SG) (k : Int) (hc : SgL c) : ASpec Tryz.prog 74 [sgA c, aI k] [] (Pure1 (.tup [.d (vArs (leaveR c k).1), aT (leaveR c k).2])) := by
 have hV := iValidSg_spec c hc
 have hW := within_spec k 0 ((c.codes.length : Int) - 1)
 have hA := arcsFrom_spec c k hc.a
 have hn := hc.n
 have hR : leaveR c k = if (validC c && (decide (0 ≤ k) && decide (k ≤ (c.codes.length : Int) - 1))) = true then (leaveL c k, true) else ([], false) := rfl
 obtain ⟨b, hb⟩ : ∃ b, b = validC c := ⟨_, rfl⟩
 rw [← hb] at hV hR
 obtain ⟨d, hd⟩ : ∃ d, d = (decide (0 ≤ k) && decide (k ≤ (c.codes.length : Int) - 1)) := ⟨_, rfl⟩
 rw [← hd] at hW hR
 obtain ⟨R, hRR⟩ : ∃ R, R = leaveR c k := ⟨_, rfl⟩
 rw [← hRR] at hR ⊢
 clear hb hd hRR
 refine ASpec.of Tryz.func74 rfl rfl fun C hC => ?_
 refine AC.seq (AC.region ?_)
 refine AL.q (by exact h_boxF rfl rfl) rfl ?_
 refine za ?_
 refine za ?_
 refine AL.nil (th_n (AC.seq (AC.seq (AC.region ?_))))
 refine AL.p (by exact g_load_refN rfl rfl rfl rfl) rfl ?_
 refine AL.q (by exact h_pure en_iValidSg rfl rfl (by repeat (first | exact rfl | exact DLead.same | refine ⟨_, _, rfl, ?_, ?_⟩ | refine ⟨_, rfl, ?_⟩)) hV rfl) rfl ?_
 refine AL.p (by exact g_not rfl) rfl ?_
 refine zm ?_
 refine AL.caseGB rfl rfl (fun h0 => ?_) (fun h0 => ?_)
 ·refine zn ?_
  refine zn ?_
  refine zn ?_
  refine zn ?_
  refine zn ?_
  refine zn ?_
  refine zn ?_
  refine zQ ?_
  refine AL.nil (th_n ?_)
  refine AC.condT rfl ?_
  refine AC.seq (AC.region ?_)
  refine za ?_
  refine za ?_
  refine AL.nil (th_n (AC.ret (th_r (bq_r ?_))))
  have e : R = ([], false) := hR.trans (if_neg (by simp_all))
  exact ret0 rfl (by rw [e]; show AV.leads _ (.tup [.d (vArs []), aT false]) _; repeat (first | exact DLead.same | exact DLead.nil | exact rfl | refine ⟨_, rfl, ?_⟩ | refine ⟨_, _, rfl, ?_, ?_⟩))
 ·refine zy ?_
  refine zm ?_
  refine zy ?_
  refine zf ?_
  refine zy ?_
  refine zr ?_
  refine zy ?_
  refine AL.p (by exact g_len_view (k := c.codes.length) rfl rfl (tsX_len _)) rfl ?_
  refine zy ?_
  refine zA ?_
  refine zy ?_
  refine AL.q (by exact h_pure en_within rfl rfl (by repeat (first | exact rfl | exact DLead.same | refine ⟨_, _, rfl, ?_, ?_⟩)) hW rfl) rfl ?_
  refine zy ?_
  refine AL.p (by exact g_not rfl) rfl ?_
  refine zP ?_
  refine AL.nil (th_n ?_)
  refine AC.condB rfl (fun h1 => ?_) (fun h1 => ?_)
  ·refine AC.seq (AC.region ?_)
   refine za ?_
   refine za ?_
   refine AL.nil (th_n (AC.ret (th_r (bq_r ?_))))
   have e : R = ([], false) := hR.trans (if_neg (by simp_all))
   exact ret0 rfl (by rw [e]; show AV.leads _ (.tup [.d (vArs []), aT false]) _; repeat (first | exact DLead.same | exact DLead.nil | exact rfl | refine ⟨_, rfl, ?_⟩ | refine ⟨_, _, rfl, ?_, ?_⟩))
  ·refine AC.skip (th_n (AC.seq (AC.region ?_)))
   refine AL.p (by exact g_load_refN rfl rfl rfl rfl) rfl ?_
   refine zm ?_
   refine AL.q (by exact h_pure en_arcsFrom rfl rfl (by repeat (first | exact rfl | exact DLead.same | refine ⟨_, _, rfl, ?_, ?_⟩ | refine ⟨_, rfl, ?_⟩)) hA rfl) rfl ?_
   refine za ?_
   refine za ?_
   refine AL.nil (th_n (AC.ret (bq_r ?_)))
   have e : R = (leaveL c k, true) := hR.trans (if_pos (by simp_all))
   exact ret0 rfl (by rw [e]; show AV.leads _ (.tup [.d (vArs (leaveL c k)), aT true]) _; repeat (first | exact DLead.same | exact rfl | refine ⟨_, rfl, ?_⟩ | refine ⟨_, _, rfl, ?_, ?_⟩))
theorem en_iArcsFrom : Enters Tryz.prog 74 := enters_of Tryz.func74 rfl rfl
set_option maxHeartbeats 2000000 in
theorem sArcsFrom_spec (c : SG) (k : Int) (hc : SgL c) : ASpec Tryz.prog 78 [sgA c, aI k] [] (Pure1 (.tup [.d (vArs (leaveR c k).1), aT (leaveR c k).2])) := by
 have hV := l5State_spec c k hc
 have hA := l5From_spec c k hc.a
 have hR : leaveR c k = if stateB c k = true then (leaveL c k, true) else ([], false) := rfl
 obtain ⟨b, hb⟩ : ∃ b, b = stateB c k := ⟨_, rfl⟩
 rw [← hb] at hV hR
 obtain ⟨R, hRR⟩ : ∃ R, R = leaveR c k := ⟨_, rfl⟩
 rw [← hRR] at hR ⊢
 clear hb hRR
 refine ASpec.of Tryz.func78 rfl rfl fun C hC => ?_
 refine AC.seq (AC.region ?_)
 refine AL.q (by exact h_boxF rfl rfl) rfl ?_
 refine za ?_
 refine za ?_
 refine AL.nil (th_n (AC.seq (AC.seq (AC.region ?_))))
 refine AL.p (by exact g_load_refN rfl rfl rfl rfl) rfl ?_
 refine zm ?_
 refine AL.q (by exact h_pure en_l5State rfl rfl (by repeat (first | exact rfl | exact DLead.same | refine ⟨_, _, rfl, ?_, ?_⟩ | refine ⟨_, rfl, ?_⟩)) hV rfl) rfl ?_
 refine AL.p (by exact g_not rfl) rfl ?_
 refine AL.nil (th_n ?_)
 refine AC.condB rfl (fun h0 => ?_) (fun h0 => ?_)
 ·refine AC.seq (AC.region ?_)
  refine za ?_
  refine za ?_
  refine AL.nil (th_n (AC.ret (th_r (bq_r ?_))))
  have e : R = ([], false) := hR.trans (if_neg (by simp_all))
  exact ret0 rfl (by rw [e]; show AV.leads _ (.tup [.d (vArs []), aT false]) _; repeat (first | exact DLead.same | exact DLead.nil | exact rfl | refine ⟨_, rfl, ?_⟩ | refine ⟨_, _, rfl, ?_, ?_⟩))
 ·refine AC.skip (th_n (AC.seq (AC.region ?_)))
  refine AL.p (by exact g_load_refN rfl rfl rfl rfl) rfl ?_
  refine zm ?_
  refine AL.q (by exact h_pure en_l5From rfl rfl (by repeat (first | exact rfl | exact DLead.same | refine ⟨_, _, rfl, ?_, ?_⟩ | refine ⟨_, rfl, ?_⟩)) hA rfl) rfl ?_
  refine za ?_
  refine za ?_
  refine AL.nil (th_n (AC.ret (bq_r ?_)))
  have e : R = (leaveL c k, true) := hR.trans (if_pos (by simp_all))
  exact ret0 rfl (by rw [e]; show AV.leads _ (.tup [.d (vArs (leaveL c k)), aT true]) _; repeat (first | exact DLead.same | exact rfl | refine ⟨_, rfl, ?_⟩ | refine ⟨_, _, rfl, ?_, ?_⟩))
theorem en_sArcsFrom : Enters Tryz.prog 78 := enters_of Tryz.func78 rfl rfl
end Go.Proofs.YthafkkgmekgmoaaGreat
