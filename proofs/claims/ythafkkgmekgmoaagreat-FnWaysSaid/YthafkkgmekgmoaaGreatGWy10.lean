/- Contracts of the functions of the program and of the reference, each proved by a walk through its code. -/
import Derived.WalkKit
import Derived.WalkSpells
import Derived.WalkLawsBesides
import Derived.Deep.Draws
import Derived.Lib.Hide
import Derived.Maps.AppendAt
import Derived.OwnWalk
import Derived.Deep.MidRow
import Derived.Laws.ResultCell
import Derived.Deep.Upon
import Derived.Great.FillDense
import Derived.Laws.Tables
import Derived.Laws.BytesArg
import Derived.Laws.MakeOwn
import Derived.Great.BuildSlice
import Derived.ArgAppend
import Derived.Deep.AppendSrc
import Derived.Test.YthafkkgmekgmoaaGreatProg
import Derived.KernelRfl
import Derived.Orders
import Derived.Laws.IdiomStrings
import Derived.Lib.AppendZerosOnto
import Derived.ProofKit
import Derived.OpenShut
import Derived.Lib.SliceRun
import Derived.Laws.StructEq
import Derived.ChangeKeysEq
import Derived.Sort.Grow
import Derived.Laws.RangeString
import Derived.Below
import Derived.Laws.Small
import Derived.MapKept
import Derived.WideMake
import Derived.Laws.IdiomCopy
import Derived.Shelf.Bits.Mul64
import Derived.Test.YthafkkgmekgmoaaGreatRows
import Derived.Test.YthafkkgmekgmoaaGreatGWy9
set_option linter.all false
set_option maxRecDepth 20000
namespace Go.Proofs.YthafkkgmekgmoaaGreat
open Go.RowKit
def okS (s : Stg) : Bool := decide (1 ≤ s.net.ts.length) && decide (0 ≤ s.net.places) && decide (s.net.places ≤ 40) && decide (s.net.ts.length ≤ 13) && s.net.ts.all (fun t => decide (t.pre.length ≤ 4) && decide (t.post.length ≤ 4)) && decide (1 ≤ s.sigs.length) && decide (s.sigs.length ≤ 8) && s.sigs.all (fun x => decide (x.name.length ≤ 10)) && decide (1 ≤ s.labs.length) && decide (s.labs.length ≤ 20) && s.labs.all (fun x => decide (-10 ≤ x.sig) && decide (x.sig ≤ 10)) && decide (s.start.length ≤ 40)
structure StgS (s : Stg) : Prop where
 p : 0 ≤ s.net.places ∧ s.net.places ≤ 40
 tl : s.net.ts.length ≤ 13
 t : ∀ t, t ∈ s.net.ts → t.pre.length ≤ 4 ∧ t.post.length ≤ 4
 s0 : 1 ≤ s.sigs.length
 sl : s.sigs.length ≤ 8
 sn : ∀ x, x ∈ s.sigs → x.name.length ≤ 10
 ll : s.labs.length ≤ 20
 lb : ∀ x, x ∈ s.labs → -10 ≤ x.sig ∧ x.sig ≤ 10
 st : s.start.length ≤ 60
theorem okS_S {s : Stg} (h : okS s = true) : StgS s ∧ 1 ≤ s.labs.length ∧ s.start.length ≤ 40 := by
 simp only [okS, Bool.and_eq_true, decide_eq_true_eq, List.all_eq_true] at h
 obtain ⟨⟨⟨⟨⟨⟨⟨⟨⟨⟨⟨h0, h1⟩, h2⟩, h3⟩, h4⟩, h5⟩, h6⟩, h7⟩, h8⟩, h9⟩, h10⟩, h11⟩ := h
 exact ⟨⟨⟨h1, h2⟩, h3, h4, h5, h6, h7, h9, h10, by omega⟩, h8, h11⟩
theorem StgS.B {s : Stg} (h : StgS s) : StgB s := ⟨⟨by have := h.p; omega, by have := h.tl; omega, fun t ht => by have := h.t t ht; omega⟩, by have := h.sl; omega, fun t ht => by have := h.sn t ht; omega, by have := h.ll; omega, fun x hx => by have := h.lb x hx; omega, by have := h.st; omega⟩
def plS0 : Stg := buildS [97, 98] [99] [] [97, 43, 62, 99, 43, 32, 98, 43, 62, 99, 43, 32, 99, 43, 62, 97, 45, 32, 99, 43, 62, 98, 45, 32, 97, 45, 62, 99, 45, 32, 98, 45, 62, 99, 45, 32, 42, 99, 45, 62, 97, 43, 32, 42, 99, 45, 62, 98, 43]
theorem plS0_ok : okS plS0 = true := by decide +kernel
def plS1 : Stg := buildS [97] [98] [] [97, 43, 62, 98, 43, 32, 98, 43, 62, 97, 45, 32, 97, 45, 62, 98, 45, 32, 42, 98, 45, 62, 97, 43]
theorem plS1_ok : okS plS1 = true := by decide +kernel
def plS2 : Stg := buildS [114] [120, 121] [] [114, 43, 62, 120, 43, 32, 114, 43, 62, 121, 43, 32, 120, 43, 62, 114, 45, 32, 121, 43, 62, 114, 45, 32, 114, 45, 62, 120, 45, 32, 114, 45, 62, 121, 45, 32, 42, 120, 45, 62, 114, 43, 32, 42, 121, 45, 62, 114, 43]
theorem plS2_ok : okS plS2 = true := by decide +kernel
def plS3 : Stg := buildS [97, 100] [98, 99] [] [97, 43, 62, 98, 43, 32, 98, 43, 62, 100, 43, 32, 100, 43, 62, 99, 43, 32, 99, 43, 62, 97, 45, 32, 97, 45, 62, 98, 45, 32, 98, 45, 62, 100, 45, 32, 100, 45, 62, 99, 45, 32, 42, 99, 45, 62, 97, 43]
theorem plS3_ok : okS plS3 = true := by decide +kernel
def plS4 : Stg := buildS [97] [98] [120] [97, 43, 62, 120, 43, 32, 120, 43, 62, 98, 43, 32, 98, 43, 62, 97, 45, 32, 97, 45, 62, 120, 45, 32, 120, 45, 62, 98, 45, 32, 42, 98, 45, 62, 97, 43]
theorem plS4_ok : okS plS4 = true := by decide +kernel
def plS5 : Stg := buildS [97, 98] [99] [] [42, 95, 112, 62, 97, 43, 32, 95, 112, 62, 98, 43, 32, 97, 43, 62, 99, 43, 47, 49, 32, 99, 43, 47, 49, 62, 97, 45, 32, 97, 45, 62, 99, 45, 47, 49, 32, 99, 45, 47, 49, 62, 95, 112, 32, 98, 43, 62, 99, 43, 47, 50, 32, 99, 43, 47, 50, 62, 98, 45, 32, 98, 45, 62, 99, 45, 47, 50, 32, 99, 45, 47, 50, 62, 95, 112]
theorem plS5_ok : okS plS5 = true := by decide +kernel
def plS6 : Stg := buildS [97] [98] [] [97, 43, 62, 126, 32, 126, 62, 98, 43, 32, 98, 43, 62, 97, 45, 32, 97, 45, 62, 98, 45, 32, 42, 98, 45, 62, 97, 43]
theorem plS6_ok : okS plS6 = true := by decide +kernel
def grS0 : Stg := buildS [114] [120, 121] [] [42, 121, 45, 62, 114, 43, 32, 114, 43, 62, 120, 43, 32, 120, 43, 62, 120, 45, 32, 120, 45, 62, 121, 43, 32, 121, 43, 62, 114, 45, 32, 114, 45, 62, 121, 45]
theorem grS0_ok : okS grS0 = true := by decide +kernel
def grS1 : Stg := buildS [97] [98, 99] [] [42, 97, 45, 62, 97, 43, 32, 97, 43, 62, 95, 112, 32, 95, 112, 62, 98, 43, 32, 95, 112, 62, 99, 43, 32, 98, 43, 62, 98, 45, 32, 99, 43, 62, 99, 45, 32, 98, 45, 62, 95, 113, 32, 99, 45, 62, 95, 113, 32, 95, 113, 62, 97, 45]
theorem grS1_ok : okS grS1 = true := by decide +kernel
def grS2 : Stg := buildS [97] [98] [] [97, 43, 47, 49, 62, 98, 43, 32, 98, 43, 62, 97, 43, 47, 50, 32, 97, 43, 47, 50, 62, 98, 45, 32, 42, 98, 45, 62, 97, 43, 47, 49]
theorem grS2_ok : okS grS2 = true := by decide +kernel
def grS4 : Stg := buildS [97] [98] [] [42, 95, 112, 62, 97, 43, 32, 97, 43, 62, 98, 43, 32, 98, 43, 62, 95, 113]
theorem grS4_ok : okS grS4 = true := by decide +kernel
def twS0 : Stg := buildS [112] [113] [] [112, 43, 62, 113, 43, 32, 113, 43, 62, 112, 45, 32, 112, 45, 62, 113, 45, 32, 42, 113, 45, 62, 112, 43]
theorem twS0_ok : okS twS0 = true := by decide +kernel
def twS1 : Stg := buildS [97] [98] [] [97, 43, 62, 98, 43, 32, 98, 43, 62, 97, 45, 32, 97, 45, 62, 98, 45, 32, 42, 98, 45, 62, 97, 43]
theorem twS1_ok : okS twS1 = true := by decide +kernel
def grS3 : Stg := unionT twS0 twS1
theorem grS3_ok : okS grS3 = true := by decide +kernel
theorem twS_ok : (unionS twS0 twS1).2 = true := by decide +kernel
theorem twS_net : okS ⟨(unionR twS0.net twS1.net).1, twS0.sigs, twS0.labs, []⟩ = true := by decide +kernel
def plS (i : Int) : Stg := if i = 0 then plS0 else if i = 1 then plS1 else if i = 2 then plS2 else if i = 3 then plS3 else if i = 4 then plS4 else if i = 5 then plS5 else plS6
theorem plS_ok (i : Int) : okS (plS i) = true := by
 unfold plS
 split
 ·exact plS0_ok
 split
 ·exact plS1_ok
 split
 ·exact plS2_ok
 split
 ·exact plS3_ok
 split
 ·exact plS4_ok
 split
 ·exact plS5_ok
 exact plS6_ok
def stgI (c : Cur) : Stg × Cur := if (c.pick 9).1 = 0 then (grS0, (c.pick 9).2) else if (c.pick 9).1 = 1 then (grS1, (c.pick 9).2) else if (c.pick 9).1 = 2 then (grS2, (c.pick 9).2) else if (c.pick 9).1 = 3 then (grS3, (c.pick 9).2) else if (c.pick 9).1 = 4 then (grS4, (c.pick 9).2) else (plS ((c.pick 9).2.pick 7).1, ((c.pick 9).2.pick 7).2)
theorem stgI_in (c : Cur) : okS (stgI c).1 = true ∧ (stgI c).2.pos ≤ c.pos + 4 ∧ (stgI c).2.code = c.code := by
 have h1 := c.pick_pos 9
 have h2 := (c.pick 9).2.pick_pos 7
 have k1 := c.pick_code 9
 have k2 := (c.pick 9).2.pick_code 7
 unfold stgI
 split
 ·exact ⟨grS0_ok, by dsimp only; omega, k1⟩
 split
 ·exact ⟨grS1_ok, by dsimp only; omega, k1⟩
 split
 ·exact ⟨grS2_ok, by dsimp only; omega, k1⟩
 split
 ·exact ⟨grS3_ok, by dsimp only; omega, k1⟩
 split
 ·exact ⟨grS4_ok, by dsimp only; omega, k1⟩
 exact ⟨plS_ok _, by dsimp only; omega, k2.trans k1⟩
theorem plS0_spec : ASpec Tryz.prog 145 [aS (bstr [97, 98]), aS (bstr [99]), aS (bstr []), aS (bstr [97, 43, 62, 99, 43, 32, 98, 43, 62, 99, 43, 32, 99, 43, 62, 97, 45, 32, 99, 43, 62, 98, 45, 32, 97, 45, 62, 99, 45, 32, 98, 45, 62, 99, 45, 32, 42, 99, 45, 62, 97, 43, 32, 42, 99, 45, 62, 98, 43])] [] (Fun1 (stgO plS0 0 1 2) (stgChs plS0 0 1 2)) := l2Build_spec _ _ _ _ (by decide) (by decide) (by decide) (by decide) (by decide +kernel)
theorem plS1_spec : ASpec Tryz.prog 145 [aS (bstr [97]), aS (bstr [98]), aS (bstr []), aS (bstr [97, 43, 62, 98, 43, 32, 98, 43, 62, 97, 45, 32, 97, 45, 62, 98, 45, 32, 42, 98, 45, 62, 97, 43])] [] (Fun1 (stgO plS1 0 1 2) (stgChs plS1 0 1 2)) := l2Build_spec _ _ _ _ (by decide) (by decide) (by decide) (by decide) (by decide +kernel)
theorem plS2_spec : ASpec Tryz.prog 145 [aS (bstr [114]), aS (bstr [120, 121]), aS (bstr []), aS (bstr [114, 43, 62, 120, 43, 32, 114, 43, 62, 121, 43, 32, 120, 43, 62, 114, 45, 32, 121, 43, 62, 114, 45, 32, 114, 45, 62, 120, 45, 32, 114, 45, 62, 121, 45, 32, 42, 120, 45, 62, 114, 43, 32, 42, 121, 45, 62, 114, 43])] [] (Fun1 (stgO plS2 0 1 2) (stgChs plS2 0 1 2)) := l2Build_spec _ _ _ _ (by decide) (by decide) (by decide) (by decide) (by decide +kernel)
theorem plS3_spec : ASpec Tryz.prog 145 [aS (bstr [97, 100]), aS (bstr [98, 99]), aS (bstr []), aS (bstr [97, 43, 62, 98, 43, 32, 98, 43, 62, 100, 43, 32, 100, 43, 62, 99, 43, 32, 99, 43, 62, 97, 45, 32, 97, 45, 62, 98, 45, 32, 98, 45, 62, 100, 45, 32, 100, 45, 62, 99, 45, 32, 42, 99, 45, 62, 97, 43])] [] (Fun1 (stgO plS3 0 1 2) (stgChs plS3 0 1 2)) := l2Build_spec _ _ _ _ (by decide) (by decide) (by decide) (by decide) (by decide +kernel)
theorem plS4_spec : ASpec Tryz.prog 145 [aS (bstr [97]), aS (bstr [98]), aS (bstr [120]), aS (bstr [97, 43, 62, 120, 43, 32, 120, 43, 62, 98, 43, 32, 98, 43, 62, 97, 45, 32, 97, 45, 62, 120, 45, 32, 120, 45, 62, 98, 45, 32, 42, 98, 45, 62, 97, 43])] [] (Fun1 (stgO plS4 0 1 2) (stgChs plS4 0 1 2)) := l2Build_spec _ _ _ _ (by decide) (by decide) (by decide) (by decide) (by decide +kernel)
theorem plS5_spec : ASpec Tryz.prog 145 [aS (bstr [97, 98]), aS (bstr [99]), aS (bstr []), aS (bstr [42, 95, 112, 62, 97, 43, 32, 95, 112, 62, 98, 43, 32, 97, 43, 62, 99, 43, 47, 49, 32, 99, 43, 47, 49, 62, 97, 45, 32, 97, 45, 62, 99, 45, 47, 49, 32, 99, 45, 47, 49, 62, 95, 112, 32, 98, 43, 62, 99, 43, 47, 50, 32, 99, 43, 47, 50, 62, 98, 45, 32, 98, 45, 62, 99, 45, 47, 50, 32, 99, 45, 47, 50, 62, 95, 112])] [] (Fun1 (stgO plS5 0 1 2) (stgChs plS5 0 1 2)) := l2Build_spec _ _ _ _ (by decide) (by decide) (by decide) (by decide) (by decide +kernel)
theorem plS6_spec : ASpec Tryz.prog 145 [aS (bstr [97]), aS (bstr [98]), aS (bstr []), aS (bstr [97, 43, 62, 126, 32, 126, 62, 98, 43, 32, 98, 43, 62, 97, 45, 32, 97, 45, 62, 98, 45, 32, 42, 98, 45, 62, 97, 43])] [] (Fun1 (stgO plS6 0 1 2) (stgChs plS6 0 1 2)) := l2Build_spec _ _ _ _ (by decide) (by decide) (by decide) (by decide) (by decide +kernel)
theorem grS0_spec : ASpec Tryz.prog 145 [aS (bstr [114]), aS (bstr [120, 121]), aS (bstr []), aS (bstr [42, 121, 45, 62, 114, 43, 32, 114, 43, 62, 120, 43, 32, 120, 43, 62, 120, 45, 32, 120, 45, 62, 121, 43, 32, 121, 43, 62, 114, 45, 32, 114, 45, 62, 121, 45])] [] (Fun1 (stgO grS0 0 1 2) (stgChs grS0 0 1 2)) := l2Build_spec _ _ _ _ (by decide) (by decide) (by decide) (by decide) (by decide +kernel)
theorem grS1_spec : ASpec Tryz.prog 145 [aS (bstr [97]), aS (bstr [98, 99]), aS (bstr []), aS (bstr [42, 97, 45, 62, 97, 43, 32, 97, 43, 62, 95, 112, 32, 95, 112, 62, 98, 43, 32, 95, 112, 62, 99, 43, 32, 98, 43, 62, 98, 45, 32, 99, 43, 62, 99, 45, 32, 98, 45, 62, 95, 113, 32, 99, 45, 62, 95, 113, 32, 95, 113, 62, 97, 45])] [] (Fun1 (stgO grS1 0 1 2) (stgChs grS1 0 1 2)) := l2Build_spec _ _ _ _ (by decide) (by decide) (by decide) (by decide) (by decide +kernel)
theorem grS2_spec : ASpec Tryz.prog 145 [aS (bstr [97]), aS (bstr [98]), aS (bstr []), aS (bstr [97, 43, 47, 49, 62, 98, 43, 32, 98, 43, 62, 97, 43, 47, 50, 32, 97, 43, 47, 50, 62, 98, 45, 32, 42, 98, 45, 62, 97, 43, 47, 49])] [] (Fun1 (stgO grS2 0 1 2) (stgChs grS2 0 1 2)) := l2Build_spec _ _ _ _ (by decide) (by decide) (by decide) (by decide) (by decide +kernel)
theorem grS4_spec : ASpec Tryz.prog 145 [aS (bstr [97]), aS (bstr [98]), aS (bstr []), aS (bstr [42, 95, 112, 62, 97, 43, 32, 97, 43, 62, 98, 43, 32, 98, 43, 62, 95, 113])] [] (Fun1 (stgO grS4 0 1 2) (stgChs grS4 0 1 2)) := l2Build_spec _ _ _ _ (by decide) (by decide) (by decide) (by decide) (by decide +kernel)
theorem twS0_spec : ASpec Tryz.prog 145 [aS (bstr [112]), aS (bstr [113]), aS (bstr []), aS (bstr [112, 43, 62, 113, 43, 32, 113, 43, 62, 112, 45, 32, 112, 45, 62, 113, 45, 32, 42, 113, 45, 62, 112, 43])] [] (Fun1 (stgO twS0 0 1 2) (stgChs twS0 0 1 2)) := l2Build_spec _ _ _ _ (by decide) (by decide) (by decide) (by decide) (by decide +kernel)
theorem twS1_spec : ASpec Tryz.prog 145 [aS (bstr [97]), aS (bstr [98]), aS (bstr []), aS (bstr [97, 43, 62, 98, 43, 32, 98, 43, 62, 97, 45, 32, 97, 45, 62, 98, 45, 32, 42, 98, 45, 62, 97, 43])] [] (Fun1 (stgO twS1 0 1 2) (stgChs twS1 0 1 2)) := l2Build_spec _ _ _ _ (by decide) (by decide) (by decide) (by decide) (by decide +kernel)
set_option maxHeartbeats 4000000 in
theorem l2Plain_spec (c : Cur) (hp : c.pos ≤ 100000000) : ASpec Tryz.prog 241 [.ptr 0 0] [(0, curC c)] (Fun1 (stgO (plS (c.pick 7).1) 1 2 3) ((0, curC (c.pick 7).2) :: stgChs (plS (c.pick 7).1) 1 2 3)) := by
 have hK := pick_spec c 7 (by decide) (by omega)
 obtain ⟨p, hpp⟩ : ∃ p, p = c.pick 7 := ⟨_, rfl⟩
 rw [← hpp] at hK ⊢
 have hS : plS p.1 = if p.1 = 0 then plS0 else if p.1 = 1 then plS1 else if p.1 = 2 then plS2 else if p.1 = 3 then plS3 else if p.1 = 4 then plS4 else if p.1 = 5 then plS5 else plS6 := rfl
 obtain ⟨s, hs⟩ : ∃ s, s = plS p.1 := ⟨_, rfl⟩
 rw [← hs] at hS ⊢
 refine ASpec.of Tryz.func241 rfl rfl fun C hC => ?_
 refine AC.seq (AC.region ?_)
 refine AL.q (by exact h_alloc rfl) rfl ?_
 refine AL.nil (th_n (AC.seq (AC.seq (AC.region ?_))))
 refine AL.p (by exact mv3 rfl) rfl ?_
 refine AL.q (by exact h_fun (cs := [0]) en_pick rfl rfl (by repeat (first | exact rfl | exact DLead.same | refine ⟨_, _, rfl, ?_, ?_⟩ | refine ⟨_, rfl, ?_⟩)) (by repeat (first | exact True.intro | refine And.intro ?_ ?_ | exact DLead.same | exact rfl | refine ⟨_, _, rfl, rfl, ?_⟩ | refine ⟨_, rfl, ?_⟩ | refine ⟨_, _, rfl, ?_, ?_⟩)) hK rfl rfl rfl rfl) rfl ?_
 refine AL.nil (th_n (AC.block (AC.seq (AC.region ?_))))
 refine AL.p (by exact g_cmp rfl rfl rfl) rfl ?_
 refine AL.p (by exact as1 rfl) rfl ?_
 refine AL.nil (th_n ?_)
 refine AC.condD rfl (fun h0 => ?_) (fun h0 => ?_)
 ·refine AC.seq (AC.region ?_)
  refine AL.q (by exact h_fun (cs := []) en_l2Build rfl rfl (by repeat (first | exact rfl | exact DLead.same | refine ⟨_, _, rfl, ?_, ?_⟩)) (by repeat (exact True.intro)) plS0_spec rfl rfl rfl rfl) rfl ?_
  refine AL.q (by exact h_store rfl rfl rfl rfl rfl rfl) rfl ?_
  refine AL.nil (th_n (AC.ret (ib_r (th_r (bq_r ?_)))))
  have e : s = plS0 := by rw [hS, if_pos h0]
  exact retN [(1, _), (2, _), (3, _)] rfl (by rw [e]; repeat (first | exact rfl | exact DLead.same | refine ⟨_, _, rfl, ?_, ?_⟩ | refine ⟨_, rfl, ?_⟩)) (by rw [e]; repeat (first | exact True.intro | refine And.intro ?_ ?_ | exact DLead.same | exact rfl | refine ⟨_, _, rfl, rfl, ?_⟩ | refine ⟨_, rfl, ?_⟩ | refine ⟨_, _, rfl, ?_, ?_⟩)) rfl rfl
 ·refine AC.seq (AC.region ?_)
  refine AL.p (by exact g_cmp rfl rfl rfl) rfl ?_
  refine AL.p (by exact as1 rfl) rfl ?_
  refine AL.nil (th_n ?_)
  refine AC.condD rfl (fun h1 => ?_) (fun h1 => ?_)
  ·refine AC.seq (AC.region ?_)
   refine AL.q (by exact h_fun (cs := []) en_l2Build rfl rfl (by repeat (first | exact rfl | exact DLead.same | refine ⟨_, _, rfl, ?_, ?_⟩)) (by repeat (exact True.intro)) plS1_spec rfl rfl rfl rfl) rfl ?_
   refine AL.q (by exact h_store rfl rfl rfl rfl rfl rfl) rfl ?_
   refine AL.nil (th_n (AC.ret (ib_r (th_r (bq_r ?_)))))
   have e : s = plS1 := by rw [hS, if_neg h0, if_pos h1]
   exact retN [(1, _), (2, _), (3, _)] rfl (by rw [e]; repeat (first | exact rfl | exact DLead.same | refine ⟨_, _, rfl, ?_, ?_⟩ | refine ⟨_, rfl, ?_⟩)) (by rw [e]; repeat (first | exact True.intro | refine And.intro ?_ ?_ | exact DLead.same | exact rfl | refine ⟨_, _, rfl, rfl, ?_⟩ | refine ⟨_, rfl, ?_⟩ | refine ⟨_, _, rfl, ?_, ?_⟩)) rfl rfl
  ·refine AC.seq (AC.region ?_)
   refine AL.p (by exact g_cmp rfl rfl rfl) rfl ?_
   refine AL.p (by exact as1 rfl) rfl ?_
   refine AL.nil (th_n ?_)
   refine AC.condD rfl (fun h2 => ?_) (fun h2 => ?_)
   ·refine AC.seq (AC.region ?_)
    refine AL.q (by exact h_fun (cs := []) en_l2Build rfl rfl (by repeat (first | exact rfl | exact DLead.same | refine ⟨_, _, rfl, ?_, ?_⟩)) (by repeat (exact True.intro)) plS2_spec rfl rfl rfl rfl) rfl ?_
    refine AL.q (by exact h_store rfl rfl rfl rfl rfl rfl) rfl ?_
    refine AL.nil (th_n (AC.ret (ib_r (th_r (bq_r ?_)))))
    have e : s = plS2 := by rw [hS, if_neg h0, if_neg h1, if_pos h2]
    exact retN [(1, _), (2, _), (3, _)] rfl (by rw [e]; repeat (first | exact rfl | exact DLead.same | refine ⟨_, _, rfl, ?_, ?_⟩ | refine ⟨_, rfl, ?_⟩)) (by rw [e]; repeat (first | exact True.intro | refine And.intro ?_ ?_ | exact DLead.same | exact rfl | refine ⟨_, _, rfl, rfl, ?_⟩ | refine ⟨_, rfl, ?_⟩ | refine ⟨_, _, rfl, ?_, ?_⟩)) rfl rfl
   ·refine AC.seq (AC.region ?_)
    refine AL.p (by exact g_cmp rfl rfl rfl) rfl ?_
    refine AL.p (by exact as1 rfl) rfl ?_
    refine AL.nil (th_n ?_)
    refine AC.condD rfl (fun h3 => ?_) (fun h3 => ?_)
    ·refine AC.seq (AC.region ?_)
     refine AL.q (by exact h_fun (cs := []) en_l2Build rfl rfl (by repeat (first | exact rfl | exact DLead.same | refine ⟨_, _, rfl, ?_, ?_⟩)) (by repeat (exact True.intro)) plS3_spec rfl rfl rfl rfl) rfl ?_
     refine AL.q (by exact h_store rfl rfl rfl rfl rfl rfl) rfl ?_
     refine AL.nil (th_n (AC.ret (ib_r (th_r (bq_r ?_)))))
     have e : s = plS3 := by rw [hS, if_neg h0, if_neg h1, if_neg h2, if_pos h3]
     exact retN [(1, _), (2, _), (3, _)] rfl (by rw [e]; repeat (first | exact rfl | exact DLead.same | refine ⟨_, _, rfl, ?_, ?_⟩ | refine ⟨_, rfl, ?_⟩)) (by rw [e]; repeat (first | exact True.intro | refine And.intro ?_ ?_ | exact DLead.same | exact rfl | refine ⟨_, _, rfl, rfl, ?_⟩ | refine ⟨_, rfl, ?_⟩ | refine ⟨_, _, rfl, ?_, ?_⟩)) rfl rfl
    ·refine AC.seq (AC.region ?_)
     refine AL.p (by exact g_cmp rfl rfl rfl) rfl ?_
     refine AL.p (by exact as1 rfl) rfl ?_
     refine AL.nil (th_n ?_)
     refine AC.condD rfl (fun h4 => ?_) (fun h4 => ?_)
     ·refine AC.seq (AC.region ?_)
      refine AL.q (by exact h_fun (cs := []) en_l2Build rfl rfl (by repeat (first | exact rfl | exact DLead.same | refine ⟨_, _, rfl, ?_, ?_⟩)) (by repeat (exact True.intro)) plS4_spec rfl rfl rfl rfl) rfl ?_
      refine AL.q (by exact h_store rfl rfl rfl rfl rfl rfl) rfl ?_
      refine AL.nil (th_n (AC.ret (ib_r (th_r (bq_r ?_)))))
      have e : s = plS4 := by rw [hS, if_neg h0, if_neg h1, if_neg h2, if_neg h3, if_pos h4]
      exact retN [(1, _), (2, _), (3, _)] rfl (by rw [e]; repeat (first | exact rfl | exact DLead.same | refine ⟨_, _, rfl, ?_, ?_⟩ | refine ⟨_, rfl, ?_⟩)) (by rw [e]; repeat (first | exact True.intro | refine And.intro ?_ ?_ | exact DLead.same | exact rfl | refine ⟨_, _, rfl, rfl, ?_⟩ | refine ⟨_, rfl, ?_⟩ | refine ⟨_, _, rfl, ?_, ?_⟩)) rfl rfl
     ·refine AC.seq (AC.region ?_)
      refine AL.p (by exact g_cmp rfl rfl rfl) rfl ?_
      refine AL.p (by exact as1 rfl) rfl ?_
      refine AL.nil (th_n ?_)
      refine AC.condD rfl (fun h5 => ?_) (fun h5 => ?_)
      ·refine AC.seq (AC.region ?_)
       refine AL.q (by exact h_fun (cs := []) en_l2Build rfl rfl (by repeat (first | exact rfl | exact DLead.same | refine ⟨_, _, rfl, ?_, ?_⟩)) (by repeat (exact True.intro)) plS5_spec rfl rfl rfl rfl) rfl ?_
       refine AL.q (by exact h_store rfl rfl rfl rfl rfl rfl) rfl ?_
       refine AL.nil (th_n (AC.ret (ib_r (th_r (bq_r ?_)))))
       have e : s = plS5 := by rw [hS, if_neg h0, if_neg h1, if_neg h2, if_neg h3, if_neg h4, if_pos h5]
       exact retN [(1, _), (2, _), (3, _)] rfl (by rw [e]; repeat (first | exact rfl | exact DLead.same | refine ⟨_, _, rfl, ?_, ?_⟩ | refine ⟨_, rfl, ?_⟩)) (by rw [e]; repeat (first | exact True.intro | refine And.intro ?_ ?_ | exact DLead.same | exact rfl | refine ⟨_, _, rfl, rfl, ?_⟩ | refine ⟨_, rfl, ?_⟩ | refine ⟨_, _, rfl, ?_, ?_⟩)) rfl rfl
      ·refine AC.skip (ib_n (th_n (AC.seq (AC.region ?_))))
       refine AL.q (by exact h_fun (cs := []) en_l2Build rfl rfl (by repeat (first | exact rfl | exact DLead.same | refine ⟨_, _, rfl, ?_, ?_⟩)) (by repeat (exact True.intro)) plS6_spec rfl rfl rfl rfl) rfl ?_
       refine AL.q (by exact h_store rfl rfl rfl rfl rfl rfl) rfl ?_
       refine AL.nil (th_n (AC.ret (bq_r ?_)))
       have e : s = plS6 := by rw [hS, if_neg h0, if_neg h1, if_neg h2, if_neg h3, if_neg h4, if_neg h5]
       exact retN [(1, _), (2, _), (3, _)] rfl (by rw [e]; repeat (first | exact rfl | exact DLead.same | refine ⟨_, _, rfl, ?_, ?_⟩ | refine ⟨_, rfl, ?_⟩)) (by rw [e]; repeat (first | exact True.intro | refine And.intro ?_ ?_ | exact DLead.same | exact rfl | refine ⟨_, _, rfl, rfl, ?_⟩ | refine ⟨_, rfl, ?_⟩ | refine ⟨_, _, rfl, ?_, ?_⟩)) rfl rfl
theorem en_l2Plain : Enters Tryz.prog 241 := enters_of Tryz.func241 rfl rfl
theorem twS_L : NetL (unionR twS0.net twS1.net).1 := ((okS_S twS_net).1.B.n).L
set_option maxHeartbeats 4000000 in
theorem stg_spec (c : Cur) (hp : c.pos ≤ 10000000) : ASpec Tryz.prog 191 [.ptr 0 0] [(0, curC c)] (Fun1 (stgQ (stgI c).1 1 2) [(0, curC (stgI c).2), (1, .arr 149 2 (sigsL (stgI c).1.sigs)), (2, .arr 156 2 (labsL (stgI c).1.labs))]) := by
 have hK := pick_spec c 9 (by decide) (by omega)
 have hpos := c.pick_pos 9
 have hS : stgI c = if (c.pick 9).1 = 0 then (grS0, (c.pick 9).2) else if (c.pick 9).1 = 1 then (grS1, (c.pick 9).2) else if (c.pick 9).1 = 2 then (grS2, (c.pick 9).2) else if (c.pick 9).1 = 3 then (grS3, (c.pick 9).2) else if (c.pick 9).1 = 4 then (grS4, (c.pick 9).2) else (plS ((c.pick 9).2.pick 7).1, ((c.pick 9).2.pick 7).2) := rfl
 obtain ⟨p, hpp⟩ : ∃ p, p = c.pick 9 := ⟨_, rfl⟩
 rw [← hpp] at hK hS hpos
 have hP := l2Plain_spec p.2 (by omega)
 obtain ⟨pp, hpq⟩ : ∃ pp, pp = plS (p.2.pick 7).1 := ⟨_, rfl⟩
 rw [← hpq] at hP hS
 obtain ⟨s, hs⟩ : ∃ s, s = stgI c := ⟨_, rfl⟩
 rw [← hs] at hS ⊢
 have hU := sUnionSTGs_own twS0 twS1 (okS_S twS0_ok).1.B (okS_S twS1_ok).1.B twS_L twS_ok
 rw [show unionT twS0 twS1 = grS3 from rfl] at hU
 refine ASpec.of Tryz.func191 rfl rfl fun C hC => ?_
 refine AC.seq (AC.region ?_)
 refine AL.q (by exact h_alloc rfl) rfl ?_
 refine AL.nil (th_n (AC.seq (AC.seq (AC.region ?_))))
 refine AL.p (by exact mv3 rfl) rfl ?_
 refine AL.q (by exact h_fun (cs := [0]) en_pick rfl rfl (by repeat (first | exact rfl | exact DLead.same | refine ⟨_, _, rfl, ?_, ?_⟩ | refine ⟨_, rfl, ?_⟩)) (by repeat (first | exact True.intro | refine And.intro ?_ ?_ | exact DLead.same | exact rfl | refine ⟨_, _, rfl, rfl, ?_⟩ | refine ⟨_, rfl, ?_⟩ | refine ⟨_, _, rfl, ?_, ?_⟩)) hK rfl rfl rfl rfl) rfl ?_
 refine AL.nil (th_n (AC.block (AC.seq (AC.region ?_))))
 refine AL.p (by exact g_cmp rfl rfl rfl) rfl ?_
 refine AL.p (by exact as1 rfl) rfl ?_
 refine AL.nil (th_n ?_)
 refine AC.condD rfl (fun h0 => ?_) (fun h0 => ?_)
 ·refine AC.seq (AC.region ?_)
  refine AL.q (by exact h_fun (cs := []) en_l2Build rfl rfl (by repeat (first | exact rfl | exact DLead.same | refine ⟨_, _, rfl, ?_, ?_⟩)) (by repeat (exact True.intro)) grS0_spec rfl rfl rfl rfl) rfl ?_
  refine AL.weak (Weak.freezeA (i := 9) (k := 1) rfl rfl rfl (ownl _ _) (ownt _ _)) ?_
  refine AL.q (by exact h_store rfl rfl rfl rfl rfl rfl) rfl ?_
  refine AL.nil (th_n (AC.ret (ib_r (th_r (bq_r ?_)))))
  have e : s = (grS0, p.2) := by rw [hS, if_pos h0]
  exact retN [(1, _), (2, _)] rfl (by rw [e]; repeat (first | exact rfl | exact DLead.same | refine ⟨_, _, rfl, ?_, ?_⟩ | refine ⟨_, rfl, ?_⟩)) (by rw [e]; repeat (first | exact True.intro | refine And.intro ?_ ?_ | exact DLead.same | exact rfl | refine ⟨_, _, rfl, rfl, ?_⟩ | refine ⟨_, rfl, ?_⟩ | refine ⟨_, _, rfl, ?_, ?_⟩)) rfl rfl
 ·refine AC.seq (AC.region ?_)
  refine AL.p (by exact g_cmp rfl rfl rfl) rfl ?_
  refine AL.p (by exact as1 rfl) rfl ?_
  refine AL.nil (th_n ?_)
  refine AC.condD rfl (fun h1 => ?_) (fun h1 => ?_)
  ·refine AC.seq (AC.region ?_)
   refine AL.q (by exact h_fun (cs := []) en_l2Build rfl rfl (by repeat (first | exact rfl | exact DLead.same | refine ⟨_, _, rfl, ?_, ?_⟩)) (by repeat (exact True.intro)) grS1_spec rfl rfl rfl rfl) rfl ?_
   refine AL.weak (Weak.freezeA (i := 12) (k := 1) rfl rfl rfl (ownl _ _) (ownt _ _)) ?_
   refine AL.q (by exact h_store rfl rfl rfl rfl rfl rfl) rfl ?_
   refine AL.nil (th_n (AC.ret (ib_r (th_r (bq_r ?_)))))
   have e : s = (grS1, p.2) := by rw [hS, if_neg h0, if_pos h1]
   exact retN [(1, _), (2, _)] rfl (by rw [e]; repeat (first | exact rfl | exact DLead.same | refine ⟨_, _, rfl, ?_, ?_⟩ | refine ⟨_, rfl, ?_⟩)) (by rw [e]; repeat (first | exact True.intro | refine And.intro ?_ ?_ | exact DLead.same | exact rfl | refine ⟨_, _, rfl, rfl, ?_⟩ | refine ⟨_, rfl, ?_⟩ | refine ⟨_, _, rfl, ?_, ?_⟩)) rfl rfl
  ·refine AC.seq (AC.region ?_)
   refine AL.p (by exact g_cmp rfl rfl rfl) rfl ?_
   refine AL.p (by exact as1 rfl) rfl ?_
   refine AL.nil (th_n ?_)
   refine AC.condD rfl (fun h2 => ?_) (fun h2 => ?_)
   ·refine AC.seq (AC.region ?_)
    refine AL.q (by exact h_fun (cs := []) en_l2Build rfl rfl (by repeat (first | exact rfl | exact DLead.same | refine ⟨_, _, rfl, ?_, ?_⟩)) (by repeat (exact True.intro)) grS2_spec rfl rfl rfl rfl) rfl ?_
    refine AL.weak (Weak.freezeA (i := 15) (k := 1) rfl rfl rfl (ownl _ _) (ownt _ _)) ?_
    refine AL.q (by exact h_store rfl rfl rfl rfl rfl rfl) rfl ?_
    refine AL.nil (th_n (AC.ret (ib_r (th_r (bq_r ?_)))))
    have e : s = (grS2, p.2) := by rw [hS, if_neg h0, if_neg h1, if_pos h2]
    exact retN [(1, _), (2, _)] rfl (by rw [e]; repeat (first | exact rfl | exact DLead.same | refine ⟨_, _, rfl, ?_, ?_⟩ | refine ⟨_, rfl, ?_⟩)) (by rw [e]; repeat (first | exact True.intro | refine And.intro ?_ ?_ | exact DLead.same | exact rfl | refine ⟨_, _, rfl, rfl, ?_⟩ | refine ⟨_, rfl, ?_⟩ | refine ⟨_, _, rfl, ?_, ?_⟩)) rfl rfl
   ·refine AC.seq (AC.region ?_)
    refine AL.p (by exact g_cmp rfl rfl rfl) rfl ?_
    refine AL.p (by exact as1 rfl) rfl ?_
    refine AL.nil (th_n ?_)
    refine AC.condD rfl (fun h3 => ?_) (fun h3 => ?_)
    ·refine AC.seq (AC.region ?_)
     refine AL.q (by exact h_fun (cs := []) en_l2Build rfl rfl (by repeat (first | exact rfl | exact DLead.same | refine ⟨_, _, rfl, ?_, ?_⟩)) (by repeat (exact True.intro)) twS0_spec rfl rfl rfl rfl) rfl ?_
     refine AL.weak (Weak.freezeA3 19 rfl rfl rfl rfl rfl rfl rfl (ownl _ _) (ownl _ _) (ownl _ _) (ownt _ _) (ownt _ _) (ownt _ _)) ?_
     refine AL.q (by exact h_fun (cs := []) en_l2Build rfl rfl (by repeat (first | exact rfl | exact DLead.same | refine ⟨_, _, rfl, ?_, ?_⟩)) (by repeat (exact True.intro)) twS1_spec rfl rfl rfl rfl) rfl ?_
     refine AL.weak (Weak.freezeA3 20 rfl rfl rfl rfl rfl rfl rfl (ownl _ _) (ownl _ _) (ownl _ _) (ownt _ _) (ownt _ _) (ownt _ _)) ?_
     refine AL.q (by exact h_fun (cs := []) en_sUnionSTGs rfl rfl (by repeat (first | exact rfl | exact DLead.same | refine ⟨_, _, rfl, ?_, ?_⟩ | refine ⟨_, rfl, ?_⟩)) (by repeat (exact True.intro)) hU rfl rfl rfl rfl) rfl ?_
     refine AL.p (by exact mv5 rfl) rfl ?_
     refine AL.p (by exact g_extract (r := .agg _) rfl rfl) rfl ?_
     refine AL.p (by exact g_extract (r := .d _) rfl rfl) rfl ?_
     refine AL.q (by exact h_alloc rfl) rfl ?_
     refine AL.q (by exact h_store rfl rfl rfl rfl rfl rfl) rfl ?_
     refine AL.p (by exact as1 rfl) rfl ?_
     refine AL.nil (th_n (AC.seq (AC.region ?_)))
     refine AL.p (by exact mv1 rfl) rfl ?_
     refine AL.nil (th_n ?_)
     refine AC.condT rfl ?_
     refine AC.seq (AC.region ?_)
     refine AL.p (by exact g_load_ptrN rfl rfl rfl rfl rfl) rfl ?_
     refine AL.q (by exact h_store rfl rfl rfl rfl rfl rfl) rfl ?_
     refine AL.nil (th_n (AC.ret (ib_r (th_r (bq_r ?_)))))
     have e : s = (grS3, p.2) := by rw [hS, if_neg h0, if_neg h1, if_neg h2, if_pos h3]
     exact retN [(1, _), (2, _)] rfl (by rw [e]; repeat (first | exact rfl | exact DLead.same | refine ⟨_, _, rfl, ?_, ?_⟩ | refine ⟨_, rfl, ?_⟩)) (by rw [e]; repeat (first | exact True.intro | refine And.intro ?_ ?_ | exact DLead.same | exact rfl | refine ⟨_, _, rfl, rfl, ?_⟩ | refine ⟨_, rfl, ?_⟩ | refine ⟨_, _, rfl, ?_, ?_⟩)) rfl rfl
    ·refine AC.seq (AC.region ?_)
     refine AL.p (by exact g_cmp rfl rfl rfl) rfl ?_
     refine AL.p (by exact as1 rfl) rfl ?_
     refine AL.nil (th_n ?_)
     refine AC.condD rfl (fun h4 => ?_) (fun h4 => ?_)
     ·refine AC.seq (AC.region ?_)
      refine AL.q (by exact h_fun (cs := []) en_l2Build rfl rfl (by repeat (first | exact rfl | exact DLead.same | refine ⟨_, _, rfl, ?_, ?_⟩)) (by repeat (exact True.intro)) grS4_spec rfl rfl rfl rfl) rfl ?_
      refine AL.weak (Weak.freezeA (i := 28) (k := 1) rfl rfl rfl (ownl _ _) (ownt _ _)) ?_
      refine AL.q (by exact h_store rfl rfl rfl rfl rfl rfl) rfl ?_
      refine AL.nil (th_n (AC.ret (ib_r (th_r (bq_r ?_)))))
      have e : s = (grS4, p.2) := by rw [hS, if_neg h0, if_neg h1, if_neg h2, if_neg h3, if_pos h4]
      exact retN [(1, _), (2, _)] rfl (by rw [e]; repeat (first | exact rfl | exact DLead.same | refine ⟨_, _, rfl, ?_, ?_⟩ | refine ⟨_, rfl, ?_⟩)) (by rw [e]; repeat (first | exact True.intro | refine And.intro ?_ ?_ | exact DLead.same | exact rfl | refine ⟨_, _, rfl, rfl, ?_⟩ | refine ⟨_, rfl, ?_⟩ | refine ⟨_, _, rfl, ?_, ?_⟩)) rfl rfl
     ·refine AC.skip (ib_n (th_n (AC.seq (AC.region ?_))))
      refine AL.p (by exact mv3 rfl) rfl ?_
      refine AL.q (by exact h_fun (cs := [0]) en_l2Plain rfl rfl (by repeat (first | exact rfl | refine ⟨_, _, rfl, ?_, ?_⟩ | refine ⟨_, rfl, ?_⟩)) (by repeat (first | exact True.intro | refine And.intro ?_ ?_ | exact DLead.same | exact rfl | refine ⟨_, _, rfl, rfl, ?_⟩ | refine ⟨_, rfl, ?_⟩ | refine ⟨_, _, rfl, ?_, ?_⟩)) hP rfl rfl rfl rfl) rfl ?_
      refine AL.weak (Weak.freezeA (i := 30) (k := 1) rfl rfl rfl (ownl _ _) (ownt _ _)) ?_
      refine AL.q (by exact h_store rfl rfl rfl rfl rfl rfl) rfl ?_
      refine AL.nil (th_n (AC.ret (bq_r ?_)))
      have e : s = (pp, (p.2.pick 7).2) := by rw [hS, if_neg h0, if_neg h1, if_neg h2, if_neg h3, if_neg h4]
      exact retN [(1, _), (2, _)] rfl (by rw [e]; repeat (first | exact rfl | exact DLead.same | refine ⟨_, _, rfl, ?_, ?_⟩ | refine ⟨_, rfl, ?_⟩)) (by rw [e]; repeat (first | exact True.intro | refine And.intro ?_ ?_ | exact DLead.same | exact rfl | refine ⟨_, _, rfl, rfl, ?_⟩ | refine ⟨_, rfl, ?_⟩ | refine ⟨_, _, rfl, ?_, ?_⟩)) rfl rfl
theorem en_stg : Enters Tryz.prog 191 := enters_of Tryz.func191 rfl rfl
def sig0 (s : Stg) : Sig := s.sigs.getD 0 ⟨[], 0⟩
def lab0 (s : Stg) : Lab := s.labs.getD 0 ⟨0, false⟩
def badSig (i : Int) : Int := if i = 0 then -1 else if i = 1 then -2 else 8
def badName (i : Int) : List UInt8 := if i = 0 then [] else if i = 1 then [65] else if i = 2 then [97, 98, 99, 100, 101, 102, 103] else [49, 97]
def badKind (i : Int) : Int := if i = 0 then 0 else if i = 1 then 4 else 3
def turnS (g : Stg) (p : Int × Cur) : Stg × Cur :=
 if p.1 = 0 then ({ g with start := (p.2.spoilt g.start [48, 49, 50]).1 }, (p.2.spoilt g.start [48, 49, 50]).2)
 else if p.1 = 1 then ({ g with labs := g.labs.set 0 ⟨badSig (p.2.pick 3).1, (lab0 g).up⟩ }, (p.2.pick 3).2)
 else if p.1 = 2 then ({ g with sigs := g.sigs.set 0 ⟨badName (p.2.pick 4).1, (sig0 g).kind⟩ }, (p.2.pick 4).2)
 else if p.1 = 3 then ({ g with sigs := g.sigs.set 0 ⟨(sig0 g).name, badKind (p.2.pick 3).1⟩ }, (p.2.pick 3).2)
 else if p.1 = 4 then ({ g with labs := g.labs.drop 1 }, p.2)
 else (g, p.2)
def anyI (c : Cur) : Stg × Cur := turnS (stgI c).1 ((stgI c).2.pick 30)
theorem bad3 (c : Cur) (f : Int → Int) (a b d : Int) (hf : ∀ i, f i = if i = 0 then a else if i = 1 then b else d) : ([[dI a], [dI b], [dI d]] : List (List DV))[(c.pick 3).1.toNat]? = some [dI (f (c.pick 3).1)] := by
 have hc := c.pick_in 3 (by decide)
 rw [hf]
 have h : (c.pick 3).1 = 0 ∨ (c.pick 3).1 = 1 ∨ (c.pick 3).1 = 2 := by omega
 rcases h with h | h | h <;> rw [h] <;> rfl
theorem badN (c : Cur) : ([[dS (bstr [])], [dS (bstr [65])], [dS (bstr [97, 98, 99, 100, 101, 102, 103])], [dS (bstr [49, 97])]] : List (List DV))[(c.pick 4).1.toNat]? = some [dS (bstr (badName (c.pick 4).1))] := by
 have hc := c.pick_in 4 (by decide)
 unfold badName
 have h : (c.pick 4).1 = 0 ∨ (c.pick 4).1 = 1 ∨ (c.pick 4).1 = 2 ∨ (c.pick 4).1 = 3 := by omega
 rcases h with h | h | h | h <;> rw [h] <;> rfl
theorem mem_set0 {α : Type} {l : List α} {x y : α} (h : y ∈ l.set 0 x) : y ∈ l ∨ y = x := List.mem_or_eq_of_mem_set h
theorem turnS_in (g : Stg) (hg : okS g = true) (p : Int × Cur) : StgS (turnS g p).1 ∧ (turnS g p).2.pos ≤ p.2.pos + 20 ∧ (turnS g p).2.code = p.2.code := by
 obtain ⟨h, h1, h2⟩ := okS_S hg
 have s1 := p.2.spoilt_in g.start [48, 49, 50]
 have p3 := p.2.pick_pos 3
 have p4 := p.2.pick_pos 4
 have k3 := p.2.pick_code 3
 have k4 := p.2.pick_code 4
 have hbs : ∀ i, -10 ≤ badSig i ∧ badSig i ≤ 10 := fun i => by unfold badSig; split; omega; split <;> omega
 have hbn : ∀ i, (badName i).length ≤ 10 := fun i => by unfold badName; split; decide; split; decide; split <;> decide
 have hs0 : (sig0 g).name.length ≤ 10 := by
  unfold sig0
  rw [List.getD_eq_getElem?_getD, List.getElem?_eq_getElem (show 0 < g.sigs.length from h.s0)]
  exact h.sn _ (List.getElem_mem _)
 unfold turnS
 split
 ·exact ⟨⟨h.p, h.tl, h.t, h.s0, h.sl, h.sn, h.ll, h.lb, by dsimp only; omega⟩, by dsimp only; omega, s1.2.2⟩
 split
 ·exact ⟨⟨h.p, h.tl, h.t, h.s0, h.sl, h.sn, by rw [List.length_set]; exact h.ll, (fun x hx => by
   rcases mem_set0 hx with hx | rfl
   ·exact h.lb x hx
   ·exact hbs _), h.st⟩, by dsimp only; omega, k3⟩
 split
 ·exact ⟨⟨h.p, h.tl, h.t, by rw [List.length_set]; exact h.s0, by rw [List.length_set]; exact h.sl, (fun x hx => by
   rcases mem_set0 hx with hx | rfl
   ·exact h.sn x hx
   ·exact hbn _), h.ll, h.lb, h.st⟩, by dsimp only; omega, k4⟩
 split
 ·exact ⟨⟨h.p, h.tl, h.t, by rw [List.length_set]; exact h.s0, by rw [List.length_set]; exact h.sl, (fun x hx => by
   rcases mem_set0 hx with hx | rfl
   ·exact h.sn x hx
   ·exact hs0), h.ll, h.lb, h.st⟩, by dsimp only; omega, k3⟩
 split
 ·exact ⟨⟨h.p, h.tl, h.t, h.s0, h.sl, h.sn, by rw [List.length_drop]; have := h.ll; omega, fun x hx => h.lb x (List.mem_of_mem_drop hx), h.st⟩, by dsimp only; omega, rfl⟩
 ·exact ⟨h, by dsimp only; omega, rfl⟩
theorem anyI_in (c : Cur) : StgS (anyI c).1 ∧ (anyI c).2.pos ≤ c.pos + 30 ∧ (anyI c).2.code = c.code := by
 have h := stgI_in c
 have h1 := (stgI c).2.pick_pos 30
 have h2 := (stgI c).2.pick_code 30
 have h3 := turnS_in (stgI c).1 h.1 ((stgI c).2.pick 30)
 exact ⟨h3.1, by have := h3.2.1; show (turnS _ _).2.pos ≤ _; omega, h3.2.2.trans (h2.trans h.2.2)⟩
abbrev stgR (s : Stg) (j : Nat) : AV := .agg [aI s.net.places, .d (vTs s.net.ts), .own j s.sigs.length, .d (vLabs s.labs), aS (bstr s.start)]
set_option maxHeartbeats 8000000 in
theorem anyStg_spec (c : Cur) (hp : c.pos ≤ 1000000) : ASpec Tryz.prog 126 [.ptr 0 0] [(0, curC c)] (Fun1 (stgR (anyI c).1 1) [(0, curC (anyI c).2), (1, .arr 149 2 (sigsL (anyI c).1.sigs))]) := by
 have hG := stg_spec c (by omega)
 have hgi := stgI_in c
 have hA : anyI c = turnS (stgI c).1 ((stgI c).2.pick 30) := rfl
 obtain ⟨g, hg⟩ : ∃ g, g = stgI c := ⟨_, rfl⟩
 rw [← hg] at hG hgi hA
 have hpk := g.2.pick_pos 30
 have hK := pick_spec g.2 30 (by decide) (by omega)
 obtain ⟨p, hpp⟩ : ∃ p, p = g.2.pick 30 := ⟨_, rfl⟩
 rw [← hpp] at hK hA hpk
 obtain ⟨hs, hl0, hst⟩ := okS_S hgi.1
 have hs0 := hs.s0
 have hsl := hs.sl
 have hll := hs.ll
 have hsp := spoilt_spec p.2 g.1.start [48, 49, 50] (by omega) (by decide) (by decide) (by omega)
 have ha1 := am_spec p.2 [[dI (-1)], [dI (-2)], [dI 8]] (badSig (p.2.pick 3).1) (by decide) (by decide) (by omega) (bad3 p.2 badSig _ _ _ (fun _ => rfl))
 have ha2 := of_spec p.2 [[dS (bstr [])], [dS (bstr [65])], [dS (bstr [97, 98, 99, 100, 101, 102, 103])], [dS (bstr [49, 97])]] (bstr (badName (p.2.pick 4).1)) (by decide) (by decide) (by omega) (badN p.2)
 have ha3 := am_spec p.2 [[dI 0], [dI 4], [dI 3]] (badKind (p.2.pick 3).1) (by decide) (by decide) (by omega) (bad3 p.2 badKind _ _ _ (fun _ => rfl))
 have hT : turnS g.1 p = if p.1 = 0 then ({ g.1 with start := (p.2.spoilt g.1.start [48, 49, 50]).1 }, (p.2.spoilt g.1.start [48, 49, 50]).2)
  else if p.1 = 1 then ({ g.1 with labs := g.1.labs.set 0 ⟨badSig (p.2.pick 3).1, (lab0 g.1).up⟩ }, (p.2.pick 3).2)
  else if p.1 = 2 then ({ g.1 with sigs := g.1.sigs.set 0 ⟨badName (p.2.pick 4).1, (sig0 g.1).kind⟩ }, (p.2.pick 4).2)
  else if p.1 = 3 then ({ g.1 with sigs := g.1.sigs.set 0 ⟨(sig0 g.1).name, badKind (p.2.pick 3).1⟩ }, (p.2.pick 3).2)
  else if p.1 = 4 then ({ g.1 with labs := g.1.labs.drop 1 }, p.2)
  else (g.1, p.2) := rfl
 rw [← hA] at hT
 obtain ⟨A, hAA⟩ : ∃ A, A = anyI c := ⟨_, rfl⟩
 rw [← hAA] at hT ⊢
 obtain ⟨G, cg⟩ := g
 obtain ⟨pi, pc⟩ := p
 dsimp only at *
 obtain ⟨N, sg, lb, st⟩ := G
 dsimp only at *
 obtain ⟨x0, sg', rfl⟩ : ∃ x r, sg = x :: r := by cases sg with | nil => simp at hs0 | cons a b => exact ⟨a, b, rfl⟩
 obtain ⟨y0, lb', rfl⟩ : ∃ x r, lb = x :: r := by cases lb with | nil => simp at hl0 | cons a b => exact ⟨a, b, rfl⟩
 have hls : (x0 :: sg').length = sg'.length + 1 := rfl
 have hlb : (y0 :: lb').length = lb'.length + 1 := rfl
 clear hAA hA hs hgi hg hpp hs0 hl0
 refine ASpec.of Tryz.func126 rfl rfl fun C hC => ?_
 refine AC.seq (AC.region ?_)
 refine AL.q (by exact h_alloc rfl) rfl ?_
 refine AL.nil (th_n (AC.seq (AC.region ?_)))
 refine AL.p (by exact mv3 rfl) rfl ?_
 refine AL.q (by exact h_fun (cs := [0]) en_stg rfl rfl (by repeat (first | exact rfl | refine ⟨_, _, rfl, ?_, ?_⟩ | refine ⟨_, rfl, ?_⟩)) (by repeat (first | exact True.intro | refine And.intro ?_ ?_ | exact DLead.same | exact rfl | refine ⟨_, _, rfl, rfl, ?_⟩ | refine ⟨_, rfl, ?_⟩ | refine ⟨_, _, rfl, ?_, ?_⟩)) hG rfl rfl rfl rfl) rfl ?_
 refine AL.q (by exact h_alloc rfl) rfl ?_
 refine AL.q (by exact h_store rfl rfl rfl rfl rfl rfl) rfl ?_
 refine AL.nil (th_n ?_)
 refine AC.cut (fun (x : Stg × Cur) => ⟨49, 300, [(2, .ptr 201 0), (3, .ptr 200 0)], [(0, some (curC x.2)), (200, some (.cells 30 [aI x.1.net.places, .d (vTs x.1.net.ts), .own 101 x.1.sigs.length, .d (vLabs x.1.labs), aS (bstr x.1.start)])), (101, some (.arr 149 2 (sigsL x.1.sigs))), (201, some (.cells 30 zStg))]⟩) (fun x => x = A) ?_ ?_
 ·refine AC.seq (AC.region ?_)
  refine AL.p (by exact mv3 rfl) rfl ?_
  refine AL.q (by exact h_fun (cs := [0]) en_pick rfl rfl (by repeat (first | exact rfl | exact DLead.same | refine ⟨_, _, rfl, ?_, ?_⟩ | refine ⟨_, rfl, ?_⟩)) (by repeat (first | exact True.intro | refine And.intro ?_ ?_ | exact DLead.same | exact rfl | refine ⟨_, _, rfl, rfl, ?_⟩ | refine ⟨_, rfl, ?_⟩ | refine ⟨_, _, rfl, ?_, ?_⟩)) hK rfl rfl rfl rfl) rfl ?_
  refine AL.nil (th_n (AC.block (AC.seq (AC.region ?_))))
  refine AL.p (by exact g_cmp rfl rfl rfl) rfl ?_
  refine AL.p (by exact as1 rfl) rfl ?_
  refine AL.nil (th_n ?_)
  refine AC.condD rfl (fun h0 => ?_) (fun h0 => ?_)
  ·refine AC.region ?_
   refine AL.p (by exact mv3 rfl) rfl ?_
   refine AL.p (by exact g_fa_ptr rfl rfl rfl rfl rfl) rfl ?_
   refine AL.p (by exact g_load_ptr rfl rfl rfl rfl rfl) rfl ?_
   refine AL.q (by exact h_fun (cs := [0]) en_spoilt rfl rfl (by repeat (first | exact rfl | exact DLead.same | refine ⟨_, _, rfl, ?_, ?_⟩ | refine ⟨_, rfl, ?_⟩)) (by repeat (first | exact True.intro | refine And.intro ?_ ?_ | exact DLead.same | exact rfl | refine ⟨_, _, rfl, rfl, ?_⟩ | refine ⟨_, rfl, ?_⟩ | refine ⟨_, _, rfl, ?_, ?_⟩)) hsp rfl rfl rfl rfl) rfl ?_
   refine AL.p (by exact g_fa_ptr rfl rfl rfl rfl rfl) rfl ?_
   refine AL.q (by exact h_store rfl rfl rfl rfl rfl rfl) rfl ?_
   refine AL.nil (ib_n (th_n ?_))
   (have e := hT.trans (if_pos h0); exact ⟨A, rfl, (Weak.freezeP 3 3 rfl rfl rfl rfl (ownl _ _) (ownt _ _) rfl).trans (Weak.ren _ [(200, _), (101, _), (201, _)] hC rfl (by repeat (first | exact True.intro | refine And.intro ?_ ?_ | exact rfl | refine ⟨_, rfl, ?_⟩)) (by rw [e]; repeat (first | exact True.intro | refine And.intro ?_ ?_ | exact DLead.same | exact rfl | refine ⟨_, _, rfl, rfl, ?_⟩ | refine ⟨_, rfl, ?_⟩ | refine ⟨_, _, rfl, ?_, ?_⟩)) rfl rfl rfl)⟩)
  ·refine AC.seq (AC.region ?_)
   refine AL.p (by exact g_cmp rfl rfl rfl) rfl ?_
   refine AL.p (by exact as1 rfl) rfl ?_
   refine AL.nil (th_n ?_)
   refine AC.condD rfl (fun h1 => ?_) (fun h1 => ?_)
   ·refine AC.drawn' mixed_ok [[], [0], [], [], [2,3], [0,1,2,3,4], [0,1,2,3,4,5], [0,1,2,3,4,5,6]] (by decide) ?_
    refine DF.op 0 [] 8 rfl rfl rfl (.free rfl (NOp.of (by exact g_fa_ptr rfl rfl rfl rfl rfl))) rfl ?_
    refine DF.op 1 [0] 8 rfl rfl rfl (.free rfl (NOp.of (by exact g_load_ptr rfl rfl rfl rfl rfl))) rfl ?_
    refine DF.op 2 [] 8 rfl rfl rfl (.free rfl (NOp.of (by exact mv3 rfl))) rfl ?_
    refine DF.op 3 [] 8 rfl rfl rfl (.free rfl (by exact h_litF rfl rfl rfl rfl rfl rfl rfl rfl)) rfl ?_
    refine DF.op 4 [2,3] 8 rfl rfl rfl (.free rfl (by exact h_fun (cs := [0]) en_among rfl rfl (by repeat (first | exact rfl | exact DLead.same | refine ⟨_, _, rfl, ?_, ?_⟩ | refine ⟨_, rfl, ?_⟩)) (by repeat (first | exact True.intro | refine And.intro ?_ ?_ | exact DLead.same | exact rfl | refine ⟨_, _, rfl, rfl, ?_⟩ | refine ⟨_, rfl, ?_⟩ | refine ⟨_, _, rfl, ?_, ?_⟩)) ha1 rfl rfl rfl rfl)) rfl ?_
    refine DF.op 5 [0,1,2,3,4] 8 rfl rfl rfl (.free rfl (NOp.of (by exact g_ia_own (i := 0) (l := (y0 :: lb').length) rfl rfl rfl rfl rfl rfl (by omega) rfl))) rfl ?_
    refine DF.op 6 [0,1,2,3,4,5] 8 rfl rfl rfl (.free rfl (NOp.of (by exact g_fa_ptr rfl rfl rfl rfl rfl))) rfl ?_
    refine DF.op 7 [0,1,2,3,4,5,6] 8 rfl rfl rfl (.free rfl (by exact h_store_arr (i := 0) (j := 0) (cs := labD y0) (d := dI (badSig (pc.pick 3).1)) rfl rfl rfl rfl .same rfl rfl (by decide))) rfl ?_
    refine DF.fin (ps := [(0,2),(0,3),(0,4),(1,2),(1,3),(1,4),(2,0),(2,1),(2,3),(3,0),(3,1),(3,2),(4,0),(4,1)]) 8 rfl (by decide +kernel) (by decide +kernel) (by rfl) ?_
    refine ib_n (th_n ?_)
    (have e := hT.trans ((if_neg h0).trans (if_pos h1)); exact ⟨A, rfl, (Weak.freezeP 3 3 rfl rfl rfl rfl (by simp) (List.take_of_length_le (by simp)) rfl).trans (Weak.ren _ [(200, _), (101, _), (201, _)] hC rfl (by repeat (first | exact True.intro | refine And.intro ?_ ?_ | exact rfl | refine ⟨_, rfl, ?_⟩)) (by rw [e]; repeat (first | exact True.intro | refine And.intro ?_ ?_ | exact DLead.same | exact rfl | refine ⟨_, _, rfl, rfl, ?_⟩ | refine ⟨_, rfl, ?_⟩ | refine ⟨_, _, rfl, ?_, ?_⟩)) rfl rfl rfl)⟩)
   ·refine AC.seq (AC.region ?_)
    refine AL.p (by exact g_cmp rfl rfl rfl) rfl ?_
    refine AL.p (by exact as1 rfl) rfl ?_
    refine AL.nil (th_n ?_)
    refine AC.condD rfl (fun h2 => ?_) (fun h2 => ?_)
    ·refine AC.drawn' mixed_ok [[], [0], [], [], [2,3], [0,1,2,3,4], [0,1,2,3,4,5], [0,1,2,3,4,5,6]] (by decide) ?_
     refine DF.op 0 [] 8 rfl rfl rfl (.free rfl (NOp.of (by exact g_fa_ptr rfl rfl rfl rfl rfl))) rfl ?_
     refine DF.op 1 [0] 8 rfl rfl rfl (.free rfl (NOp.of (by exact g_load_ptr rfl rfl rfl rfl rfl))) rfl ?_
     refine DF.op 2 [] 8 rfl rfl rfl (.free rfl (NOp.of (by exact mv3 rfl))) rfl ?_
     refine DF.op 3 [] 8 rfl rfl rfl (.free rfl (by exact h_litF rfl rfl rfl rfl rfl rfl rfl rfl)) rfl ?_
     refine DF.op 4 [2,3] 8 rfl rfl rfl (.free rfl (by exact h_fun (cs := [0]) en_of rfl rfl (by repeat (first | exact rfl | exact DLead.same | refine ⟨_, _, rfl, ?_, ?_⟩ | refine ⟨_, rfl, ?_⟩)) (by repeat (first | exact True.intro | refine And.intro ?_ ?_ | exact DLead.same | exact rfl | refine ⟨_, _, rfl, rfl, ?_⟩ | refine ⟨_, rfl, ?_⟩ | refine ⟨_, _, rfl, ?_, ?_⟩)) ha2 rfl rfl rfl rfl)) rfl ?_
     refine DF.op 5 [0,1,2,3,4] 8 rfl rfl rfl (.free rfl (NOp.of (by exact g_ia_own (i := 0) (l := (x0 :: sg').length) rfl rfl rfl rfl rfl rfl (by omega) rfl))) rfl ?_
     refine DF.op 6 [0,1,2,3,4,5] 8 rfl rfl rfl (.free rfl (NOp.of (by exact g_fa_ptr rfl rfl rfl rfl rfl))) rfl ?_
     refine DF.op 7 [0,1,2,3,4,5,6] 8 rfl rfl rfl (.free rfl (by exact h_store_arr (i := 0) (j := 0) (cs := sigD x0) (d := dS (bstr (badName (pc.pick 4).1))) rfl rfl rfl rfl .same rfl rfl (by decide))) rfl ?_
     refine DF.fin (ps := [(0,2),(0,3),(0,4),(1,2),(1,3),(1,4),(2,0),(2,1),(2,3),(3,0),(3,1),(3,2),(4,0),(4,1)]) 8 rfl (by decide +kernel) (by decide +kernel) (by rfl) ?_
     refine ib_n (th_n ?_)
     (have e := hT.trans ((if_neg h0).trans ((if_neg h1).trans (if_pos h2))); exact ⟨A, rfl, (Weak.freezeP 3 3 rfl rfl rfl rfl (ownl _ _) (ownt _ _) rfl).trans (Weak.ren _ [(200, _), (101, _), (201, _)] hC rfl (by repeat (first | exact True.intro | refine And.intro ?_ ?_ | exact rfl | refine ⟨_, rfl, ?_⟩)) (by rw [e]; repeat (first | exact True.intro | refine And.intro ?_ ?_ | exact DLead.same | exact rfl | refine ⟨_, _, rfl, rfl, ?_⟩ | refine ⟨_, rfl, ?_⟩ | refine ⟨_, _, rfl, ?_, ?_⟩)) rfl rfl rfl)⟩)
    ·refine AC.seq (AC.region ?_)
     refine AL.p (by exact g_cmp rfl rfl rfl) rfl ?_
     refine AL.p (by exact as1 rfl) rfl ?_
     refine AL.nil (th_n ?_)
     refine AC.condD rfl (fun h3 => ?_) (fun h3 => ?_)
     ·refine AC.drawn' mixed_ok [[], [0], [], [], [2,3], [0,1,2,3,4], [0,1,2,3,4,5], [0,1,2,3,4,5,6]] (by decide) ?_
      refine DF.op 0 [] 8 rfl rfl rfl (.free rfl (NOp.of (by exact g_fa_ptr rfl rfl rfl rfl rfl))) rfl ?_
      refine DF.op 1 [0] 8 rfl rfl rfl (.free rfl (NOp.of (by exact g_load_ptr rfl rfl rfl rfl rfl))) rfl ?_
      refine DF.op 2 [] 8 rfl rfl rfl (.free rfl (NOp.of (by exact mv3 rfl))) rfl ?_
      refine DF.op 3 [] 8 rfl rfl rfl (.free rfl (by exact h_litF rfl rfl rfl rfl rfl rfl rfl rfl)) rfl ?_
      refine DF.op 4 [2,3] 8 rfl rfl rfl (.free rfl (by exact h_fun (cs := [0]) en_among rfl rfl (by repeat (first | exact rfl | exact DLead.same | refine ⟨_, _, rfl, ?_, ?_⟩ | refine ⟨_, rfl, ?_⟩)) (by repeat (first | exact True.intro | refine And.intro ?_ ?_ | exact DLead.same | exact rfl | refine ⟨_, _, rfl, rfl, ?_⟩ | refine ⟨_, rfl, ?_⟩ | refine ⟨_, _, rfl, ?_, ?_⟩)) ha3 rfl rfl rfl rfl)) rfl ?_
      refine DF.op 5 [0,1,2,3,4] 8 rfl rfl rfl (.free rfl (NOp.of (by exact g_ia_own (i := 0) (l := (x0 :: sg').length) rfl rfl rfl rfl rfl rfl (by omega) rfl))) rfl ?_
      refine DF.op 6 [0,1,2,3,4,5] 8 rfl rfl rfl (.free rfl (NOp.of (by exact g_fa_ptr rfl rfl rfl rfl rfl))) rfl ?_
      refine DF.op 7 [0,1,2,3,4,5,6] 8 rfl rfl rfl (.free rfl (by exact h_store_arr (i := 0) (j := 1) (cs := sigD x0) (d := dI (badKind (pc.pick 3).1)) rfl rfl rfl rfl .same rfl rfl (by decide))) rfl ?_
      refine DF.fin (ps := [(0,2),(0,3),(0,4),(1,2),(1,3),(1,4),(2,0),(2,1),(2,3),(3,0),(3,1),(3,2),(4,0),(4,1)]) 8 rfl (by decide +kernel) (by decide +kernel) (by rfl) ?_
      refine ib_n (th_n ?_)
      (have e := hT.trans ((if_neg h0).trans ((if_neg h1).trans ((if_neg h2).trans (if_pos h3)))); exact ⟨A, rfl, (Weak.freezeP 3 3 rfl rfl rfl rfl (ownl _ _) (ownt _ _) rfl).trans (Weak.ren _ [(200, _), (101, _), (201, _)] hC rfl (by repeat (first | exact True.intro | refine And.intro ?_ ?_ | exact rfl | refine ⟨_, rfl, ?_⟩)) (by rw [e]; repeat (first | exact True.intro | refine And.intro ?_ ?_ | exact DLead.same | exact rfl | refine ⟨_, _, rfl, rfl, ?_⟩ | refine ⟨_, rfl, ?_⟩ | refine ⟨_, _, rfl, ?_, ?_⟩)) rfl rfl rfl)⟩)
     ·refine AC.seq (AC.region ?_)
      refine AL.p (by exact g_cmp rfl rfl rfl) rfl ?_
      refine AL.p (by exact as1 rfl) rfl ?_
      refine AL.nil (th_n ?_)
      refine AC.condD rfl (fun h4 => ?_) (fun h4 => ?_)
      ·refine AC.region ?_
       refine AL.weak (Weak.freezeP 3 3 rfl rfl rfl rfl (ownl _ _) (ownt _ _) rfl) ?_
       refine AL.p (by exact g_fa_ptr rfl rfl rfl rfl rfl) rfl ?_
       refine AL.p (by exact g_load_ptr rfl rfl rfl rfl rfl) rfl ?_
       refine AL.p (by exact g_slice_view (r := labsL lb') (l := 1) (h := (labsL (y0 :: lb')).length) rfl rfl rfl rfl (.some rfl rfl) .none (by rw [labsL_len]; omega) (Nat.le_refl _) (by rw [List.take_length]; rfl)) rfl ?_
       refine AL.p (by exact g_fa_ptr rfl rfl rfl rfl rfl) rfl ?_
       refine AL.q (by exact h_store rfl rfl rfl rfl rfl rfl) rfl ?_
       refine AL.nil (ib_n (th_n ?_))
       (have e := hT.trans ((if_neg h0).trans ((if_neg h1).trans ((if_neg h2).trans ((if_neg h3).trans (if_pos h4))))); exact ⟨A, rfl, Weak.ren _ [(200, _), (101, _), (201, _)] hC rfl (by repeat (first | exact True.intro | refine And.intro ?_ ?_ | exact rfl | refine ⟨_, rfl, ?_⟩)) (by rw [e]; repeat (first | exact True.intro | refine And.intro ?_ ?_ | exact DLead.same | exact rfl | refine ⟨_, _, rfl, rfl, ?_⟩ | refine ⟨_, rfl, ?_⟩ | refine ⟨_, _, rfl, ?_, ?_⟩)) rfl rfl rfl⟩)
      ·refine AC.skip (ib_n (th_n ?_))
       (have e := hT.trans ((if_neg h0).trans ((if_neg h1).trans ((if_neg h2).trans ((if_neg h3).trans (if_neg h4))))); exact ⟨A, rfl, (Weak.freezeP 3 3 rfl rfl rfl rfl (ownl _ _) (ownt _ _) rfl).trans (Weak.ren _ [(200, _), (101, _), (201, _)] hC rfl (by repeat (first | exact True.intro | refine And.intro ?_ ?_ | exact rfl | refine ⟨_, rfl, ?_⟩)) (by rw [e]; repeat (first | exact True.intro | refine And.intro ?_ ?_ | exact DLead.same | exact rfl | refine ⟨_, _, rfl, rfl, ?_⟩ | refine ⟨_, rfl, ?_⟩ | refine ⟨_, _, rfl, ?_, ?_⟩)) rfl rfl rfl)⟩)
 ·rintro x rfl
  refine AC.seq (AC.region ?_)
  refine AL.p (by exact g_load_ptrN rfl rfl rfl rfl rfl) rfl ?_
  refine AL.q (by exact h_store rfl rfl rfl rfl rfl rfl) rfl ?_
  refine AL.nil (th_n (AC.ret (bq_r ?_)))
  exact retN [(1, 101)] rfl (by repeat (first | exact rfl | exact DLead.same | refine ⟨_, _, rfl, ?_, ?_⟩ | refine ⟨_, rfl, ?_⟩)) (by repeat (first | exact True.intro | refine And.intro ?_ ?_ | exact DLead.same | exact rfl | refine ⟨_, _, rfl, rfl, ?_⟩ | refine ⟨_, rfl, ?_⟩ | refine ⟨_, _, rfl, ?_, ?_⟩)) rfl rfl
theorem en_anyStg : Enters Tryz.prog 126 := enters_of Tryz.func126 rfl rfl
theorem of_any (c : Cur) (L : List (List UInt8)) (h0 : 0 < L.length) (hl : L.length ≤ 65536) (hp : c.pos ≤ 100000000000000) : ASpec Tryz.prog 131 [.ptr 0 0, .d (vSx L)] [(0, curC c)] (Fun1 (aS (bstr (L.getD (c.pick L.length).1.toNat []))) [(0, curC (c.pick L.length).2)]) := by
 have hi := c.pick_in L.length (by omega)
 have h := of_spec c (sxL L) (bstr (L.getD (c.pick L.length).1.toNat [])) (by rw [sxL_len]; exact h0) (by rw [sxL_len]; exact hl) hp (by
  rw [sxL_len, sxL_get (show (c.pick L.length).1.toNat < L.length by omega), List.getD_eq_getElem?_getD, List.getElem?_eq_getElem (show (c.pick L.length).1.toNat < L.length by omega)]; rfl)
 rw [sxL_len] at h
 exact h
def StgE (pos : Nat) : AV → List (Nat × Chunk) → Prop := fun r chs => ∃ (s : Stg) (c : Cur), (StgS s ∧ c.pos ≤ pos) ∧ r = stgA s ∧ chs = [(0, curC c)]
def StgE0 : AV → List (Nat × Chunk) → Prop := fun r chs => ∃ (s : Stg), StgS s ∧ r = stgA s ∧ chs = []
structure ExS (x : Ex) : Prop where
 n : x.marks.length ≤ 1000
 l : x.moves.length ≤ 10000
def RgE (pos : Nat) : AV → List (Nat × Chunk) → Prop := fun r chs => ∃ (x : Ex) (c : Cur), (ExS x ∧ c.pos ≤ pos) ∧ r = rgA x ∧ chs = [(0, curC c)]
def RgN : AV → List (Nat × Chunk) → Prop := fun r chs => ∃ (x : Ex) (k : Int), (ExS x ∧ -10 ≤ k ∧ k ≤ 2000) ∧ r = .tup [rgA x, aI k] ∧ chs = []
set_option maxHeartbeats 4000000 in
theorem looseStg_spec (c : Cur) (hp : c.pos ≤ 100000) : ASpec Tryz.prog 95 [.ptr 0 0] [(0, curC c)] (StgE (c.pos + 300)) := by
 have hO := one_spec c 2 (by decide) (by omega)
 have hp2 := c.pick_pos 2
 obtain ⟨d, hd⟩ : ∃ d, d = (c.pick 2).2 := ⟨_, rfl⟩
 obtain ⟨b, hb⟩ : ∃ b, b = decide ((c.pick 2).1 = 0) := ⟨_, rfl⟩
 rw [← hd] at hO hp2
 rw [← hb] at hO
 have hA := anyStg_spec d (by omega)
 have hAi := anyI_in d
 obtain ⟨A, hAA⟩ : ∃ A, A = anyI d := ⟨_, rfl⟩
 rw [← hAA] at hA hAi
 have hN := net_spec d (by omega)
 have hNi := d.netT_in
 have hPi := d.netP_in
 obtain ⟨T, hT⟩ : ∃ T, T = d.netT := ⟨_, rfl⟩
 obtain ⟨p, hpp⟩ : ∃ p, p = d.netP := ⟨_, rfl⟩
 rw [← hT] at hN hNi
 rw [← hpp] at hN hPi
 have hM := markOf_spec T.2 p (by omega) (by omega) (by have := hNi.2.2.1; omega)
 have hMl := markOf_len T.2 p
 obtain ⟨m, hm⟩ : ∃ m, m = T.2.markOf p := ⟨_, rfl⟩
 rw [← hm] at hM hMl
 clear hd hb hAA hT hpp hm
 refine ASpec.of Tryz.func95 rfl rfl fun C hC => ?_
 refine AC.seq (AC.region ?_)
 refine AL.q (by exact h_alloc rfl) rfl ?_
 refine AL.nil (th_n (AC.seq (AC.seq (AC.region ?_))))
 refine AL.p (by exact mv3 rfl) rfl ?_
 refine AL.q (by exact h_fun (cs := [0]) en_one rfl rfl (by repeat (first | exact rfl | exact DLead.same | refine ⟨_, _, rfl, ?_, ?_⟩ | refine ⟨_, rfl, ?_⟩)) (by repeat (first | exact True.intro | refine And.intro ?_ ?_ | exact DLead.same | exact rfl | refine ⟨_, _, rfl, rfl, ?_⟩ | refine ⟨_, rfl, ?_⟩ | refine ⟨_, _, rfl, ?_, ?_⟩)) hO rfl rfl rfl rfl) rfl ?_
 refine AL.nil (th_n ?_)
 refine AC.condB rfl (fun h0 => ?_) (fun h0 => ?_)
 ·refine AC.seq (AC.region ?_)
  refine AL.p (by exact mv3 rfl) rfl ?_
  refine AL.q (by exact h_fun (cs := [0]) en_anyStg rfl rfl (by repeat (first | exact rfl | refine ⟨_, _, rfl, ?_, ?_⟩ | refine ⟨_, rfl, ?_⟩)) (by repeat (first | exact True.intro | refine And.intro ?_ ?_ | exact DLead.same | exact rfl | refine ⟨_, _, rfl, rfl, ?_⟩ | refine ⟨_, rfl, ?_⟩ | refine ⟨_, _, rfl, ?_, ?_⟩)) hA rfl rfl rfl rfl) rfl ?_
  refine AL.weak (Weak.freezeA (i := 8) (k := 2) rfl rfl rfl (ownl _ _) (ownt _ _)) ?_
  refine AL.q (by exact h_store rfl rfl rfl rfl rfl rfl) rfl ?_
  refine AL.nil (th_n (AC.ret (th_r (bq_r ?_))))
  exact retX [] rfl ⟨A.1, A.2, ⟨hAi.1, by omega⟩, rfl, rfl⟩ (by repeat (first | exact DLead.same | exact rfl | refine ⟨_, rfl, ?_⟩ | refine ⟨_, _, rfl, ?_, ?_⟩)) (by repeat (first | exact True.intro | refine And.intro ?_ ?_ | exact DLead.same | exact rfl | refine ⟨_, _, rfl, rfl, ?_⟩ | refine ⟨_, rfl, ?_⟩ | refine ⟨_, _, rfl, ?_, ?_⟩)) rfl rfl
 ·refine AC.skip (th_n (AC.seq (AC.region ?_)))
  refine AL.p (by exact mv3 rfl) rfl ?_
  refine AL.q (by exact h_fun (cs := [0]) en_net rfl rfl (by repeat (first | exact rfl | refine ⟨_, _, rfl, ?_, ?_⟩ | refine ⟨_, rfl, ?_⟩)) (by repeat (first | exact True.intro | refine And.intro ?_ ?_ | exact DLead.same | exact rfl | refine ⟨_, _, rfl, rfl, ?_⟩ | refine ⟨_, rfl, ?_⟩ | refine ⟨_, _, rfl, ?_, ?_⟩)) hN rfl rfl rfl rfl) rfl ?_
  refine AL.weak (Weak.freezeA (i := 10) (k := 1) rfl rfl rfl (ownl _ _) (ownt _ _)) ?_
  refine AL.q (by exact h_alloc rfl) rfl ?_
  refine AL.q (by exact h_store rfl rfl rfl rfl rfl rfl) rfl ?_
  refine AL.nil (th_n (AC.seq ?_))
  refine AC.weak (t := ⟨35, 300, [(0, .ptr 0 0), (2, .ptr 201 0), (3, .ptr 202 0)], [(0, some (curC T.2)), (201, some (.cells 30 zStg)), (202, some (.cells 26 [aI p, .d (vTs T.1)]))]⟩) (Weak.ren _ [(201, _), (202, _)] hC rfl (by repeat (first | exact True.intro | refine And.intro ?_ ?_ | exact rfl | refine ⟨_, rfl, ?_⟩)) (by repeat (first | exact True.intro | refine And.intro ?_ ?_ | exact DLead.same | exact rfl | refine ⟨_, _, rfl, rfl, ?_⟩ | refine ⟨_, rfl, ?_⟩ | refine ⟨_, _, rfl, ?_, ?_⟩)) rfl rfl rfl) ?_
  refine AC.drawn' mixed_ok [[], [], [1], [], [], [4], [3,4,5], [0,1,2,3,4,5,6], [], [0,1,2,3,4,5,6,7,8]] (by decide) ?_
  refine DF.op 0 [] 10 rfl rfl rfl (.free rfl (NOp.of (by exact g_load_ptrN rfl rfl rfl rfl rfl))) rfl ?_
  refine DF.op 1 [] 10 rfl rfl rfl (.free rfl (NOp.of (by exact g_build rfl rfl rfl))) rfl ?_
  refine DF.op 2 [1] 10 rfl rfl rfl (.free rfl (by exact h_litF rfl rfl rfl rfl rfl rfl rfl rfl)) rfl ?_
  refine DF.op 3 [] 10 rfl rfl rfl (.free rfl (NOp.of (by exact mv3 rfl))) rfl ?_
  refine DF.op 4 [] 10 rfl rfl rfl (.free rfl (NOp.of (by exact g_fa_ptr rfl rfl rfl rfl rfl))) rfl ?_
  refine DF.op 5 [4] 10 rfl rfl rfl (.free rfl (NOp.of (by exact g_load_ptr rfl rfl rfl rfl rfl))) rfl ?_
  refine DF.op 6 [3,4,5] 10 rfl rfl rfl (.free rfl (by exact h_fun (cs := [0]) en_markOf rfl rfl (by repeat (first | exact rfl | exact DLead.same | refine ⟨_, _, rfl, ?_, ?_⟩ | refine ⟨_, rfl, ?_⟩)) (by repeat (first | exact True.intro | refine And.intro ?_ ?_ | exact DLead.same | exact rfl | refine ⟨_, _, rfl, rfl, ?_⟩ | refine ⟨_, rfl, ?_⟩ | refine ⟨_, _, rfl, ?_, ?_⟩)) hM rfl rfl rfl rfl)) rfl ?_
  refine DF.op 7 [0,1,2,3,4,5,6] 10 rfl rfl rfl (.free rfl (NOp.of (by exact g_build rfl rfl rfl))) rfl ?_
  refine DF.op 8 [] 10 rfl rfl rfl (.free rfl (by exact h_alloc rfl)) rfl ?_
  refine DF.op 9 (List.range 9) 10 rfl rfl rfl (.free rfl (by exact h_store rfl rfl rfl rfl rfl rfl)) rfl ?_
  refine DF.fin (ps := [(0,1),(0,2),(0,3),(0,4),(0,5),(0,6),(0,8),(1,0),(1,3),(1,4),(1,5),(1,6),(1,8),(2,0),(2,3),(2,4),(2,5),(2,6),(2,8),(3,0),(3,1),(3,2),(3,4),(3,5),(3,8),(4,0),(4,1),(4,2),(4,3),(4,8),(5,0),(5,1),(5,2),(5,3),(5,8),(6,0),(6,1),(6,2),(6,8),(7,8),(8,0),(8,1),(8,2),(8,3),(8,4),(8,5),(8,6),(8,7)]) 10 rfl (by decide +kernel) (by decide +kernel) (by rfl) ?_
  refine th_n (AC.seq (AC.seq ?_))
  refine AC.weak (t := ⟨35, 500, [(0, .ptr 0 0), (2, .ptr 201 0), (3, .ptr 202 0), (4, .ptr 200 0)], [(0, some (curC m.2)), (201, some (.cells 30 zStg)), (202, some (.cells 26 [aI p, .d (vTs T.1)])), (200, some (.cells 30 [aI p, .d (vTs T.1), .d (vSigs [⟨[97], 1⟩]), .d (.val (.slice none 0 0)), aS (bstr m.1)]))]⟩) (Weak.ren _ [(201, 201), (202, 202), (200, _)] hC rfl (by repeat (first | exact True.intro | refine And.intro ?_ ?_ | exact rfl | refine ⟨_, rfl, ?_⟩)) (by repeat (first | exact True.intro | refine And.intro ?_ ?_ | exact DLead.same | exact rfl | refine ⟨_, _, rfl, rfl, ?_⟩ | refine ⟨_, rfl, ?_⟩ | refine ⟨_, _, rfl, ?_, ?_⟩)) rfl rfl rfl) ?_
  refine AC.region ?_
  refine AL.p (by exact g_fa_ptr rfl rfl rfl rfl rfl) rfl ?_
  refine AL.p (by exact g_load_ptr rfl rfl rfl rfl rfl) rfl ?_
  refine AL.p (by exact g_len_view (k := T.1.length) rfl rfl (tsL_len _)) rfl ?_
  refine AL.p (by exact mv1 rfl) rfl ?_
  refine AL.nil (th_n (AC.block ?_))
  refine AC.loop (ι := Nat × Cur × List Lab) (fun y => ⟨35, 800, [(0, .ptr 0 0), (2, .ptr 201 0), (4, .ptr 200 0), (21, aI T.1.length), (22, aI y.1)], [(0, some (curC y.2.1)), (201, some (.cells 30 zStg)), (200, some (.cells 30 [aI p, .d (vTs T.1), .d (vSigs [⟨[97], 1⟩]), .own 100 y.2.2.length, aS (bstr m.1)])), (100, some (.arr 156 2 (labsL y.2.2)))]⟩) (fun y => y.1 ≤ T.1.length ∧ y.2.2.length = y.1 ∧ y.2.1.pos ≤ m.2.pos + 2 * y.1 ∧ ∀ x, x ∈ y.2.2 → -10 ≤ x.sig ∧ x.sig ≤ 10) (fun y => T.1.length - y.1) ((0, m.2, [])) ?_ (⟨Nat.zero_le _, rfl, Nat.le_refl _, fun x hx => by simp at hx⟩) ?_
  ·exact (Weak.nilOwnP 4 3 (e := 156) (sz := 2) rfl rfl rfl rfl rfl).trans (Weak.ren _ [(201, 201), (200, 200), (100, _)] hC rfl (by repeat (first | exact True.intro | refine And.intro ?_ ?_ | exact DLead.same | exact rfl | refine ⟨_, rfl, ?_⟩)) (by repeat (first | exact True.intro | refine And.intro ?_ ?_ | exact DLead.same | exact rfl | refine ⟨_, _, rfl, rfl, ?_⟩ | refine ⟨_, rfl, ?_⟩ | refine ⟨_, _, rfl, ?_, ?_⟩)) rfl rfl rfl)
  ·rintro ⟨j, e, acc⟩ ⟨hj, hal, hep, hax⟩
   dsimp only at hj hal hep hax ⊢
   refine AC.seq (AC.region ?_)
   refine AL.p (by exact g_cmp rfl rfl rfl) rfl ?_
   refine AL.nil (th_n (AC.seq ?_))
   refine AC.condD rfl (fun h1 => ?_) (fun h1 => ?_)
   ·refine AC.skip (th_n (AC.seq (AC.block ?_)))
    have hT4 := hNi.1
    have hK := pick_spec e 2 (by decide) (by omega)
    have hKi := e.pick_in 2 (by decide)
    have hKp := e.pick_pos 2
    obtain ⟨q, hq⟩ : ∃ q, q = e.pick 2 := ⟨_, rfl⟩
    rw [← hq] at hK hKi hKp
    refine AC.drawn' mixed_ok [[], [0], [], [2], [2,3], [2,3,4], [2,3,4,5], [0,1,2,3,4,5,6], [0,1,2,3,4,5,6,7], [0,1,2,3,4,5,6,7,8]] (by decide) ?_
    refine DF.op 0 [] 10 rfl rfl rfl (.free rfl (NOp.of (by exact g_fa_ptr rfl rfl rfl rfl rfl))) rfl ?_
    refine DF.op 1 [0] 10 rfl rfl rfl (.free rfl (NOp.of (by exact g_load_ptr rfl rfl rfl rfl rfl))) rfl ?_
    refine DF.op 2 [] 10 rfl rfl rfl (.free rfl (NOp.of (by exact mv3 rfl))) rfl ?_
    refine DF.op 3 [2] 10 rfl rfl rfl (.free rfl (by exact h_fun (cs := [0]) en_pick rfl rfl (by repeat (first | exact rfl | exact DLead.same | refine ⟨_, _, rfl, ?_, ?_⟩ | refine ⟨_, rfl, ?_⟩)) (by repeat (first | exact True.intro | refine And.intro ?_ ?_ | exact DLead.same | exact rfl | refine ⟨_, _, rfl, rfl, ?_⟩ | refine ⟨_, rfl, ?_⟩ | refine ⟨_, _, rfl, ?_, ?_⟩)) hK rfl rfl rfl rfl)) rfl ?_
    refine DF.op 4 [2,3] 10 rfl rfl rfl (.free rfl (NOp.of (by exact g_neg rfl (by exact wrap_i64 (by omega))))) rfl ?_
    refine DF.op 5 [2,3,4] 10 rfl rfl rfl (.free rfl (NOp.of (by exact g_build rfl rfl rfl))) rfl ?_
    refine DF.op 6 [2,3,4,5] 10 rfl rfl rfl (.free rfl (by exact h_litF rfl rfl rfl rfl rfl rfl rfl rfl)) rfl ?_
    refine DF.op 7 [0,1,2,3,4,5,6] 10 rfl rfl rfl (.free rfl (by exact h_appendLx acc [⟨0 - q.1, false⟩] (.own rfl rfl (labsL_len _).symm) (.view rfl) (by rw [List.length_append]; simp only [List.length_cons, List.length_nil]; omega) (by simp))) rfl ?_
    refine DF.op 8 [0,1,2,3,4,5,6,7] 10 rfl rfl rfl (.free rfl (NOp.of (by exact g_fa_ptr rfl rfl rfl rfl rfl))) rfl ?_
    refine DF.op 9 (List.range 9) 10 rfl rfl rfl (.free rfl (by exact h_store rfl rfl rfl rfl rfl rfl)) rfl ?_
    refine DF.fin (ps := [(0,2),(0,3),(0,4),(0,5),(0,6),(1,2),(1,3),(1,4),(1,5),(1,6),(2,0),(2,1),(3,0),(3,1),(4,0),(4,1),(5,0),(5,1),(6,0),(6,1)]) 10 rfl (by decide +kernel) (by decide +kernel) (by rfl) ?_
    refine ib_n (th_n (AC.region ?_))
    refine AL.p (by exact g_arith rfl rfl rfl (by exact wrap_i64 (by omega))) rfl ?_
    refine AL.p (by exact mv1 rfl) rfl ?_
    refine AL.nil (th_n ?_)
    exact ⟨(j + 1, q.2, acc ++ [⟨0 - q.1, false⟩]), ⟨by dsimp only; omega, by dsimp only; rw [List.length_append]; simp only [List.length_cons, List.length_nil]; omega, by dsimp only; omega, fun x hx => (List.mem_append.1 hx).elim (hax x) (fun g => by rw [List.mem_singleton.1 g]; dsimp only; omega)⟩, by dsimp only; omega, Weak.ren _ [(201, 201), (200, 200), (100, _)] hC rfl (by repeat (first | exact True.intro | refine And.intro ?_ ?_ | exact DLead.same | exact rfl | refine ⟨_, rfl, ?_⟩)) (by repeat (first | exact True.intro | refine And.intro ?_ ?_ | exact DLead.same | exact rfl | refine ⟨_, _, rfl, rfl, ?_⟩ | refine ⟨_, rfl, ?_⟩ | refine ⟨_, _, rfl, ?_, ?_⟩)) rfl rfl rfl⟩
   ·refine AC.exit (th_e (th_e (ib_y (th_n (AC.seq ?_)))))
    refine AC.weak (Weak.freezeP (els' := labsL acc) 4 3 rfl rfl rfl rfl (by rw [labsL_len]; exact Nat.le_refl _) (List.take_of_length_le (by rw [labsL_len]; exact Nat.le_refl _)) rfl) ?_
    refine AC.region ?_
    refine AL.p (by exact g_load_ptrN rfl rfl rfl rfl rfl) rfl ?_
    refine AL.q (by exact h_store rfl rfl rfl rfl rfl rfl) rfl ?_
    refine AL.nil (th_n (AC.ret (bq_r ?_)))
    have hT4 := hNi.1
    exact retX [] rfl ⟨⟨⟨p, T.1⟩, [⟨[97], 1⟩], acc, m.1⟩, e, ⟨⟨⟨by show 0 ≤ p; omega, by show p ≤ 40; omega⟩, by show T.1.length ≤ 13; omega, fun t ht => by have := hNi.2.1 t ht; omega, Nat.le_refl _, by show 1 ≤ 8; omega, fun x hx => by rw [List.mem_singleton.1 hx]; show 1 ≤ 10; omega, by show acc.length ≤ 20; omega, hax, by show m.1.length ≤ 60; omega⟩, by have := hNi.2.2.1; omega⟩, rfl, rfl⟩ (by repeat (first | exact DLead.same | exact rfl | refine ⟨_, rfl, ?_⟩ | refine ⟨_, _, rfl, ?_, ?_⟩)) (by repeat (first | exact True.intro | refine And.intro ?_ ?_ | exact DLead.same | exact rfl | refine ⟨_, _, rfl, rfl, ?_⟩ | refine ⟨_, rfl, ?_⟩ | refine ⟨_, _, rfl, ?_, ?_⟩)) rfl rfl
theorem en_looseStg : Enters Tryz.prog 95 := enters_of Tryz.func95 rfl rfl
theorem sDrawExplore_spec (code : List UInt8) : ASpec Tryz.prog 10 [.d (vB code)] [] StgE0 := by
 have hp0 : (cur0 code).pos = 0 := rfl
 have hL := looseStg_spec (cur0 code) (by omega)
 refine ASpec.of Tryz.func10 rfl rfl fun C hC => ?_
 refine AC.seq (AC.region ?_)
 refine AL.q (by exact h_alloc rfl) rfl ?_
 refine AL.nil (th_n (AC.seq (AC.region ?_)))
 refine AL.p (by exact mv1 rfl) rfl ?_
 refine AL.p (by exact g_build rfl rfl rfl) rfl ?_
 refine AL.q (by exact h_box rfl) rfl ?_
 refine AL.p (by exact as3 rfl) rfl ?_
 refine AL.nil (th_n (AC.seq (AC.region ?_)))
 refine AL.p (by exact mv3 rfl) rfl ?_
 refine AL.r (by exact h_funR (cs := [8]) en_looseStg rfl rfl (by repeat (first | exact rfl | refine ⟨_, _, rfl, ?_, ?_⟩ | refine ⟨_, rfl, ?_⟩)) (by repeat (first | exact True.intro | refine And.intro ?_ ?_ | exact DLead.same | exact rfl | refine ⟨_, _, rfl, rfl, ?_⟩ | refine ⟨_, rfl, ?_⟩ | refine ⟨_, _, rfl, ?_, ?_⟩)) hL rfl rfl rfl) rfl ?_
 rintro _ ⟨_, _, ⟨s, c', ⟨hs, hc'⟩, rfl, rfl⟩, rfl⟩
 refine AL.q (by exact h_store rfl rfl rfl rfl rfl rfl) rfl ?_
 refine AL.nil (th_n (AC.ret (bq_r ?_)))
 exact retX [] rfl ⟨s, hs, rfl, rfl⟩ (by repeat (first | exact DLead.same | exact rfl | refine ⟨_, rfl, ?_⟩ | refine ⟨_, _, rfl, ?_, ?_⟩)) (by repeat (exact True.intro)) rfl rfl
theorem en_sDrawExplore : Enters Tryz.prog 10 := enters_of Tryz.func10 rfl rfl
theorem explS_pos (s : Stg) : 0 < (explS s).1.moves.length → 0 < (explS s).1.marks.length := by
 intro h
 have h2 : (explS s).2 = true := by
  unfold explS at h ⊢
  split
  ·rfl
  ·rename_i hc; rw [if_neg hc] at h; exact absurd h (by decide)
 have := (explS_Expl h2).2.n
 omega
set_option maxHeartbeats 8000000 in
theorem anyReach_spec (c : Cur) (hp : c.pos ≤ 100000) : ASpec Tryz.prog 118 [.ptr 0 0] [(0, curC c)] (RgE (c.pos + 100)) := by
 have hS := stg_spec c (by omega)
 have hSi := stgI_in c
 obtain ⟨A, hAA⟩ : ∃ A, A = stgI c := ⟨_, rfl⟩
 rw [← hAA] at hS hSi
 have hok := (okS_S hSi.1).1
 have hE := sExplore_spec A.1 hok.B
 have hEi := explS_in A.1
 have hE0 := explS_pos A.1
 obtain ⟨X, hX⟩ : ∃ X, X = explS A.1 := ⟨_, rfl⟩
 rw [← hX] at hE hEi hE0
 obtain ⟨⟨M, V⟩, ok⟩ := X
 dsimp only at hE hEi hE0
 have hEi0 := hE0
 clear hAA hX
 refine ASpec.of Tryz.func118 rfl rfl fun C hC => ?_
 refine AC.seq (AC.region ?_)
 refine AL.q (by exact h_alloc rfl) rfl ?_
 refine AL.nil (th_n (AC.seq (AC.region ?_)))
 refine AL.p (by exact mv3 rfl) rfl ?_
 refine AL.q (by exact h_fun (cs := [0]) en_stg rfl rfl (by repeat (first | exact rfl | refine ⟨_, _, rfl, ?_, ?_⟩ | refine ⟨_, rfl, ?_⟩)) (by repeat (first | exact True.intro | refine And.intro ?_ ?_ | exact DLead.same | exact rfl | refine ⟨_, _, rfl, rfl, ?_⟩ | refine ⟨_, rfl, ?_⟩ | refine ⟨_, _, rfl, ?_, ?_⟩)) hS rfl rfl rfl rfl) rfl ?_
 refine AL.weak (Weak.freezeA (i := 7) (k := 2) rfl rfl rfl (ownl _ _) (ownt _ _)) ?_
 refine AL.weak (Weak.freezeA (i := 7) (k := 3) rfl rfl rfl (ownl _ _) (ownt _ _)) ?_
 refine AL.weak (t := ⟨47, 208, [(0, .ptr 0 0), (2, .ptr 201 0), (7, stgA A.1)], [(0, some (curC A.2)), (201, some (.cells 35 zRG))]⟩) (Weak.ren _ [(201, _)] hC rfl (by repeat (first | exact True.intro | refine And.intro ?_ ?_ | exact DLead.same | exact rfl | refine ⟨_, rfl, ?_⟩ | refine ⟨_, _, rfl, ?_, ?_⟩)) (by repeat (first | exact True.intro | refine And.intro ?_ ?_ | exact DLead.same | exact rfl | refine ⟨_, _, rfl, rfl, ?_⟩ | refine ⟨_, rfl, ?_⟩ | refine ⟨_, _, rfl, ?_, ?_⟩)) rfl rfl rfl) ?_
 refine AL.q (by exact h_fun (cs := []) en_sExplore rfl rfl (by repeat (first | exact rfl | exact DLead.same | refine ⟨_, _, rfl, ?_, ?_⟩ | refine ⟨_, rfl, ?_⟩)) (by repeat (exact True.intro)) hE rfl rfl rfl rfl) rfl ?_
 refine AL.p (by exact mv5 rfl) rfl ?_
 refine AL.p (by exact g_extract (r := .agg _) rfl rfl) rfl ?_
 refine AL.p (by exact g_extract (r := .d _) rfl rfl) rfl ?_
 refine AL.q (by exact h_alloc rfl) rfl ?_
 refine AL.q (by exact h_store rfl rfl rfl rfl rfl rfl) rfl ?_
 refine AL.p (by exact as1 rfl) rfl ?_
 refine AL.nil (th_n ?_)
 refine AC.cut (fun (z : Ex × Cur) => ⟨47, 1500, [(2, .ptr 201 0), (3, .ptr 200 0)], [(0, some (curC z.2)), (201, some (.cells 35 zRG)), (200, some (.cells 35 (rgC z.1)))]⟩) (fun z => ExS z.1 ∧ z.2.pos ≤ c.pos + 100) ?_ ?_
 ·refine AC.seq ?_
  refine AC.weak (t := ⟨47, 300, [(0, .ptr 0 0), (2, .ptr 201 0), (3, .ptr 200 0)], [(0, some (curC A.2)), (201, some (.cells 35 zRG)), (200, some (.cells 35 [.own 101 M.length, .own 102 V.length])), (101, some (.arr 9 1 (tsX M))), (102, some (.arr 52 3 (mvL V)))]⟩) (Weak.ren _ [(201, 201), (200, _), (101, _), (102, _)] hC rfl (by repeat (first | exact True.intro | refine And.intro ?_ ?_ | exact rfl | refine ⟨_, rfl, ?_⟩)) (by repeat (first | exact True.intro | refine And.intro ?_ ?_ | exact DLead.same | exact rfl | refine ⟨_, _, rfl, rfl, ?_⟩ | refine ⟨_, rfl, ?_⟩ | refine ⟨_, _, rfl, ?_, ?_⟩)) rfl rfl rfl) ?_
  refine AC.region ?_
  refine AL.p (by exact g_fa_ptr rfl rfl rfl rfl rfl) rfl ?_
  refine AL.p (by exact g_load_ptr rfl rfl rfl rfl rfl) rfl ?_
  refine AL.p (by exact g_len_own (sz := 1) (els := []) (e' := 0) rfl rfl (by simp only [maxLen]; omega)) rfl ?_
  refine AL.p (by exact g_cmp rfl rfl rfl) rfl ?_
  refine AL.nil (th_n ?_)
  refine AC.condD rfl (fun h0 => ?_) (fun h0 => ?_)
  ·refine AC.seq ?_
   have hK := pick_spec A.2 12 (by decide) (by omega)
   have hKp := A.2.pick_pos 12
   obtain ⟨q, hq⟩ : ∃ q, q = A.2.pick 12 := ⟨_, rfl⟩
   rw [← hq] at hK hKp
   have hK2 := pick_spec q.2 12 (by decide) (by omega)
   have hK2i := q.2.pick_in 12 (by decide)
   have hK2p := q.2.pick_pos 12
   obtain ⟨u, hu⟩ : ∃ u, u = q.2.pick 12 := ⟨_, rfl⟩
   rw [← hu] at hK2 hK2i hK2p
   clear hq hu
   refine AC.region ?_
   refine AL.p (by exact mv3 rfl) rfl ?_
   refine AL.q (by exact h_fun (cs := [0]) en_pick rfl rfl (by repeat (first | exact rfl | exact DLead.same | refine ⟨_, _, rfl, ?_, ?_⟩ | refine ⟨_, rfl, ?_⟩)) (by repeat (first | exact True.intro | refine And.intro ?_ ?_ | exact DLead.same | exact rfl | refine ⟨_, _, rfl, rfl, ?_⟩ | refine ⟨_, rfl, ?_⟩ | refine ⟨_, _, rfl, ?_, ?_⟩)) hK rfl rfl rfl rfl) rfl ?_
   refine AL.nil (th_n (AC.block (AC.seq (AC.region ?_))))
   refine AL.p (by exact g_cmp rfl rfl rfl) rfl ?_
   refine AL.p (by exact as1 rfl) rfl ?_
   refine AL.nil (th_n ?_)
   refine AC.condD rfl (fun h1 => ?_) (fun h1 => ?_)
   ·have hV0 : 0 < V.length := by omega
    have hrow := mvL_get hV0
    have hset : (mvL V).set 0 ([dI V[0].from_, dI V[0].by_, dI V[0].to_].set 2 (dI (u.1 - 1))) = mvL (V.set 0 ⟨V[0].from_, V[0].by_, u.1 - 1⟩) := by unfold mvL; rw [List.map_set]; rfl
    have hsl : (V.set 0 ⟨V[0].from_, V[0].by_, u.1 - 1⟩).length = V.length := List.length_set ..
    refine AC.drawn' mixed_ok [[], [0], [], [2], [2,3], [0,1,2,3,4], [0,1,2,3,4,5], [0,1,2,3,4,5,6]] (by decide) ?_
    refine DF.op 0 [] 8 rfl rfl rfl (.free rfl (NOp.of (by exact g_fa_ptr rfl rfl rfl rfl rfl))) rfl ?_
    refine DF.op 1 [0] 8 rfl rfl rfl (.free rfl (NOp.of (by exact g_load_ptr rfl rfl rfl rfl rfl))) rfl ?_
    refine DF.op 2 [] 8 rfl rfl rfl (.free rfl (NOp.of (by exact mv3 rfl))) rfl ?_
    refine DF.op 3 [2] 8 rfl rfl rfl (.free rfl (by exact h_fun (cs := [0]) en_pick rfl rfl (by repeat (first | exact rfl | exact DLead.same | refine ⟨_, _, rfl, ?_, ?_⟩ | refine ⟨_, rfl, ?_⟩)) (by repeat (first | exact True.intro | refine And.intro ?_ ?_ | exact DLead.same | exact rfl | refine ⟨_, _, rfl, rfl, ?_⟩ | refine ⟨_, rfl, ?_⟩ | refine ⟨_, _, rfl, ?_, ?_⟩)) hK2 rfl rfl rfl rfl)) rfl ?_
    refine DF.op 4 [2,3] 8 rfl rfl rfl (.free rfl (NOp.of (by exact g_arith rfl rfl rfl (by exact wrap_i64 (by omega))))) rfl ?_
    refine DF.op 5 [0,1,2,3,4] 8 rfl rfl rfl (.free rfl (NOp.of (by exact g_ia_own (i := 0) (l := V.length) rfl rfl rfl rfl rfl rfl hV0 rfl))) rfl ?_
    refine DF.op 6 [0,1,2,3,4,5] 8 rfl rfl rfl (.free rfl (NOp.of (by exact g_fa_ptr rfl rfl rfl rfl rfl))) rfl ?_
    refine DF.op 7 [0,1,2,3,4,5,6] 8 rfl rfl rfl (.free rfl (by exact h_store_arr (i := 0) (j := 2) (d := dI (u.1 - 1)) rfl rfl rfl rfl .same rfl hrow (by decide))) rfl ?_
    refine DF.fin (ps := [(0,2),(0,3),(0,4),(1,2),(1,3),(1,4),(2,0),(2,1),(3,0),(3,1),(4,0),(4,1)]) 8 rfl (by decide +kernel) (by decide +kernel) (by rfl) ?_
    refine ib_n (th_n ?_)
    (have hg := ‹q.1 = 0›; exact ⟨(⟨M, V.set 0 ⟨V[0].from_, V[0].by_, u.1 - 1⟩⟩, u.2), ⟨⟨by dsimp only; omega, by dsimp only; rw [hsl]; omega⟩, by dsimp only; omega⟩, ((Weak.freezeP (els' := tsX M) 3 0 rfl rfl rfl rfl (by rw [tsX_len]; exact Nat.le_refl _) (List.take_of_length_le (by rw [tsX_len]; exact Nat.le_refl _)) rfl).trans (Weak.freezeP (els' := mvL (V.set 0 ⟨V[0].from_, V[0].by_, u.1 - 1⟩)) 3 1 rfl rfl rfl rfl (by rw [List.length_set, mvL_len]; exact Nat.le_refl _) ((List.take_of_length_le (by rw [List.length_set, mvL_len]; exact Nat.le_refl _)).trans hset) rfl)).trans (Weak.ren _ [(201, 201), (200, 200)] hC rfl (by repeat (first | exact True.intro | refine And.intro ?_ ?_ | exact rfl | refine ⟨_, rfl, ?_⟩)) (by repeat (first | exact True.intro | refine And.intro ?_ ?_ | exact DLead.same | exact rfl | refine ⟨_, _, rfl, rfl, ?_⟩ | refine ⟨_, rfl, ?_⟩ | refine ⟨_, _, rfl, ?_, ?_⟩)) rfl rfl rfl)⟩)
   ·refine AC.seq (AC.region ?_)
    refine AL.p (by exact g_cmp rfl rfl rfl) rfl ?_
    refine AL.p (by exact as1 rfl) rfl ?_
    refine AL.nil (th_n ?_)
    refine AC.condD rfl (fun h2 => ?_) (fun h2 => ?_)
    ·refine AC.weak (Weak.freezeP (els' := mvL V) 3 1 rfl rfl rfl rfl (by rw [mvL_len]; exact Nat.le_refl _) (List.take_of_length_le (by rw [mvL_len]; exact Nat.le_refl _)) rfl) ?_
     refine AC.region ?_
     refine AL.p (by exact g_fa_ptr rfl rfl rfl rfl rfl) rfl ?_
     refine AL.p (by exact g_load_ptr rfl rfl rfl rfl rfl) rfl ?_
     refine AL.p (by exact g_slice_view (l := 1) (h := V.length) (els := mvL V) (r := mvL (V.drop 1)) rfl rfl rfl rfl (.some rfl rfl) (by rw [← mvL_len V]; exact .none) (by omega) (by rw [mvL_len]; exact Nat.le_refl _) (by rw [List.take_of_length_le (by rw [mvL_len]; exact Nat.le_refl _)]; unfold mvL; rw [List.map_drop])) rfl ?_
     refine AL.p (by exact g_fa_ptr rfl rfl rfl rfl rfl) rfl ?_
     refine AL.q (by exact h_store rfl rfl rfl rfl rfl rfl) rfl ?_
     refine AL.nil (ib_n (th_n ?_))
     (have hg := ‹q.1 = 1›; exact ⟨(⟨M, V.drop 1⟩, q.2), ⟨⟨by dsimp only; omega, by dsimp only; rw [List.length_drop]; omega⟩, by dsimp only; omega⟩, (Weak.freezeP (els' := tsX M) 3 0 rfl rfl rfl rfl (by rw [tsX_len]; exact Nat.le_refl _) (List.take_of_length_le (by rw [tsX_len]; exact Nat.le_refl _)) rfl).trans (Weak.ren _ [(201, 201), (200, 200)] hC rfl (by repeat (first | exact True.intro | refine And.intro ?_ ?_ | exact rfl | refine ⟨_, rfl, ?_⟩)) (by repeat (first | exact True.intro | refine And.intro ?_ ?_ | exact DLead.same | exact rfl | refine ⟨_, _, rfl, rfl, ?_⟩ | refine ⟨_, rfl, ?_⟩ | refine ⟨_, _, rfl, ?_, ?_⟩)) rfl rfl rfl)⟩)
    ·refine AC.seq (AC.region ?_)
     refine AL.p (by exact g_cmp rfl rfl rfl) rfl ?_
     refine AL.p (by exact as1 rfl) rfl ?_
     refine AL.nil (th_n ?_)
     refine AC.condD rfl (fun h3 => ?_) (fun h3 => ?_)
     ·have hM0 : 0 < M.length := hEi0 (by omega)
      have hM1 := tsX_get hM0
      have hOf := of_any q.2 [[120], M[0]] (by simp) (by simp) (by omega)
      have hOfp := q.2.pick_pos ((2 : Nat) : Int)
      obtain ⟨r, hr⟩ : ∃ r, r = q.2.pick ((2 : Nat) : Int) := ⟨_, rfl⟩
      rw [show ([[120], M[0]] : List (List UInt8)).length = 2 from rfl, ← hr] at hOf
      rw [← hr] at hOfp
      obtain ⟨st, hst⟩ : ∃ st, st = ([[120], M[0]] : List (List UInt8)).getD r.1.toNat [] := ⟨_, rfl⟩
      rw [← hst] at hOf
      refine AC.drawn' mixed_ok [[], [0], [], [], [3], [3,4], [3,4,5], [3,4,5,6], [2,3,4,5,6,7], [2,3,4,5,6,7,8], [0,1,2,3,4,5,6,7,8,9], [0,1,2,3,4,5,6,7,8,9,10], [0,1,2,3,4,5,6,7,8,9,10,11]] (by decide) ?_
      refine DF.op 0 [] 13 rfl rfl rfl (.free rfl (NOp.of (by exact g_fa_ptr rfl rfl rfl rfl rfl))) rfl ?_
      refine DF.op 1 [0] 13 rfl rfl rfl (.free rfl (NOp.of (by exact g_load_ptr rfl rfl rfl rfl rfl))) rfl ?_
      refine DF.op 2 [] 13 rfl rfl rfl (.free rfl (NOp.of (by exact mv3 rfl))) rfl ?_
      refine DF.op 3 [] 13 rfl rfl rfl (.free rfl (NOp.of (by exact g_fa_ptr rfl rfl rfl rfl rfl))) rfl ?_
      refine DF.op 4 [3] 13 rfl rfl rfl (.free rfl (NOp.of (by exact g_load_ptr rfl rfl rfl rfl rfl))) rfl ?_
      refine DF.op 5 [3,4] 13 rfl rfl rfl (.free rfl (NOp.of (by exact g_ia_own (i := 0) (l := M.length) rfl rfl rfl rfl rfl rfl hM0 rfl))) rfl ?_
      refine DF.op 6 [3,4,5] 13 rfl rfl rfl (.free rfl (NOp.of (by exact g_load_arr1 rfl rfl rfl rfl (by rw [Nat.mul_one]; exact hM1)))) rfl ?_
      refine DF.op 7 [3,4,5,6] 13 rfl rfl rfl (.free rfl (by exact h_litF rfl rfl rfl rfl rfl rfl rfl rfl)) rfl ?_
      refine DF.op 8 [2,3,4,5,6,7] 13 rfl rfl rfl (.free rfl (by exact h_fun (cs := [0]) en_of rfl rfl (by repeat (first | exact rfl | exact DLead.same | refine ⟨_, _, rfl, ?_, ?_⟩ | refine ⟨_, rfl, ?_⟩)) (by repeat (first | exact True.intro | refine And.intro ?_ ?_ | exact DLead.same | exact rfl | refine ⟨_, _, rfl, rfl, ?_⟩ | refine ⟨_, rfl, ?_⟩ | refine ⟨_, _, rfl, ?_, ?_⟩)) hOf rfl rfl rfl rfl)) rfl ?_
      refine DF.op 9 [2,3,4,5,6,7,8] 13 rfl rfl rfl (.free rfl (by exact h_litF rfl rfl rfl rfl rfl rfl rfl rfl)) rfl ?_
      refine DF.op 10 (List.range 10) 13 rfl rfl rfl (.free rfl (by exact h_appendX M [st] (.own rfl rfl (tsX_len _).symm) (.view rfl) (by rw [List.length_append]; simp only [List.length_cons, List.length_nil]; omega) (by simp))) rfl ?_
      refine DF.op 11 (List.range 11) 13 rfl rfl rfl (.free rfl (NOp.of (by exact g_fa_ptr rfl rfl rfl rfl rfl))) rfl ?_
      refine DF.op 12 (List.range 12) 13 rfl rfl rfl (.free rfl (by exact h_store rfl rfl rfl rfl rfl rfl)) rfl ?_
      refine DF.fin (ps := [(0,2),(0,3),(0,4),(0,5),(0,6),(0,7),(0,8),(0,9),(1,2),(1,3),(1,4),(1,5),(1,6),(1,7),(1,8),(1,9),(2,0),(2,1),(2,3),(2,4),(2,5),(2,6),(2,7),(3,0),(3,1),(3,2),(4,0),(4,1),(4,2),(5,0),(5,1),(5,2),(6,0),(6,1),(6,2),(7,0),(7,1),(7,2),(8,0),(8,1),(9,0),(9,1)]) 13 rfl (by decide +kernel) (by decide +kernel) (by rfl) ?_
      refine ib_n (th_n ?_)
      (have hg := ‹q.1 = 2›; exact ⟨(⟨M ++ [st], V⟩, r.2), ⟨⟨by dsimp only; rw [List.length_append, List.length_singleton]; omega, by dsimp only; omega⟩, by dsimp only; omega⟩, ((Weak.freezeP (els' := tsX (M ++ [st])) 3 0 rfl rfl rfl rfl (by rw [tsX_len]; exact Nat.le_refl _) (List.take_of_length_le (by rw [tsX_len]; exact Nat.le_refl _)) rfl).trans (Weak.freezeP (els' := mvL V) 3 1 rfl rfl rfl rfl (by rw [mvL_len]; exact Nat.le_refl _) (List.take_of_length_le (by rw [mvL_len]; exact Nat.le_refl _)) rfl)).trans (Weak.ren _ [(201, 201), (200, 200)] hC rfl (by repeat (first | exact True.intro | refine And.intro ?_ ?_ | exact rfl | refine ⟨_, rfl, ?_⟩)) (by repeat (first | exact True.intro | refine And.intro ?_ ?_ | exact DLead.same | exact rfl | refine ⟨_, _, rfl, rfl, ?_⟩ | refine ⟨_, rfl, ?_⟩ | refine ⟨_, _, rfl, ?_, ?_⟩)) rfl rfl rfl)⟩)
     ·refine AC.skip (ib_n (th_n ?_))
      (have hg := ‹¬ q.1 = 2›; exact ⟨(⟨M, V⟩, q.2), ⟨⟨by dsimp only; omega, by dsimp only; omega⟩, by dsimp only; omega⟩, ((Weak.freezeP (els' := tsX M) 3 0 rfl rfl rfl rfl (by rw [tsX_len]; exact Nat.le_refl _) (List.take_of_length_le (by rw [tsX_len]; exact Nat.le_refl _)) rfl).trans (Weak.freezeP (els' := mvL V) 3 1 rfl rfl rfl rfl (by rw [mvL_len]; exact Nat.le_refl _) (List.take_of_length_le (by rw [mvL_len]; exact Nat.le_refl _)) rfl)).trans (Weak.ren _ [(201, 201), (200, 200)] hC rfl (by repeat (first | exact True.intro | refine And.intro ?_ ?_ | exact rfl | refine ⟨_, rfl, ?_⟩)) (by repeat (first | exact True.intro | refine And.intro ?_ ?_ | exact DLead.same | exact rfl | refine ⟨_, _, rfl, rfl, ?_⟩ | refine ⟨_, rfl, ?_⟩ | refine ⟨_, _, rfl, ?_, ?_⟩)) rfl rfl rfl)⟩)
  ·refine AC.skip (th_n ?_)
   (have hg := ‹¬ (0 : Int) < (V.length : Int)›; exact ⟨(⟨M, V⟩, A.2), ⟨⟨by dsimp only; omega, by dsimp only; omega⟩, by dsimp only; omega⟩, ((Weak.freezeP (els' := tsX M) 3 0 rfl rfl rfl rfl (by rw [tsX_len]; exact Nat.le_refl _) (List.take_of_length_le (by rw [tsX_len]; exact Nat.le_refl _)) rfl).trans (Weak.freezeP (els' := mvL V) 3 1 rfl rfl rfl rfl (by rw [mvL_len]; exact Nat.le_refl _) (List.take_of_length_le (by rw [mvL_len]; exact Nat.le_refl _)) rfl)).trans (Weak.ren _ [(201, 201), (200, 200)] hC rfl (by repeat (first | exact True.intro | refine And.intro ?_ ?_ | exact rfl | refine ⟨_, rfl, ?_⟩)) (by repeat (first | exact True.intro | refine And.intro ?_ ?_ | exact DLead.same | exact rfl | refine ⟨_, _, rfl, rfl, ?_⟩ | refine ⟨_, rfl, ?_⟩ | refine ⟨_, _, rfl, ?_, ?_⟩)) rfl rfl rfl)⟩)
 ·rintro ⟨z, e⟩ ⟨hz, he⟩
  dsimp only at hz he ⊢
  refine AC.seq (AC.region ?_)
  refine AL.p (by exact g_load_ptrN rfl rfl rfl rfl rfl) rfl ?_
  refine AL.q (by exact h_store rfl rfl rfl rfl rfl rfl) rfl ?_
  refine AL.nil (th_n (AC.ret (bq_r ?_)))
  exact retX [] rfl ⟨z, e, ⟨hz, he⟩, rfl, rfl⟩ (by repeat (first | exact DLead.same | exact rfl | refine ⟨_, rfl, ?_⟩ | refine ⟨_, _, rfl, ?_, ?_⟩)) (by repeat (first | exact True.intro | refine And.intro ?_ ?_ | exact DLead.same | exact rfl | refine ⟨_, _, rfl, rfl, ?_⟩ | refine ⟨_, rfl, ?_⟩ | refine ⟨_, _, rfl, ?_, ?_⟩)) rfl rfl
theorem en_anyReach : Enters Tryz.prog 118 := enters_of Tryz.func118 rfl rfl
theorem unsR_len (s : Stg) : (unsR s).1.length ≤ 1000 := by
 unfold unsR
 split
 ·rename_i hg
  have h1 : goodN s.net = true ∧ bitsB s.start s.net.places = true := by
   simp only [goodS, Bool.and_eq_true] at hg
   exact hg.1
  have := exOut_I (good_places h1.1).2.2 301 0 (x := ⟨[s.start], []⟩) (q := 0) ⟨by show 1 ≤ 300; omega, fun m hm => by rw [List.mem_singleton.1 hm]; exact h1.2, Nat.le_refl _⟩
  have hn : (explR s.net s.start).1.marks.length ≤ 300 := this.n
  unfold unsT
  split
  ·split
   ·have h2 := upL_len (explR s.net s.start).1.moves (explR s.net s.start).1.marks.length
    rename_i p _ _
    have h3 := h2 p.1.toNat
    rw [List.length_append, List.length_reverse, List.length_singleton]
    omega
   ·exact Nat.zero_le _
  ·exact Nat.zero_le _
 ·exact Nat.zero_le _
def RgE0 : AV → List (Nat × Chunk) → Prop := fun r chs => ∃ (x : Ex), ExS x ∧ r = rgA x ∧ chs = []
def StRgE : AV → List (Nat × Chunk) → Prop := fun r chs => ∃ (s : Stg) (x : Ex), (StgS s ∧ ExS x) ∧ r = .tup [stgA s, rgA x] ∧ chs = []
def RgTE : AV → List (Nat × Chunk) → Prop := fun r chs => ∃ (x : Ex) (m : List UInt8), ExS x ∧ r = .tup [rgA x, aS (bstr m)] ∧ chs = []
theorem sDrawUnsafe_spec (code : List UInt8) : ASpec Tryz.prog 27 [.d (vB code)] [] StgE0 := by
 have hL := sDrawExplore_spec code
 refine ASpec.of Tryz.func27 rfl rfl fun C hC => ?_
 refine AC.seq (AC.region ?_)
 refine AL.q (by exact h_alloc rfl) rfl ?_
 refine AL.nil (th_n (AC.seq (AC.region ?_)))
 refine AL.p (by exact mv1 rfl) rfl ?_
 refine AL.r (by exact h_funR (cs := []) en_sDrawExplore rfl rfl (by repeat (first | exact rfl | exact DLead.same | refine ⟨_, _, rfl, ?_, ?_⟩)) (by repeat (exact True.intro)) hL rfl rfl rfl) rfl ?_
 rintro _ ⟨_, _, ⟨s, hs, rfl, rfl⟩, rfl⟩
 refine AL.q (by exact h_store rfl rfl rfl rfl rfl rfl) rfl ?_
 refine AL.nil (th_n (AC.ret (bq_r ?_)))
 exact retX [] rfl ⟨s, hs, rfl, rfl⟩ (by repeat (first | exact DLead.same | exact rfl | refine ⟨_, rfl, ?_⟩ | refine ⟨_, _, rfl, ?_, ?_⟩)) (by repeat (exact True.intro)) rfl rfl
theorem en_sDrawUnsafe : Enters Tryz.prog 27 := enters_of Tryz.func27 rfl rfl
theorem sDrawDeadl_spec (code : List UInt8) : ASpec Tryz.prog 120 [.d (vB code)] [] RgE0 := by
 have hp0 : (cur0 code).pos = 0 := rfl
 have hA := anyReach_spec (cur0 code) (by omega)
 refine ASpec.of Tryz.func120 rfl rfl fun C hC => ?_
 refine AC.seq (AC.region ?_)
 refine AL.q (by exact h_alloc rfl) rfl ?_
 refine AL.nil (th_n (AC.seq (AC.region ?_)))
 refine AL.p (by exact mv1 rfl) rfl ?_
 refine AL.p (by exact g_build rfl rfl rfl) rfl ?_
 refine AL.q (by exact h_box rfl) rfl ?_
 refine AL.p (by exact as3 rfl) rfl ?_
 refine AL.nil (th_n (AC.seq (AC.region ?_)))
 refine AL.p (by exact mv3 rfl) rfl ?_
 refine AL.r (by exact h_funR (cs := [8]) en_anyReach rfl rfl (by repeat (first | exact rfl | refine ⟨_, _, rfl, ?_, ?_⟩ | refine ⟨_, rfl, ?_⟩)) (by repeat (first | exact True.intro | refine And.intro ?_ ?_ | exact DLead.same | exact rfl | refine ⟨_, _, rfl, rfl, ?_⟩ | refine ⟨_, rfl, ?_⟩ | refine ⟨_, _, rfl, ?_, ?_⟩)) hA rfl rfl rfl) rfl ?_
 rintro _ ⟨_, _, ⟨x, c', ⟨hx, hc'⟩, rfl, rfl⟩, rfl⟩
 refine AL.q (by exact h_store rfl rfl rfl rfl rfl rfl) rfl ?_
 refine AL.nil (th_n (AC.ret (bq_r ?_)))
 exact retX [] rfl ⟨x, hx, rfl, rfl⟩ (by repeat (first | exact DLead.same | exact rfl | refine ⟨_, rfl, ?_⟩ | refine ⟨_, _, rfl, ?_, ?_⟩)) (by repeat (exact True.intro)) rfl rfl
theorem en_sDrawDeadl : Enters Tryz.prog 120 := enters_of Tryz.func120 rfl rfl
theorem sDrawHome_spec (code : List UInt8) : ASpec Tryz.prog 29 [.d (vB code)] [] RgE0 := by
 have hA := sDrawDeadl_spec code
 refine ASpec.of Tryz.func29 rfl rfl fun C hC => ?_
 refine AC.seq (AC.region ?_)
 refine AL.q (by exact h_alloc rfl) rfl ?_
 refine AL.nil (th_n (AC.seq (AC.region ?_)))
 refine AL.p (by exact mv1 rfl) rfl ?_
 refine AL.r (by exact h_funR (cs := []) en_sDrawDeadl rfl rfl (by repeat (first | exact rfl | exact DLead.same | refine ⟨_, _, rfl, ?_, ?_⟩)) (by repeat (exact True.intro)) hA rfl rfl rfl) rfl ?_
 rintro _ ⟨_, _, ⟨x, hx, rfl, rfl⟩, rfl⟩
 refine AL.q (by exact h_store rfl rfl rfl rfl rfl rfl) rfl ?_
 refine AL.nil (th_n (AC.ret (bq_r ?_)))
 exact retX [] rfl ⟨x, hx, rfl, rfl⟩ (by repeat (first | exact DLead.same | exact rfl | refine ⟨_, rfl, ?_⟩ | refine ⟨_, _, rfl, ?_, ?_⟩)) (by repeat (exact True.intro)) rfl rfl
theorem en_sDrawHome : Enters Tryz.prog 29 := enters_of Tryz.func29 rfl rfl
theorem getD_bd {l : List Int} {lo hi : Int} (h : ∀ x, x ∈ l → lo ≤ x ∧ x ≤ hi) (h0 : lo ≤ 0 ∧ 0 ≤ hi) (i : Nat) : lo ≤ l.getD i 0 ∧ l.getD i 0 ≤ hi := by
 rw [List.getD_eq_getElem?_getD]
 cases e : l[i]? with
 | none => exact h0
 | some x => exact h x (List.mem_of_getElem? e)
theorem sDrawCount_spec (code : List UInt8) : ASpec Tryz.prog 37 [.d (vB code)] [] RgN := by
 have hp0 : (cur0 code).pos = 0 := rfl
 have hA := anyReach_spec (cur0 code) (by omega)
 refine ASpec.of Tryz.func37 rfl rfl fun C hC => ?_
 refine AC.seq (AC.region ?_)
 refine AL.q (by exact h_alloc rfl) rfl ?_
 refine AL.p (by exact as1 rfl) rfl ?_
 refine AL.nil (th_n (AC.seq (AC.region ?_)))
 refine AL.p (by exact mv1 rfl) rfl ?_
 refine AL.p (by exact g_build rfl rfl rfl) rfl ?_
 refine AL.q (by exact h_box rfl) rfl ?_
 refine AL.p (by exact as3 rfl) rfl ?_
 refine AL.nil (th_n (AC.seq (AC.region ?_)))
 refine AL.p (by exact mv3 rfl) rfl ?_
 refine AL.r (by exact h_funR (cs := [8]) en_anyReach rfl rfl (by repeat (first | exact rfl | refine ⟨_, _, rfl, ?_, ?_⟩ | refine ⟨_, rfl, ?_⟩)) (by repeat (first | exact True.intro | refine And.intro ?_ ?_ | exact DLead.same | exact rfl | refine ⟨_, _, rfl, rfl, ?_⟩ | refine ⟨_, rfl, ?_⟩ | refine ⟨_, _, rfl, ?_, ?_⟩)) hA rfl rfl rfl) rfl ?_
 rintro _ ⟨_, _, ⟨x, c', ⟨hx, hc'⟩, rfl, rfl⟩, rfl⟩
 obtain ⟨L, hL⟩ : ∃ L : List Int, L = [0, 1, 2, 5, 12, 13, -1] := ⟨_, rfl⟩
 have hK := among_spec c' L (by rw [hL]; decide) (by rw [hL]; decide) (by omega)
 have hb := getD_bd (l := L) (lo := -1) (hi := 13) (by rw [hL]; decide) (by decide) (c'.pick L.length).1.toNat
 obtain ⟨k, hkk⟩ : ∃ k, k = L.getD (c'.pick L.length).1.toNat 0 := ⟨_, rfl⟩
 rw [← hkk] at hK hb
 rw [hL] at hK
 refine AL.p (by exact mv3 rfl) rfl ?_
 refine AL.q (by exact h_litF rfl rfl rfl rfl rfl rfl rfl rfl) rfl ?_
 refine AL.q (by exact h_fun (cs := [8]) en_among rfl rfl (by repeat (first | exact rfl | exact DLead.same | refine ⟨_, _, rfl, ?_, ?_⟩ | refine ⟨_, rfl, ?_⟩)) (by repeat (first | exact True.intro | refine And.intro ?_ ?_ | exact DLead.same | exact rfl | refine ⟨_, _, rfl, rfl, ?_⟩ | refine ⟨_, rfl, ?_⟩ | refine ⟨_, _, rfl, ?_, ?_⟩)) hK rfl rfl rfl rfl) rfl ?_
 refine AL.q (by exact h_store rfl rfl rfl rfl rfl rfl) rfl ?_
 refine AL.p (by exact as1 rfl) rfl ?_
 refine AL.nil (th_n (AC.ret (bq_r ?_)))
 exact retX [] rfl ⟨x, k, ⟨hx, by omega, by omega⟩, rfl, rfl⟩ (by repeat (first | exact DLead.same | exact rfl | refine ⟨_, rfl, ?_⟩ | refine ⟨_, _, rfl, ?_, ?_⟩)) (by repeat (exact True.intro)) rfl rfl
theorem en_sDrawCount : Enters Tryz.prog 37 := enters_of Tryz.func37 rfl rfl
set_option maxHeartbeats 8000000 in
theorem sDrawMarkIdx_spec (code : List UInt8) : ASpec Tryz.prog 40 [.d (vB code)] [] RgTE := by
 have hp0 : (cur0 code).pos = 0 := rfl
 have hA := anyReach_spec (cur0 code) (by omega)
 refine ASpec.of Tryz.func40 rfl rfl fun C hC => ?_
 refine AC.seq (AC.region ?_)
 refine AL.q (by exact h_alloc rfl) rfl ?_
 refine AL.p (by exact as1 rfl) rfl ?_
 refine AL.nil (th_n (AC.seq (AC.region ?_)))
 refine AL.p (by exact mv1 rfl) rfl ?_
 refine AL.p (by exact g_build rfl rfl rfl) rfl ?_
 refine AL.q (by exact h_box rfl) rfl ?_
 refine AL.p (by exact as3 rfl) rfl ?_
 refine AL.nil (th_n (AC.seq (AC.region ?_)))
 refine AL.p (by exact mv3 rfl) rfl ?_
 refine AL.r (by exact h_funR (cs := [8]) en_anyReach rfl rfl (by repeat (first | exact rfl | refine ⟨_, _, rfl, ?_, ?_⟩ | refine ⟨_, rfl, ?_⟩)) (by repeat (first | exact True.intro | refine And.intro ?_ ?_ | exact DLead.same | exact rfl | refine ⟨_, _, rfl, rfl, ?_⟩ | refine ⟨_, rfl, ?_⟩ | refine ⟨_, _, rfl, ?_, ?_⟩)) hA rfl rfl rfl) rfl ?_
 rintro _ ⟨_, _, ⟨x, c', ⟨hx, hc'⟩, rfl, rfl⟩, rfl⟩
 refine AL.q (by exact h_alloc rfl) rfl ?_
 refine AL.q (by exact h_store rfl rfl rfl rfl rfl rfl) rfl ?_
 refine AL.nil (th_n (AC.seq (AC.seq ?_)))
 refine AC.weak (t := ⟨34, 300, [(2, .ptr 201 0), (4, .ptr 202 0), (5, .ptr 200 0)], [(201, some (.cells 35 zRG)), (202, some (curC c')), (200, some (.cells 35 (rgC x)))]⟩) (Weak.ren _ [(201, _), (202, _), (200, _)] hC rfl (by repeat (first | exact True.intro | refine And.intro ?_ ?_ | exact rfl | refine ⟨_, rfl, ?_⟩)) (by repeat (first | exact True.intro | refine And.intro ?_ ?_ | exact DLead.same | exact rfl | refine ⟨_, _, rfl, rfl, ?_⟩ | refine ⟨_, rfl, ?_⟩ | refine ⟨_, _, rfl, ?_, ?_⟩)) rfl rfl rfl) ?_
 have hxn := hx.n
 have hO := one_spec c' 4 (by decide) (by omega)
 have hOp := c'.pick_pos 4
 obtain ⟨b, hb⟩ : ∃ b, b = decide ((c'.pick 4).1 = 0) := ⟨_, rfl⟩
 obtain ⟨d, hd⟩ : ∃ d, d = (c'.pick 4).2 := ⟨_, rfl⟩
 rw [← hb, ← hd] at hO
 rw [← hd] at hOp
 clear hb hd
 refine AC.region ?_
 refine AL.p (by exact g_fa_ptr rfl rfl rfl rfl rfl) rfl ?_
 refine AL.p (by exact g_load_ptr rfl rfl rfl rfl rfl) rfl ?_
 refine AL.p (by exact g_len_view (k := x.marks.length) rfl rfl (tsX_len _)) rfl ?_
 refine AL.p (by exact g_cmp rfl rfl rfl) rfl ?_
 refine AL.p (by exact mv1 rfl) rfl ?_
 refine AL.caseG rfl rfl (fun h0 => ?_) (fun h0 => ?_)
 ·refine AL.yes rfl rfl rfl ?_
  refine AL.p (by exact mv3 rfl) rfl ?_
  refine AL.yes rfl rfl rfl ?_
  refine AL.q (by exact h_fun (cs := [202]) en_one rfl rfl (by repeat (first | exact rfl | exact DLead.same | refine ⟨_, _, rfl, ?_, ?_⟩ | refine ⟨_, rfl, ?_⟩)) (by repeat (first | exact True.intro | refine And.intro ?_ ?_ | exact DLead.same | exact rfl | refine ⟨_, _, rfl, rfl, ?_⟩ | refine ⟨_, rfl, ?_⟩ | refine ⟨_, _, rfl, ?_, ?_⟩)) hO rfl rfl rfl rfl) rfl ?_
  refine AL.yes rfl rfl rfl ?_
  refine AL.p (by exact g_not rfl) rfl ?_
  refine AL.p (by exact g_pickT (r := .d _) rfl rfl) rfl ?_
  refine AL.nil (th_n ?_)
  refine AC.condB rfl (fun h1 => ?_) (fun h1 => ?_)
  ·refine AC.seq ?_
   have h0l : 0 < x.marks.length := by omega
   have hK := pick_spec d (x.marks.length : Int) (by omega) (by omega)
   have hKi := d.pick_in (x.marks.length : Int) (by omega)
   obtain ⟨q, hq⟩ : ∃ q, q = d.pick (x.marks.length : Int) := ⟨_, rfl⟩
   rw [← hq] at hK hKi
   obtain ⟨i, hi⟩ : ∃ i : Nat, q.1 = (i : Int) := ⟨q.1.toNat, by omega⟩
   rw [hi] at hK
   have hget := tsX_get (l := x.marks) (k := i) (by omega)
   refine AC.drawn' mixed_ok [[], [], [1], [], [], [4], [4,5], [3,4,5,6], [1,2,3,4,5,6,7], [1,2,3,4,5,6,7,8], [0,3,4,5,6,7], [0,1,2,3,4,5,6,7,8,9,10]] (by decide) ?_
   refine DF.op 0 [] 12 rfl rfl rfl (.free rfl (NOp.of (by exact g_load_ptrN rfl rfl rfl rfl rfl))) rfl ?_
   refine DF.op 1 [] 12 rfl rfl rfl (.free rfl (NOp.of (by exact g_fa_ptr rfl rfl rfl rfl rfl))) rfl ?_
   refine DF.op 2 [1] 12 rfl rfl rfl (.free rfl (NOp.of (by exact g_load_ptr rfl rfl rfl rfl rfl))) rfl ?_
   refine DF.op 3 [] 12 rfl rfl rfl (.free rfl (NOp.of (by exact mv3 rfl))) rfl ?_
   refine DF.op 4 [] 12 rfl rfl rfl (.free rfl (NOp.of (by exact g_fa_ptr rfl rfl rfl rfl rfl))) rfl ?_
   refine DF.op 5 [4] 12 rfl rfl rfl (.free rfl (NOp.of (by exact g_load_ptr rfl rfl rfl rfl rfl))) rfl ?_
   refine DF.op 6 [4,5] 12 rfl rfl rfl (.free rfl (NOp.of (by exact g_len_view (k := x.marks.length) rfl rfl (tsX_len _)))) rfl ?_
   refine DF.op 7 [3,4,5,6] 12 rfl rfl rfl (.free rfl (by exact h_fun (cs := [202]) en_pick rfl rfl (by repeat (first | exact rfl | exact DLead.same | refine ⟨_, _, rfl, ?_, ?_⟩ | refine ⟨_, rfl, ?_⟩)) (by repeat (first | exact True.intro | refine And.intro ?_ ?_ | exact DLead.same | exact rfl | refine ⟨_, _, rfl, rfl, ?_⟩ | refine ⟨_, rfl, ?_⟩ | refine ⟨_, _, rfl, ?_, ?_⟩)) hK rfl rfl rfl rfl)) rfl ?_
   refine DF.op 8 [1,2,3,4,5,6,7] 12 rfl rfl rfl (.free rfl (NOp.of (by exact g_ia_view (i := i) rfl rfl rfl rfl rfl rfl hget))) rfl ?_
   refine DF.op 9 [1,2,3,4,5,6,7,8] 12 rfl rfl rfl (.free rfl (NOp.of (by exact g_load_ref rfl rfl rfl))) rfl ?_
   refine DF.op 10 [0,3,4,5,6,7] 12 rfl rfl rfl (.free rfl (by exact h_store rfl rfl rfl rfl rfl rfl)) rfl ?_
   refine DF.op 11 (List.range 11) 12 rfl rfl rfl (.free rfl (NOp.of (by exact as1 rfl))) rfl ?_
   refine DF.fin (ps := [(0,1),(0,2),(0,3),(0,4),(0,5),(0,6),(0,7),(0,8),(0,9),(1,0),(1,3),(1,4),(1,5),(1,6),(1,7),(1,10),(2,0),(2,3),(2,4),(2,5),(2,6),(2,7),(2,10),(3,0),(3,1),(3,2),(3,4),(3,5),(3,6),(4,0),(4,1),(4,2),(4,3),(5,0),(5,1),(5,2),(5,3),(6,0),(6,1),(6,2),(6,3),(7,0),(7,1),(7,2),(8,0),(8,10),(9,0),(9,10),(10,1),(10,2),(10,8),(10,9)]) 12 rfl (by decide +kernel) (by decide +kernel) (by rfl) ?_
   refine th_n (AC.ret (th_r (bq_r ?_)))
   exact retX [] rfl ⟨x, _, hx, rfl, rfl⟩ (by repeat (first | exact DLead.same | exact rfl | refine ⟨_, rfl, ?_⟩ | refine ⟨_, _, rfl, ?_, ?_⟩)) (by repeat (exact True.intro)) rfl rfl
  ·refine AC.skip (th_n (AC.seq ?_))
   refine AC.drawn' mixed_ok [[], [], [], [1,2], [0,1,2,3], [0,1,2,3,4]] (by decide) ?_
   refine DF.op 0 [] 6 rfl rfl rfl (.free rfl (NOp.of (by exact g_load_ptrN rfl rfl rfl rfl rfl))) rfl ?_
   refine DF.op 1 [] 6 rfl rfl rfl (.free rfl (NOp.of (by exact mv3 rfl))) rfl ?_
   refine DF.op 2 [] 6 rfl rfl rfl (.free rfl (by exact h_litF rfl rfl rfl rfl rfl rfl rfl rfl)) rfl ?_
   refine DF.op 3 [1,2] 6 rfl rfl rfl (.free rfl (by exact h_fun (cs := [202]) en_of rfl rfl (by repeat (first | exact rfl | exact DLead.same | refine ⟨_, _, rfl, ?_, ?_⟩ | refine ⟨_, rfl, ?_⟩)) (by repeat (first | exact True.intro | refine And.intro ?_ ?_ | exact DLead.same | exact rfl | refine ⟨_, _, rfl, rfl, ?_⟩ | refine ⟨_, rfl, ?_⟩ | refine ⟨_, _, rfl, ?_, ?_⟩)) (of_any _ [[], [49], [48, 48, 48, 48]] (by decide) (by decide) (by omega)) rfl rfl rfl rfl)) rfl ?_
   refine DF.op 4 [0,1,2,3] 6 rfl rfl rfl (.free rfl (by exact h_store rfl rfl rfl rfl rfl rfl)) rfl ?_
   refine DF.op 5 [0,1,2,3,4] 6 rfl rfl rfl (.free rfl (NOp.of (by exact as1 rfl))) rfl ?_
   refine DF.fin (ps := [(0,1),(0,2),(0,3),(1,0),(1,2),(2,0),(2,1),(3,0)]) 6 rfl (by decide +kernel) (by decide +kernel) (by rfl) ?_
   refine th_n (AC.ret (bq_r ?_))
   exact retX [] rfl ⟨x, _, hx, rfl, rfl⟩ (by repeat (first | exact DLead.same | exact rfl | refine ⟨_, rfl, ?_⟩ | refine ⟨_, _, rfl, ?_, ?_⟩)) (by repeat (exact True.intro)) rfl rfl
 ·refine AL.not rfl rfl rfl rfl rfl ?_
  refine AL.not rfl rfl rfl rfl rfl ?_
  refine AL.not rfl rfl rfl rfl rfl ?_
  refine AL.p (by exact g_pickF (r := .d _) rfl rfl) rfl ?_
  refine AL.nil (th_n ?_)
  refine AC.condF rfl ?_
  refine AC.skip (th_n (AC.seq ?_))
  refine AC.drawn' mixed_ok [[], [], [], [1,2], [0,1,2,3], [0,1,2,3,4]] (by decide) ?_
  refine DF.op 0 [] 6 rfl rfl rfl (.free rfl (NOp.of (by exact g_load_ptrN rfl rfl rfl rfl rfl))) rfl ?_
  refine DF.op 1 [] 6 rfl rfl rfl (.free rfl (NOp.of (by exact mv3 rfl))) rfl ?_
  refine DF.op 2 [] 6 rfl rfl rfl (.free rfl (by exact h_litF rfl rfl rfl rfl rfl rfl rfl rfl)) rfl ?_
  refine DF.op 3 [1,2] 6 rfl rfl rfl (.free rfl (by exact h_fun (cs := [202]) en_of rfl rfl (by repeat (first | exact rfl | exact DLead.same | refine ⟨_, _, rfl, ?_, ?_⟩ | refine ⟨_, rfl, ?_⟩)) (by repeat (first | exact True.intro | refine And.intro ?_ ?_ | exact DLead.same | exact rfl | refine ⟨_, _, rfl, rfl, ?_⟩ | refine ⟨_, rfl, ?_⟩ | refine ⟨_, _, rfl, ?_, ?_⟩)) (of_any _ [[], [49], [48, 48, 48, 48]] (by decide) (by decide) (by omega)) rfl rfl rfl rfl)) rfl ?_
  refine DF.op 4 [0,1,2,3] 6 rfl rfl rfl (.free rfl (by exact h_store rfl rfl rfl rfl rfl rfl)) rfl ?_
  refine DF.op 5 [0,1,2,3,4] 6 rfl rfl rfl (.free rfl (NOp.of (by exact as1 rfl))) rfl ?_
  refine DF.fin (ps := [(0,1),(0,2),(0,3),(1,0),(1,2),(2,0),(2,1),(3,0)]) 6 rfl (by decide +kernel) (by decide +kernel) (by rfl) ?_
  refine th_n (AC.ret (bq_r ?_))
  exact retX [] rfl ⟨x, _, hx, rfl, rfl⟩ (by repeat (first | exact DLead.same | exact rfl | refine ⟨_, rfl, ?_⟩ | refine ⟨_, _, rfl, ?_, ?_⟩)) (by repeat (exact True.intro)) rfl rfl
theorem en_sDrawMarkIdx : Enters Tryz.prog 40 := enters_of Tryz.func40 rfl rfl
set_option maxHeartbeats 8000000 in
theorem sDrawDeadT_spec (code : List UInt8) : ASpec Tryz.prog 34 [.d (vB code)] [] StRgE := by
 have hp0 : (cur0 code).pos = 0 := rfl
 have hA := anyStg_spec (cur0 code) (by omega)
 have hi := anyI_in (cur0 code)
 obtain ⟨A, hAA⟩ : ∃ A, A = anyI (cur0 code) := ⟨_, rfl⟩
 rw [← hAA] at hA hi
 have hE := sExplore_spec A.1 hi.1.B
 have hEi := explS_in A.1
 obtain ⟨X, hX⟩ : ∃ X, X = explS A.1 := ⟨_, rfl⟩
 rw [← hX] at hE hEi
 obtain ⟨⟨M, V⟩, ok⟩ := X
 dsimp only at hE hEi
 have hO := one_spec A.2 4 (by decide) (by omega)
 have hOp := A.2.pick_pos 4
 obtain ⟨b, hb⟩ : ∃ b, b = decide ((A.2.pick 4).1 = 0) := ⟨_, rfl⟩
 obtain ⟨d, hd⟩ : ∃ d, d = (A.2.pick 4).2 := ⟨_, rfl⟩
 rw [← hb, ← hd] at hO
 rw [← hd] at hOp
 clear hAA hX hb hd
 refine ASpec.of Tryz.func34 rfl rfl fun C hC => ?_
 refine AC.seq (AC.region ?_)
 refine AL.q (by exact h_alloc rfl) rfl ?_
 refine AL.q (by exact h_alloc rfl) rfl ?_
 refine AL.nil (th_n (AC.seq (AC.region ?_)))
 refine AL.p (by exact mv1 rfl) rfl ?_
 refine AL.p (by exact g_build rfl rfl rfl) rfl ?_
 refine AL.q (by exact h_box rfl) rfl ?_
 refine AL.p (by exact as3 rfl) rfl ?_
 refine AL.nil (th_n (AC.seq (AC.region ?_)))
 refine AL.p (by exact mv3 rfl) rfl ?_
 refine AL.q (by exact h_fun (cs := [16]) en_anyStg rfl rfl (by repeat (first | exact rfl | refine ⟨_, _, rfl, ?_, ?_⟩ | refine ⟨_, rfl, ?_⟩)) (by repeat (first | exact True.intro | refine And.intro ?_ ?_ | exact DLead.same | exact rfl | refine ⟨_, _, rfl, rfl, ?_⟩ | refine ⟨_, rfl, ?_⟩ | refine ⟨_, _, rfl, ?_, ?_⟩)) hA rfl rfl rfl rfl) rfl ?_
 refine AL.weak (Weak.freezeA (i := 12) (k := 2) rfl rfl rfl (ownl _ _) (ownt _ _)) ?_
 refine AL.q (by exact h_alloc rfl) rfl ?_
 refine AL.q (by exact h_store rfl rfl rfl rfl rfl rfl) rfl ?_
 refine AL.nil (th_n (AC.seq ?_))
 refine AC.weak (t := ⟨29, 250, [(2, .ptr 201 0), (3, .ptr 203 0), (4, .ptr 202 0), (5, .ptr 204 0)], [(201, some (.cells 30 zStg)), (203, some (.cells 35 zRG)), (202, some (curC A.2)), (204, some (.cells 30 [aI A.1.net.places, .d (vTs A.1.net.ts), .d (vSigs A.1.sigs), .d (vLabs A.1.labs), aS (bstr A.1.start)]))]⟩) (Weak.ren _ [(201, 0), (203, 8), (202, 16), (204, _)] hC rfl (by repeat (first | exact True.intro | refine And.intro ?_ ?_ | exact rfl | refine ⟨_, rfl, ?_⟩)) (by repeat (first | exact True.intro | refine And.intro ?_ ?_ | exact DLead.same | exact rfl | refine ⟨_, _, rfl, rfl, ?_⟩ | refine ⟨_, rfl, ?_⟩ | refine ⟨_, _, rfl, ?_, ?_⟩)) rfl rfl rfl) ?_
 refine AC.region ?_
 refine AL.p (by exact g_load_ptrN rfl rfl rfl rfl rfl) rfl ?_
 refine AL.q (by exact h_fun (cs := []) en_sExplore rfl rfl (by repeat (first | exact rfl | exact DLead.same | refine ⟨_, _, rfl, ?_, ?_⟩ | refine ⟨_, rfl, ?_⟩)) (by repeat (exact True.intro)) hE rfl rfl rfl rfl) rfl ?_
 refine AL.p (by exact mv5 rfl) rfl ?_
 refine AL.p (by exact g_extract (r := .agg _) rfl rfl) rfl ?_
 refine AL.p (by exact g_extract (r := .d _) rfl rfl) rfl ?_
 refine AL.q (by exact h_alloc rfl) rfl ?_
 refine AL.q (by exact h_store rfl rfl rfl rfl rfl rfl) rfl ?_
 refine AL.p (by exact as1 rfl) rfl ?_
 refine AL.nil (th_n (AC.seq ?_))
 refine AC.cut (fun (z : Bool × Cur) => ⟨29, 600, [(2, .ptr 201 0), (3, .ptr 203 0), (4, .ptr 202 0), (5, .ptr 204 0), (6, .ptr 200 0), (23, aT z.1)], [(201, some (.cells 30 zStg)), (203, some (.cells 35 zRG)), (202, some (curC z.2)), (204, some (.cells 30 [aI A.1.net.places, .d (vTs A.1.net.ts), .d (vSigs A.1.sigs), .d (vLabs A.1.labs), aS (bstr A.1.start)])), (200, some (.cells 35 [.own 101 M.length, .own 102 V.length])), (101, some (.arr 9 1 (tsX M))), (102, some (.arr 52 3 (mvL V)))]⟩) (fun z => z.2.pos ≤ 1000) ?_ ?_
 ·refine AC.weak (t := ⟨29, 400, [(2, .ptr 201 0), (3, .ptr 203 0), (4, .ptr 202 0), (5, .ptr 204 0), (6, .ptr 200 0), (7, aT ok)], [(201, some (.cells 30 zStg)), (203, some (.cells 35 zRG)), (202, some (curC A.2)), (204, some (.cells 30 [aI A.1.net.places, .d (vTs A.1.net.ts), .d (vSigs A.1.sigs), .d (vLabs A.1.labs), aS (bstr A.1.start)])), (200, some (.cells 35 [.own 101 M.length, .own 102 V.length])), (101, some (.arr 9 1 (tsX M))), (102, some (.arr 52 3 (mvL V)))]⟩) (Weak.ren _ [(201, 201), (203, 203), (202, 202), (204, 204), (200, _), (101, _), (102, _)] hC rfl (by repeat (first | exact True.intro | refine And.intro ?_ ?_ | exact DLead.same | exact rfl | refine ⟨_, rfl, ?_⟩)) (by repeat (first | exact True.intro | refine And.intro ?_ ?_ | exact DLead.same | exact rfl | refine ⟨_, _, rfl, rfl, ?_⟩ | refine ⟨_, rfl, ?_⟩ | refine ⟨_, _, rfl, ?_, ?_⟩)) rfl rfl rfl) ?_
  refine AC.region ?_
  refine AL.p (by exact mv1 rfl) rfl ?_
  refine AL.p (by exact g_not rfl) rfl ?_
  refine AL.p (by exact mv1 rfl) rfl ?_
  refine AL.caseGB rfl rfl (fun h0 => ?_) (fun h0 => ?_)
  ·refine AL.not rfl rfl rfl rfl rfl ?_
   refine AL.not rfl rfl rfl rfl rfl ?_
   refine AL.p (by exact g_pickT (r := .d _) rfl rfl) rfl ?_
   refine AL.nil (th_n ?_)
   (have hk := ‹(!ok) = true›; exact ⟨(true, A.2), by dsimp only; omega, Weak.ren _ [(201, 201), (203, 203), (202, 202), (204, 204), (200, 200), (101, 101), (102, 102)] hC rfl (by repeat (first | exact True.intro | refine And.intro ?_ ?_ | exact DLead.same | exact rfl | refine ⟨_, rfl, ?_⟩)) (by repeat (first | exact True.intro | refine And.intro ?_ ?_ | exact DLead.same | exact rfl | refine ⟨_, _, rfl, rfl, ?_⟩ | refine ⟨_, rfl, ?_⟩ | refine ⟨_, _, rfl, ?_, ?_⟩)) rfl rfl rfl⟩)
  ·refine AL.yes rfl rfl rfl ?_
   refine AL.p (by exact mv3 rfl) rfl ?_
   refine AL.yes rfl rfl rfl ?_
   refine AL.q (by exact h_fun (cs := [202]) en_one rfl rfl (by repeat (first | exact rfl | exact DLead.same | refine ⟨_, _, rfl, ?_, ?_⟩ | refine ⟨_, rfl, ?_⟩)) (by repeat (first | exact True.intro | refine And.intro ?_ ?_ | exact DLead.same | exact rfl | refine ⟨_, _, rfl, rfl, ?_⟩ | refine ⟨_, rfl, ?_⟩ | refine ⟨_, _, rfl, ?_, ?_⟩)) hO rfl rfl rfl rfl) rfl ?_
   refine AL.p (by exact g_pickF (r := .d _) rfl rfl) rfl ?_
   refine AL.nil (th_n ?_)
   (have hk := ‹(!ok) = false›; exact ⟨(b, d), by dsimp only; omega, Weak.ren _ [(201, 201), (203, 203), (202, 202), (204, 204), (200, 200), (101, 101), (102, 102)] hC rfl (by repeat (first | exact True.intro | refine And.intro ?_ ?_ | exact DLead.same | exact rfl | refine ⟨_, rfl, ?_⟩)) (by repeat (first | exact True.intro | refine And.intro ?_ ?_ | exact DLead.same | exact rfl | refine ⟨_, _, rfl, rfl, ?_⟩ | refine ⟨_, rfl, ?_⟩ | refine ⟨_, _, rfl, ?_, ?_⟩)) rfl rfl rfl⟩)
 ·rintro ⟨b2, e⟩ he
  dsimp only at he ⊢
  have hAR := anyReach_spec e (by omega)
  refine AC.condB rfl (fun h0 => ?_) (fun h0 => ?_)
  ·refine AC.seq ?_
   refine AC.drawnE mixed_ok [[], [], [1], [0,1,2], [0,1,2,3]] (by decide) ?_
   refine DE.op 0 [] 5 rfl rfl rfl (.free rfl (NOp.of (by exact g_load_ptrN rfl rfl rfl rfl rfl))) rfl ?_
   refine DE.op 1 [] 5 rfl rfl rfl (.free rfl (NOp.of (by exact mv3 rfl))) rfl ?_
   refine DE.opX 2 [1] 5 (⟨(⟨[], []⟩, A.2), ⟨Nat.zero_le _, Nat.zero_le _⟩⟩) rfl rfl rfl rfl (NOpR.ix (us := fun z : { p : Ex × Cur // ExS p.1 } => callU [202] _ (rgA z.1.1) [(0, curC z.1.2)]) (h_funR (cs := [202]) en_anyReach rfl rfl (by repeat (first | exact rfl | refine ⟨_, _, rfl, ?_, ?_⟩ | refine ⟨_, rfl, ?_⟩)) (by repeat (first | exact True.intro | refine And.intro ?_ ?_ | exact DLead.same | exact rfl | refine ⟨_, _, rfl, rfl, ?_⟩ | refine ⟨_, rfl, ?_⟩ | refine ⟨_, _, rfl, ?_, ?_⟩)) hAR rfl rfl rfl) (fun u hu => by obtain ⟨r, chs', ⟨x, c', ⟨hx, _⟩, e1, e2⟩, e3⟩ := hu; exact ⟨⟨(x, c'), hx⟩, by subst e1 e2 e3; rfl⟩)) rfl (by decide) ?_
   rintro ⟨⟨x, c'⟩, hx⟩
   refine DE.op 3 [0,1,2] 5 rfl rfl rfl (.free rfl (by exact h_store rfl rfl rfl rfl rfl rfl)) rfl ?_
   refine DE.op 4 [0,1,2,3] 5 rfl rfl rfl (.free rfl (by exact h_store rfl rfl rfl rfl rfl rfl)) rfl ?_
   refine DE.fin (ps := [(0,1),(0,2),(1,0),(2,0)]) 5 rfl rfl (by decide +kernel) (by decide +kernel) (by rfl) ?_
   refine th_n (AC.ret (th_r (bq_r ?_)))
   exact retX [] rfl ⟨A.1, x, ⟨hi.1, hx⟩, rfl, rfl⟩ (by repeat (first | exact DLead.same | exact rfl | refine ⟨_, rfl, ?_⟩ | refine ⟨_, _, rfl, ?_, ?_⟩)) (by repeat (exact True.intro)) rfl rfl
  ·refine AC.skip (th_n (AC.seq ?_))
   refine AC.weak (Weak.freezeP (els' := tsX M) 6 0 rfl rfl rfl rfl (by rw [tsX_len]; exact Nat.le_refl _) (List.take_of_length_le (by rw [tsX_len]; exact Nat.le_refl _)) rfl) ?_
   refine AC.weak (Weak.freezeP (els' := mvL V) 6 1 rfl rfl rfl rfl (by rw [mvL_len]; exact Nat.le_refl _) (List.take_of_length_le (by rw [mvL_len]; exact Nat.le_refl _)) rfl) ?_
   refine AC.drawn' mixed_ok [[], [], [0], [0,1,2]] (by decide) ?_
   refine DF.op 0 [] 4 rfl rfl rfl (.free rfl (NOp.of (by exact g_load_ptrN rfl rfl rfl rfl rfl))) rfl ?_
   refine DF.op 1 [] 4 rfl rfl rfl (.free rfl (NOp.of (by exact g_load_ptrN rfl rfl rfl rfl rfl))) rfl ?_
   refine DF.op 2 [0] 4 rfl rfl rfl (.free rfl (by exact h_store rfl rfl rfl rfl rfl rfl)) rfl ?_
   refine DF.op 3 [0,1,2] 4 rfl rfl rfl (.free rfl (by exact h_store rfl rfl rfl rfl rfl rfl)) rfl ?_
   refine DF.fin (ps := [(0,1),(1,0),(1,2),(2,1)]) 4 rfl (by decide +kernel) (by decide +kernel) (by rfl) ?_
   refine th_n (AC.ret (bq_r ?_))
   exact retX [] rfl ⟨A.1, ⟨M, V⟩, ⟨hi.1, ⟨by dsimp only; omega, by dsimp only; omega⟩⟩, rfl, rfl⟩ (by repeat (first | exact DLead.same | exact rfl | refine ⟨_, rfl, ?_⟩ | refine ⟨_, _, rfl, ?_, ?_⟩)) (by repeat (exact True.intro)) rfl rfl
theorem en_sDrawDeadT : Enters Tryz.prog 34 := enters_of Tryz.func34 rfl rfl
end Go.Proofs.YthafkkgmekgmoaaGreat
