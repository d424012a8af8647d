/- Contracts of the functions of the program and of the reference, each proved by a walk through its code. -/
import Derived.WalkKit
import Derived.WalkSpells
import Derived.WalkLawsBesides
import Derived.Deep.Draws
import Derived.Lib.Hide
import Derived.Maps.AppendAt
import Derived.OwnWalk
import Derived.Deep.MidRow
import Derived.Laws.ResultCell
import Derived.Deep.Upon
import Derived.Great.FillDense
import Derived.Laws.Tables
import Derived.Laws.BytesArg
import Derived.Laws.MakeOwn
import Derived.Great.BuildSlice
import Derived.ArgAppend
import Derived.Deep.AppendSrc
import Derived.Test.YthafkkgmekgmoaaGreatProg
import Derived.KernelRfl
import Derived.Orders
import Derived.Laws.IdiomStrings
import Derived.Lib.AppendZerosOnto
import Derived.ProofKit
import Derived.OpenShut
import Derived.Lib.SliceRun
import Derived.Laws.StructEq
import Derived.ChangeKeysEq
import Derived.Sort.Grow
import Derived.Laws.RangeString
import Derived.Below
import Derived.Laws.Small
import Derived.MapKept
import Derived.WideMake
import Derived.Laws.IdiomCopy
import Derived.Shelf.Bits.Mul64
import Derived.Test.YthafkkgmekgmoaaGreatRows
import Derived.Test.YthafkkgmekgmoaaGreatGCd10
set_option linter.all false
set_option maxRecDepth 20000
namespace Go.Proofs.YthafkkgmekgmoaaGreat
open Go.RowKit
def okS (s : Stg) : Bool := decide (1 ≤ s.net.ts.length) && decide (0 ≤ s.net.places) && decide (s.net.places ≤ 40) && decide (s.net.ts.length ≤ 13) && s.net.ts.all (fun t => decide (t.pre.length ≤ 4) && decide (t.post.length ≤ 4)) && decide (1 ≤ s.sigs.length) && decide (s.sigs.length ≤ 8) && s.sigs.all (fun x => decide (x.name.length ≤ 10)) && decide (1 ≤ s.labs.length) && decide (s.labs.length ≤ 20) && s.labs.all (fun x => decide (-10 ≤ x.sig) && decide (x.sig ≤ 10)) && decide (s.start.length ≤ 40)
structure StgS (s : Stg) : Prop where
 p : 0 ≤ s.net.places ∧ s.net.places ≤ 40
 tl : s.net.ts.length ≤ 13
 t : ∀ t, t ∈ s.net.ts → t.pre.length ≤ 4 ∧ t.post.length ≤ 4
 s0 : 1 ≤ s.sigs.length
 sl : s.sigs.length ≤ 8
 sn : ∀ x, x ∈ s.sigs → x.name.length ≤ 10
 ll : s.labs.length ≤ 20
 lb : ∀ x, x ∈ s.labs → -10 ≤ x.sig ∧ x.sig ≤ 10
 st : s.start.length ≤ 60
theorem okS_S {s : Stg} (h : okS s = true) : StgS s ∧ 1 ≤ s.labs.length ∧ s.start.length ≤ 40 := by
 simp only [okS, Bool.and_eq_true, decide_eq_true_eq, List.all_eq_true] at h
 obtain ⟨⟨⟨⟨⟨⟨⟨⟨⟨⟨⟨h0, h1⟩, h2⟩, h3⟩, h4⟩, h5⟩, h6⟩, h7⟩, h8⟩, h9⟩, h10⟩, h11⟩ := h
 exact ⟨⟨⟨h1, h2⟩, h3, h4, h5, h6, h7, h9, h10, by omega⟩, h8, h11⟩
theorem StgS.B {s : Stg} (h : StgS s) : StgB s := ⟨⟨by have := h.p; omega, by have := h.tl; omega, fun t ht => by have := h.t t ht; omega⟩, by have := h.sl; omega, fun t ht => by have := h.sn t ht; omega, by have := h.ll; omega, fun x hx => by have := h.lb x hx; omega, by have := h.st; omega⟩
def plS0 : Stg := buildS [97, 98] [99] [] [97, 43, 62, 99, 43, 32, 98, 43, 62, 99, 43, 32, 99, 43, 62, 97, 45, 32, 99, 43, 62, 98, 45, 32, 97, 45, 62, 99, 45, 32, 98, 45, 62, 99, 45, 32, 42, 99, 45, 62, 97, 43, 32, 42, 99, 45, 62, 98, 43]
theorem plS0_ok : okS plS0 = true := by decide +kernel
def plS1 : Stg := buildS [97] [98] [] [97, 43, 62, 98, 43, 32, 98, 43, 62, 97, 45, 32, 97, 45, 62, 98, 45, 32, 42, 98, 45, 62, 97, 43]
theorem plS1_ok : okS plS1 = true := by decide +kernel
def plS2 : Stg := buildS [114] [120, 121] [] [114, 43, 62, 120, 43, 32, 114, 43, 62, 121, 43, 32, 120, 43, 62, 114, 45, 32, 121, 43, 62, 114, 45, 32, 114, 45, 62, 120, 45, 32, 114, 45, 62, 121, 45, 32, 42, 120, 45, 62, 114, 43, 32, 42, 121, 45, 62, 114, 43]
theorem plS2_ok : okS plS2 = true := by decide +kernel
def plS3 : Stg := buildS [97, 100] [98, 99] [] [97, 43, 62, 98, 43, 32, 98, 43, 62, 100, 43, 32, 100, 43, 62, 99, 43, 32, 99, 43, 62, 97, 45, 32, 97, 45, 62, 98, 45, 32, 98, 45, 62, 100, 45, 32, 100, 45, 62, 99, 45, 32, 42, 99, 45, 62, 97, 43]
theorem plS3_ok : okS plS3 = true := by decide +kernel
def plS4 : Stg := buildS [97] [98] [120] [97, 43, 62, 120, 43, 32, 120, 43, 62, 98, 43, 32, 98, 43, 62, 97, 45, 32, 97, 45, 62, 120, 45, 32, 120, 45, 62, 98, 45, 32, 42, 98, 45, 62, 97, 43]
theorem plS4_ok : okS plS4 = true := by decide +kernel
def plS5 : Stg := buildS [97, 98] [99] [] [42, 95, 112, 62, 97, 43, 32, 95, 112, 62, 98, 43, 32, 97, 43, 62, 99, 43, 47, 49, 32, 99, 43, 47, 49, 62, 97, 45, 32, 97, 45, 62, 99, 45, 47, 49, 32, 99, 45, 47, 49, 62, 95, 112, 32, 98, 43, 62, 99, 43, 47, 50, 32, 99, 43, 47, 50, 62, 98, 45, 32, 98, 45, 62, 99, 45, 47, 50, 32, 99, 45, 47, 50, 62, 95, 112]
theorem plS5_ok : okS plS5 = true := by decide +kernel
def plS6 : Stg := buildS [97] [98] [] [97, 43, 62, 126, 32, 126, 62, 98, 43, 32, 98, 43, 62, 97, 45, 32, 97, 45, 62, 98, 45, 32, 42, 98, 45, 62, 97, 43]
theorem plS6_ok : okS plS6 = true := by decide +kernel
def grS0 : Stg := buildS [114] [120, 121] [] [42, 121, 45, 62, 114, 43, 32, 114, 43, 62, 120, 43, 32, 120, 43, 62, 120, 45, 32, 120, 45, 62, 121, 43, 32, 121, 43, 62, 114, 45, 32, 114, 45, 62, 121, 45]
theorem grS0_ok : okS grS0 = true := by decide +kernel
def grS1 : Stg := buildS [97] [98, 99] [] [42, 97, 45, 62, 97, 43, 32, 97, 43, 62, 95, 112, 32, 95, 112, 62, 98, 43, 32, 95, 112, 62, 99, 43, 32, 98, 43, 62, 98, 45, 32, 99, 43, 62, 99, 45, 32, 98, 45, 62, 95, 113, 32, 99, 45, 62, 95, 113, 32, 95, 113, 62, 97, 45]
theorem grS1_ok : okS grS1 = true := by decide +kernel
def grS2 : Stg := buildS [97] [98] [] [97, 43, 47, 49, 62, 98, 43, 32, 98, 43, 62, 97, 43, 47, 50, 32, 97, 43, 47, 50, 62, 98, 45, 32, 42, 98, 45, 62, 97, 43, 47, 49]
theorem grS2_ok : okS grS2 = true := by decide +kernel
def grS4 : Stg := buildS [97] [98] [] [42, 95, 112, 62, 97, 43, 32, 97, 43, 62, 98, 43, 32, 98, 43, 62, 95, 113]
theorem grS4_ok : okS grS4 = true := by decide +kernel
def twS0 : Stg := buildS [112] [113] [] [112, 43, 62, 113, 43, 32, 113, 43, 62, 112, 45, 32, 112, 45, 62, 113, 45, 32, 42, 113, 45, 62, 112, 43]
theorem twS0_ok : okS twS0 = true := by decide +kernel
def twS1 : Stg := buildS [97] [98] [] [97, 43, 62, 98, 43, 32, 98, 43, 62, 97, 45, 32, 97, 45, 62, 98, 45, 32, 42, 98, 45, 62, 97, 43]
theorem twS1_ok : okS twS1 = true := by decide +kernel
def grS3 : Stg := unionT twS0 twS1
theorem grS3_ok : okS grS3 = true := by decide +kernel
theorem twS_ok : (unionS twS0 twS1).2 = true := by decide +kernel
theorem twS_net : okS ⟨(unionR twS0.net twS1.net).1, twS0.sigs, twS0.labs, []⟩ = true := by decide +kernel
def plS (i : Int) : Stg := if i = 0 then plS0 else if i = 1 then plS1 else if i = 2 then plS2 else if i = 3 then plS3 else if i = 4 then plS4 else if i = 5 then plS5 else plS6
theorem plS_ok (i : Int) : okS (plS i) = true := by
 unfold plS
 split
 ·exact plS0_ok
 split
 ·exact plS1_ok
 split
 ·exact plS2_ok
 split
 ·exact plS3_ok
 split
 ·exact plS4_ok
 split
 ·exact plS5_ok
 exact plS6_ok
def stgI (c : Cur) : Stg × Cur := if (c.pick 9).1 = 0 then (grS0, (c.pick 9).2) else if (c.pick 9).1 = 1 then (grS1, (c.pick 9).2) else if (c.pick 9).1 = 2 then (grS2, (c.pick 9).2) else if (c.pick 9).1 = 3 then (grS3, (c.pick 9).2) else if (c.pick 9).1 = 4 then (grS4, (c.pick 9).2) else (plS ((c.pick 9).2.pick 7).1, ((c.pick 9).2.pick 7).2)
theorem stgI_in (c : Cur) : okS (stgI c).1 = true ∧ (stgI c).2.pos ≤ c.pos + 4 ∧ (stgI c).2.code = c.code := by
 have h1 := c.pick_pos 9
 have h2 := (c.pick 9).2.pick_pos 7
 have k1 := c.pick_code 9
 have k2 := (c.pick 9).2.pick_code 7
 unfold stgI
 split
 ·exact ⟨grS0_ok, by dsimp only; omega, k1⟩
 split
 ·exact ⟨grS1_ok, by dsimp only; omega, k1⟩
 split
 ·exact ⟨grS2_ok, by dsimp only; omega, k1⟩
 split
 ·exact ⟨grS3_ok, by dsimp only; omega, k1⟩
 split
 ·exact ⟨grS4_ok, by dsimp only; omega, k1⟩
 exact ⟨plS_ok _, by dsimp only; omega, k2.trans k1⟩
theorem plS0_spec : ASpec Tryz.prog 145 [aS (bstr [97, 98]), aS (bstr [99]), aS (bstr []), aS (bstr [97, 43, 62, 99, 43, 32, 98, 43, 62, 99, 43, 32, 99, 43, 62, 97, 45, 32, 99, 43, 62, 98, 45, 32, 97, 45, 62, 99, 45, 32, 98, 45, 62, 99, 45, 32, 42, 99, 45, 62, 97, 43, 32, 42, 99, 45, 62, 98, 43])] [] (Fun1 (stgO plS0 0 1 2) (stgChs plS0 0 1 2)) := l2Build_spec _ _ _ _ (by decide) (by decide) (by decide) (by decide) (by decide +kernel)
theorem plS1_spec : ASpec Tryz.prog 145 [aS (bstr [97]), aS (bstr [98]), aS (bstr []), aS (bstr [97, 43, 62, 98, 43, 32, 98, 43, 62, 97, 45, 32, 97, 45, 62, 98, 45, 32, 42, 98, 45, 62, 97, 43])] [] (Fun1 (stgO plS1 0 1 2) (stgChs plS1 0 1 2)) := l2Build_spec _ _ _ _ (by decide) (by decide) (by decide) (by decide) (by decide +kernel)
theorem plS2_spec : ASpec Tryz.prog 145 [aS (bstr [114]), aS (bstr [120, 121]), aS (bstr []), aS (bstr [114, 43, 62, 120, 43, 32, 114, 43, 62, 121, 43, 32, 120, 43, 62, 114, 45, 32, 121, 43, 62, 114, 45, 32, 114, 45, 62, 120, 45, 32, 114, 45, 62, 121, 45, 32, 42, 120, 45, 62, 114, 43, 32, 42, 121, 45, 62, 114, 43])] [] (Fun1 (stgO plS2 0 1 2) (stgChs plS2 0 1 2)) := l2Build_spec _ _ _ _ (by decide) (by decide) (by decide) (by decide) (by decide +kernel)
theorem plS3_spec : ASpec Tryz.prog 145 [aS (bstr [97, 100]), aS (bstr [98, 99]), aS (bstr []), aS (bstr [97, 43, 62, 98, 43, 32, 98, 43, 62, 100, 43, 32, 100, 43, 62, 99, 43, 32, 99, 43, 62, 97, 45, 32, 97, 45, 62, 98, 45, 32, 98, 45, 62, 100, 45, 32, 100, 45, 62, 99, 45, 32, 42, 99, 45, 62, 97, 43])] [] (Fun1 (stgO plS3 0 1 2) (stgChs plS3 0 1 2)) := l2Build_spec _ _ _ _ (by decide) (by decide) (by decide) (by decide) (by decide +kernel)
theorem plS4_spec : ASpec Tryz.prog 145 [aS (bstr [97]), aS (bstr [98]), aS (bstr [120]), aS (bstr [97, 43, 62, 120, 43, 32, 120, 43, 62, 98, 43, 32, 98, 43, 62, 97, 45, 32, 97, 45, 62, 120, 45, 32, 120, 45, 62, 98, 45, 32, 42, 98, 45, 62, 97, 43])] [] (Fun1 (stgO plS4 0 1 2) (stgChs plS4 0 1 2)) := l2Build_spec _ _ _ _ (by decide) (by decide) (by decide) (by decide) (by decide +kernel)
theorem plS5_spec : ASpec Tryz.prog 145 [aS (bstr [97, 98]), aS (bstr [99]), aS (bstr []), aS (bstr [42, 95, 112, 62, 97, 43, 32, 95, 112, 62, 98, 43, 32, 97, 43, 62, 99, 43, 47, 49, 32, 99, 43, 47, 49, 62, 97, 45, 32, 97, 45, 62, 99, 45, 47, 49, 32, 99, 45, 47, 49, 62, 95, 112, 32, 98, 43, 62, 99, 43, 47, 50, 32, 99, 43, 47, 50, 62, 98, 45, 32, 98, 45, 62, 99, 45, 47, 50, 32, 99, 45, 47, 50, 62, 95, 112])] [] (Fun1 (stgO plS5 0 1 2) (stgChs plS5 0 1 2)) := l2Build_spec _ _ _ _ (by decide) (by decide) (by decide) (by decide) (by decide +kernel)
theorem plS6_spec : ASpec Tryz.prog 145 [aS (bstr [97]), aS (bstr [98]), aS (bstr []), aS (bstr [97, 43, 62, 126, 32, 126, 62, 98, 43, 32, 98, 43, 62, 97, 45, 32, 97, 45, 62, 98, 45, 32, 42, 98, 45, 62, 97, 43])] [] (Fun1 (stgO plS6 0 1 2) (stgChs plS6 0 1 2)) := l2Build_spec _ _ _ _ (by decide) (by decide) (by decide) (by decide) (by decide +kernel)
theorem grS0_spec : ASpec Tryz.prog 145 [aS (bstr [114]), aS (bstr [120, 121]), aS (bstr []), aS (bstr [42, 121, 45, 62, 114, 43, 32, 114, 43, 62, 120, 43, 32, 120, 43, 62, 120, 45, 32, 120, 45, 62, 121, 43, 32, 121, 43, 62, 114, 45, 32, 114, 45, 62, 121, 45])] [] (Fun1 (stgO grS0 0 1 2) (stgChs grS0 0 1 2)) := l2Build_spec _ _ _ _ (by decide) (by decide) (by decide) (by decide) (by decide +kernel)
theorem grS1_spec : ASpec Tryz.prog 145 [aS (bstr [97]), aS (bstr [98, 99]), aS (bstr []), aS (bstr [42, 97, 45, 62, 97, 43, 32, 97, 43, 62, 95, 112, 32, 95, 112, 62, 98, 43, 32, 95, 112, 62, 99, 43, 32, 98, 43, 62, 98, 45, 32, 99, 43, 62, 99, 45, 32, 98, 45, 62, 95, 113, 32, 99, 45, 62, 95, 113, 32, 95, 113, 62, 97, 45])] [] (Fun1 (stgO grS1 0 1 2) (stgChs grS1 0 1 2)) := l2Build_spec _ _ _ _ (by decide) (by decide) (by decide) (by decide) (by decide +kernel)
theorem grS2_spec : ASpec Tryz.prog 145 [aS (bstr [97]), aS (bstr [98]), aS (bstr []), aS (bstr [97, 43, 47, 49, 62, 98, 43, 32, 98, 43, 62, 97, 43, 47, 50, 32, 97, 43, 47, 50, 62, 98, 45, 32, 42, 98, 45, 62, 97, 43, 47, 49])] [] (Fun1 (stgO grS2 0 1 2) (stgChs grS2 0 1 2)) := l2Build_spec _ _ _ _ (by decide) (by decide) (by decide) (by decide) (by decide +kernel)
theorem grS4_spec : ASpec Tryz.prog 145 [aS (bstr [97]), aS (bstr [98]), aS (bstr []), aS (bstr [42, 95, 112, 62, 97, 43, 32, 97, 43, 62, 98, 43, 32, 98, 43, 62, 95, 113])] [] (Fun1 (stgO grS4 0 1 2) (stgChs grS4 0 1 2)) := l2Build_spec _ _ _ _ (by decide) (by decide) (by decide) (by decide) (by decide +kernel)
theorem twS0_spec : ASpec Tryz.prog 145 [aS (bstr [112]), aS (bstr [113]), aS (bstr []), aS (bstr [112, 43, 62, 113, 43, 32, 113, 43, 62, 112, 45, 32, 112, 45, 62, 113, 45, 32, 42, 113, 45, 62, 112, 43])] [] (Fun1 (stgO twS0 0 1 2) (stgChs twS0 0 1 2)) := l2Build_spec _ _ _ _ (by decide) (by decide) (by decide) (by decide) (by decide +kernel)
theorem twS1_spec : ASpec Tryz.prog 145 [aS (bstr [97]), aS (bstr [98]), aS (bstr []), aS (bstr [97, 43, 62, 98, 43, 32, 98, 43, 62, 97, 45, 32, 97, 45, 62, 98, 45, 32, 42, 98, 45, 62, 97, 43])] [] (Fun1 (stgO twS1 0 1 2) (stgChs twS1 0 1 2)) := l2Build_spec _ _ _ _ (by decide) (by decide) (by decide) (by decide) (by decide +kernel)
set_option maxHeartbeats 4000000 in
theorem l2Plain_spec (c : Cur) (hp : c.pos ≤ 100000000) : ASpec Tryz.prog 241 [.ptr 0 0] [(0, curC c)] (Fun1 (stgO (plS (c.pick 7).1) 1 2 3) ((0, curC (c.pick 7).2) :: stgChs (plS (c.pick 7).1) 1 2 3)) := by
 have hK := pick_spec c 7 (by decide) (by omega)
 obtain ⟨p, hpp⟩ : ∃ p, p = c.pick 7 := ⟨_, rfl⟩
 rw [← hpp] at hK ⊢
 have hS : plS p.1 = if p.1 = 0 then plS0 else if p.1 = 1 then plS1 else if p.1 = 2 then plS2 else if p.1 = 3 then plS3 else if p.1 = 4 then plS4 else if p.1 = 5 then plS5 else plS6 := rfl
 obtain ⟨s, hs⟩ : ∃ s, s = plS p.1 := ⟨_, rfl⟩
 rw [← hs] at hS ⊢
 refine ASpec.of Tryz.func241 rfl rfl fun C hC => ?_
 refine AC.seq (AC.region ?_)
 refine AL.q (by exact h_alloc rfl) rfl ?_
 refine AL.nil (th_n (AC.seq (AC.seq (AC.region ?_))))
 refine AL.p (by exact mv3 rfl) rfl ?_
 refine AL.q (by exact h_fun (cs := [0]) en_pick rfl rfl (by repeat (first | exact rfl | exact DLead.same | refine ⟨_, _, rfl, ?_, ?_⟩ | refine ⟨_, rfl, ?_⟩)) (by repeat (first | exact True.intro | refine And.intro ?_ ?_ | exact DLead.same | exact rfl | refine ⟨_, _, rfl, rfl, ?_⟩ | refine ⟨_, rfl, ?_⟩ | refine ⟨_, _, rfl, ?_, ?_⟩)) hK rfl rfl rfl rfl) rfl ?_
 refine AL.nil (th_n (AC.block (AC.seq (AC.region ?_))))
 refine zc ?_
 refine za ?_
 refine AL.nil (th_n ?_)
 refine AC.condD rfl (fun h0 => ?_) (fun h0 => ?_)
 ·refine AC.seq (AC.region ?_)
  refine AL.q (by exact h_fun (cs := []) en_l2Build rfl rfl (by repeat (first | exact rfl | exact DLead.same | refine ⟨_, _, rfl, ?_, ?_⟩)) (by repeat (exact True.intro)) plS0_spec rfl rfl rfl rfl) rfl ?_
  refine zs ?_
  refine AL.nil (th_n (AC.ret (ib_r (th_r (bq_r ?_)))))
  have e : s = plS0 := by rw [hS, if_pos h0]
  exact retN [(1, _), (2, _), (3, _)] rfl (by rw [e]; repeat (first | exact rfl | exact DLead.same | refine ⟨_, _, rfl, ?_, ?_⟩ | refine ⟨_, rfl, ?_⟩)) (by rw [e]; repeat (first | exact True.intro | refine And.intro ?_ ?_ | exact DLead.same | exact rfl | refine ⟨_, _, rfl, rfl, ?_⟩ | refine ⟨_, rfl, ?_⟩ | refine ⟨_, _, rfl, ?_, ?_⟩)) rfl rfl
 ·refine AC.seq (AC.region ?_)
  refine zc ?_
  refine za ?_
  refine AL.nil (th_n ?_)
  refine AC.condD rfl (fun h1 => ?_) (fun h1 => ?_)
  ·refine AC.seq (AC.region ?_)
   refine AL.q (by exact h_fun (cs := []) en_l2Build rfl rfl (by repeat (first | exact rfl | exact DLead.same | refine ⟨_, _, rfl, ?_, ?_⟩)) (by repeat (exact True.intro)) plS1_spec rfl rfl rfl rfl) rfl ?_
   refine zs ?_
   refine AL.nil (th_n (AC.ret (ib_r (th_r (bq_r ?_)))))
   have e : s = plS1 := by rw [hS, if_neg h0, if_pos h1]
   exact retN [(1, _), (2, _), (3, _)] rfl (by rw [e]; repeat (first | exact rfl | exact DLead.same | refine ⟨_, _, rfl, ?_, ?_⟩ | refine ⟨_, rfl, ?_⟩)) (by rw [e]; repeat (first | exact True.intro | refine And.intro ?_ ?_ | exact DLead.same | exact rfl | refine ⟨_, _, rfl, rfl, ?_⟩ | refine ⟨_, rfl, ?_⟩ | refine ⟨_, _, rfl, ?_, ?_⟩)) rfl rfl
  ·refine AC.seq (AC.region ?_)
   refine zc ?_
   refine za ?_
   refine AL.nil (th_n ?_)
   refine AC.condD rfl (fun h2 => ?_) (fun h2 => ?_)
   ·refine AC.seq (AC.region ?_)
    refine AL.q (by exact h_fun (cs := []) en_l2Build rfl rfl (by repeat (first | exact rfl | exact DLead.same | refine ⟨_, _, rfl, ?_, ?_⟩)) (by repeat (exact True.intro)) plS2_spec rfl rfl rfl rfl) rfl ?_
    refine zs ?_
    refine AL.nil (th_n (AC.ret (ib_r (th_r (bq_r ?_)))))
    have e : s = plS2 := by rw [hS, if_neg h0, if_neg h1, if_pos h2]
    exact retN [(1, _), (2, _), (3, _)] rfl (by rw [e]; repeat (first | exact rfl | exact DLead.same | refine ⟨_, _, rfl, ?_, ?_⟩ | refine ⟨_, rfl, ?_⟩)) (by rw [e]; repeat (first | exact True.intro | refine And.intro ?_ ?_ | exact DLead.same | exact rfl | refine ⟨_, _, rfl, rfl, ?_⟩ | refine ⟨_, rfl, ?_⟩ | refine ⟨_, _, rfl, ?_, ?_⟩)) rfl rfl
   ·refine AC.seq (AC.region ?_)
    refine zc ?_
    refine za ?_
    refine AL.nil (th_n ?_)
    refine AC.condD rfl (fun h3 => ?_) (fun h3 => ?_)
    ·refine AC.seq (AC.region ?_)
     refine AL.q (by exact h_fun (cs := []) en_l2Build rfl rfl (by repeat (first | exact rfl | exact DLead.same | refine ⟨_, _, rfl, ?_, ?_⟩)) (by repeat (exact True.intro)) plS3_spec rfl rfl rfl rfl) rfl ?_
     refine zs ?_
     refine AL.nil (th_n (AC.ret (ib_r (th_r (bq_r ?_)))))
     have e : s = plS3 := by rw [hS, if_neg h0, if_neg h1, if_neg h2, if_pos h3]
     exact retN [(1, _), (2, _), (3, _)] rfl (by rw [e]; repeat (first | exact rfl | exact DLead.same | refine ⟨_, _, rfl, ?_, ?_⟩ | refine ⟨_, rfl, ?_⟩)) (by rw [e]; repeat (first | exact True.intro | refine And.intro ?_ ?_ | exact DLead.same | exact rfl | refine ⟨_, _, rfl, rfl, ?_⟩ | refine ⟨_, rfl, ?_⟩ | refine ⟨_, _, rfl, ?_, ?_⟩)) rfl rfl
    ·refine AC.seq (AC.region ?_)
     refine zc ?_
     refine za ?_
     refine AL.nil (th_n ?_)
     refine AC.condD rfl (fun h4 => ?_) (fun h4 => ?_)
     ·refine AC.seq (AC.region ?_)
      refine AL.q (by exact h_fun (cs := []) en_l2Build rfl rfl (by repeat (first | exact rfl | exact DLead.same | refine ⟨_, _, rfl, ?_, ?_⟩)) (by repeat (exact True.intro)) plS4_spec rfl rfl rfl rfl) rfl ?_
      refine zs ?_
      refine AL.nil (th_n (AC.ret (ib_r (th_r (bq_r ?_)))))
      have e : s = plS4 := by rw [hS, if_neg h0, if_neg h1, if_neg h2, if_neg h3, if_pos h4]
      exact retN [(1, _), (2, _), (3, _)] rfl (by rw [e]; repeat (first | exact rfl | exact DLead.same | refine ⟨_, _, rfl, ?_, ?_⟩ | refine ⟨_, rfl, ?_⟩)) (by rw [e]; repeat (first | exact True.intro | refine And.intro ?_ ?_ | exact DLead.same | exact rfl | refine ⟨_, _, rfl, rfl, ?_⟩ | refine ⟨_, rfl, ?_⟩ | refine ⟨_, _, rfl, ?_, ?_⟩)) rfl rfl
     ·refine AC.seq (AC.region ?_)
      refine zc ?_
      refine za ?_
      refine AL.nil (th_n ?_)
      refine AC.condD rfl (fun h5 => ?_) (fun h5 => ?_)
      ·refine AC.seq (AC.region ?_)
       refine AL.q (by exact h_fun (cs := []) en_l2Build rfl rfl (by repeat (first | exact rfl | exact DLead.same | refine ⟨_, _, rfl, ?_, ?_⟩)) (by repeat (exact True.intro)) plS5_spec rfl rfl rfl rfl) rfl ?_
       refine zs ?_
       refine AL.nil (th_n (AC.ret (ib_r (th_r (bq_r ?_)))))
       have e : s = plS5 := by rw [hS, if_neg h0, if_neg h1, if_neg h2, if_neg h3, if_neg h4, if_pos h5]
       exact retN [(1, _), (2, _), (3, _)] rfl (by rw [e]; repeat (first | exact rfl | exact DLead.same | refine ⟨_, _, rfl, ?_, ?_⟩ | refine ⟨_, rfl, ?_⟩)) (by rw [e]; repeat (first | exact True.intro | refine And.intro ?_ ?_ | exact DLead.same | exact rfl | refine ⟨_, _, rfl, rfl, ?_⟩ | refine ⟨_, rfl, ?_⟩ | refine ⟨_, _, rfl, ?_, ?_⟩)) rfl rfl
      ·refine AC.skip (ib_n (th_n (AC.seq (AC.region ?_))))
       refine AL.q (by exact h_fun (cs := []) en_l2Build rfl rfl (by repeat (first | exact rfl | exact DLead.same | refine ⟨_, _, rfl, ?_, ?_⟩)) (by repeat (exact True.intro)) plS6_spec rfl rfl rfl rfl) rfl ?_
       refine zs ?_
       refine AL.nil (th_n (AC.ret (bq_r ?_)))
       have e : s = plS6 := by rw [hS, if_neg h0, if_neg h1, if_neg h2, if_neg h3, if_neg h4, if_neg h5]
       exact retN [(1, _), (2, _), (3, _)] rfl (by rw [e]; repeat (first | exact rfl | exact DLead.same | refine ⟨_, _, rfl, ?_, ?_⟩ | refine ⟨_, rfl, ?_⟩)) (by rw [e]; repeat (first | exact True.intro | refine And.intro ?_ ?_ | exact DLead.same | exact rfl | refine ⟨_, _, rfl, rfl, ?_⟩ | refine ⟨_, rfl, ?_⟩ | refine ⟨_, _, rfl, ?_, ?_⟩)) rfl rfl
theorem en_l2Plain : Enters Tryz.prog 241 := enters_of Tryz.func241 rfl rfl
theorem twS_L : NetL (unionR twS0.net twS1.net).1 := ((okS_S twS_net).1.B.n).L
set_option maxHeartbeats 4000000 in
theorem stg_spec (c : Cur) (hp : c.pos ≤ 10000000) : ASpec Tryz.prog 191 [.ptr 0 0] [(0, curC c)] (Fun1 (stgQ (stgI c).1 1 2) [(0, curC (stgI c).2), (1, .arr 149 2 (sigsL (stgI c).1.sigs)), (2, .arr 156 2 (labsL (stgI c).1.labs))]) := by
 have hK := pick_spec c 9 (by decide) (by omega)
 have hpos := c.pick_pos 9
 have hS : stgI c = if (c.pick 9).1 = 0 then (grS0, (c.pick 9).2) else if (c.pick 9).1 = 1 then (grS1, (c.pick 9).2) else if (c.pick 9).1 = 2 then (grS2, (c.pick 9).2) else if (c.pick 9).1 = 3 then (grS3, (c.pick 9).2) else if (c.pick 9).1 = 4 then (grS4, (c.pick 9).2) else (plS ((c.pick 9).2.pick 7).1, ((c.pick 9).2.pick 7).2) := rfl
 obtain ⟨p, hpp⟩ : ∃ p, p = c.pick 9 := ⟨_, rfl⟩
 rw [← hpp] at hK hS hpos
 have hP := l2Plain_spec p.2 (by omega)
 obtain ⟨pp, hpq⟩ : ∃ pp, pp = plS (p.2.pick 7).1 := ⟨_, rfl⟩
 rw [← hpq] at hP hS
 obtain ⟨s, hs⟩ : ∃ s, s = stgI c := ⟨_, rfl⟩
 rw [← hs] at hS ⊢
 have hU := sUnionSTGs_own twS0 twS1 (okS_S twS0_ok).1.B (okS_S twS1_ok).1.B twS_L twS_ok
 rw [show unionT twS0 twS1 = grS3 from rfl] at hU
 refine ASpec.of Tryz.func191 rfl rfl fun C hC => ?_
 refine AC.seq (AC.region ?_)
 refine AL.q (by exact h_alloc rfl) rfl ?_
 refine AL.nil (th_n (AC.seq (AC.seq (AC.region ?_))))
 refine AL.p (by exact mv3 rfl) rfl ?_
 refine AL.q (by exact h_fun (cs := [0]) en_pick rfl rfl (by repeat (first | exact rfl | exact DLead.same | refine ⟨_, _, rfl, ?_, ?_⟩ | refine ⟨_, rfl, ?_⟩)) (by repeat (first | exact True.intro | refine And.intro ?_ ?_ | exact DLead.same | exact rfl | refine ⟨_, _, rfl, rfl, ?_⟩ | refine ⟨_, rfl, ?_⟩ | refine ⟨_, _, rfl, ?_, ?_⟩)) hK rfl rfl rfl rfl) rfl ?_
 refine AL.nil (th_n (AC.block (AC.seq (AC.region ?_))))
 refine zc ?_
 refine za ?_
 refine AL.nil (th_n ?_)
 refine AC.condD rfl (fun h0 => ?_) (fun h0 => ?_)
 ·refine AC.seq (AC.region ?_)
  refine AL.q (by exact h_fun (cs := []) en_l2Build rfl rfl (by repeat (first | exact rfl | exact DLead.same | refine ⟨_, _, rfl, ?_, ?_⟩)) (by repeat (exact True.intro)) grS0_spec rfl rfl rfl rfl) rfl ?_
  refine AL.weak (Weak.freezeA (i := 9) (k := 1) rfl rfl rfl (ownl _ _) (ownt _ _)) ?_
  refine zs ?_
  refine AL.nil (th_n (AC.ret (ib_r (th_r (bq_r ?_)))))
  have e : s = (grS0, p.2) := by rw [hS, if_pos h0]
  exact retN [(1, _), (2, _)] rfl (by rw [e]; repeat (first | exact rfl | exact DLead.same | refine ⟨_, _, rfl, ?_, ?_⟩ | refine ⟨_, rfl, ?_⟩)) (by rw [e]; repeat (first | exact True.intro | refine And.intro ?_ ?_ | exact DLead.same | exact rfl | refine ⟨_, _, rfl, rfl, ?_⟩ | refine ⟨_, rfl, ?_⟩ | refine ⟨_, _, rfl, ?_, ?_⟩)) rfl rfl
 ·refine AC.seq (AC.region ?_)
  refine zc ?_
  refine za ?_
  refine AL.nil (th_n ?_)
  refine AC.condD rfl (fun h1 => ?_) (fun h1 => ?_)
  ·refine AC.seq (AC.region ?_)
   refine AL.q (by exact h_fun (cs := []) en_l2Build rfl rfl (by repeat (first | exact rfl | exact DLead.same | refine ⟨_, _, rfl, ?_, ?_⟩)) (by repeat (exact True.intro)) grS1_spec rfl rfl rfl rfl) rfl ?_
   refine AL.weak (Weak.freezeA (i := 12) (k := 1) rfl rfl rfl (ownl _ _) (ownt _ _)) ?_
   refine zs ?_
   refine AL.nil (th_n (AC.ret (ib_r (th_r (bq_r ?_)))))
   have e : s = (grS1, p.2) := by rw [hS, if_neg h0, if_pos h1]
   exact retN [(1, _), (2, _)] rfl (by rw [e]; repeat (first | exact rfl | exact DLead.same | refine ⟨_, _, rfl, ?_, ?_⟩ | refine ⟨_, rfl, ?_⟩)) (by rw [e]; repeat (first | exact True.intro | refine And.intro ?_ ?_ | exact DLead.same | exact rfl | refine ⟨_, _, rfl, rfl, ?_⟩ | refine ⟨_, rfl, ?_⟩ | refine ⟨_, _, rfl, ?_, ?_⟩)) rfl rfl
  ·refine AC.seq (AC.region ?_)
   refine zc ?_
   refine za ?_
   refine AL.nil (th_n ?_)
   refine AC.condD rfl (fun h2 => ?_) (fun h2 => ?_)
   ·refine AC.seq (AC.region ?_)
    refine AL.q (by exact h_fun (cs := []) en_l2Build rfl rfl (by repeat (first | exact rfl | exact DLead.same | refine ⟨_, _, rfl, ?_, ?_⟩)) (by repeat (exact True.intro)) grS2_spec rfl rfl rfl rfl) rfl ?_
    refine AL.weak (Weak.freezeA (i := 15) (k := 1) rfl rfl rfl (ownl _ _) (ownt _ _)) ?_
    refine zs ?_
    refine AL.nil (th_n (AC.ret (ib_r (th_r (bq_r ?_)))))
    have e : s = (grS2, p.2) := by rw [hS, if_neg h0, if_neg h1, if_pos h2]
    exact retN [(1, _), (2, _)] rfl (by rw [e]; repeat (first | exact rfl | exact DLead.same | refine ⟨_, _, rfl, ?_, ?_⟩ | refine ⟨_, rfl, ?_⟩)) (by rw [e]; repeat (first | exact True.intro | refine And.intro ?_ ?_ | exact DLead.same | exact rfl | refine ⟨_, _, rfl, rfl, ?_⟩ | refine ⟨_, rfl, ?_⟩ | refine ⟨_, _, rfl, ?_, ?_⟩)) rfl rfl
   ·refine AC.seq (AC.region ?_)
    refine zc ?_
    refine za ?_
    refine AL.nil (th_n ?_)
    refine AC.condD rfl (fun h3 => ?_) (fun h3 => ?_)
    ·refine AC.seq (AC.region ?_)
     refine AL.q (by exact h_fun (cs := []) en_l2Build rfl rfl (by repeat (first | exact rfl | exact DLead.same | refine ⟨_, _, rfl, ?_, ?_⟩)) (by repeat (exact True.intro)) twS0_spec rfl rfl rfl rfl) rfl ?_
     refine AL.weak (Weak.freezeA3 19 rfl rfl rfl rfl rfl rfl rfl (ownl _ _) (ownl _ _) (ownl _ _) (ownt _ _) (ownt _ _) (ownt _ _)) ?_
     refine AL.q (by exact h_fun (cs := []) en_l2Build rfl rfl (by repeat (first | exact rfl | exact DLead.same | refine ⟨_, _, rfl, ?_, ?_⟩)) (by repeat (exact True.intro)) twS1_spec rfl rfl rfl rfl) rfl ?_
     refine AL.weak (Weak.freezeA3 20 rfl rfl rfl rfl rfl rfl rfl (ownl _ _) (ownl _ _) (ownl _ _) (ownt _ _) (ownt _ _) (ownt _ _)) ?_
     refine AL.q (by exact h_fun (cs := []) en_sUnionSTGs rfl rfl (by repeat (first | exact rfl | exact DLead.same | refine ⟨_, _, rfl, ?_, ?_⟩ | refine ⟨_, rfl, ?_⟩)) (by repeat (exact True.intro)) hU rfl rfl rfl rfl) rfl ?_
     refine AL.p (by exact mv5 rfl) rfl ?_
     refine AL.p (by exact g_extract (r := .agg _) rfl rfl) rfl ?_
     refine AL.p (by exact g_extract (r := .d _) rfl rfl) rfl ?_
     refine AL.q (by exact h_alloc rfl) rfl ?_
     refine zs ?_
     refine za ?_
     refine AL.nil (th_n (AC.seq (AC.region ?_)))
     refine zm ?_
     refine AL.nil (th_n ?_)
     refine AC.condT rfl ?_
     refine AC.seq (AC.region ?_)
     refine AL.p (by exact g_load_ptrN rfl rfl rfl rfl rfl) rfl ?_
     refine zs ?_
     refine AL.nil (th_n (AC.ret (ib_r (th_r (bq_r ?_)))))
     have e : s = (grS3, p.2) := by rw [hS, if_neg h0, if_neg h1, if_neg h2, if_pos h3]
     exact retN [(1, _), (2, _)] rfl (by rw [e]; repeat (first | exact rfl | exact DLead.same | refine ⟨_, _, rfl, ?_, ?_⟩ | refine ⟨_, rfl, ?_⟩)) (by rw [e]; repeat (first | exact True.intro | refine And.intro ?_ ?_ | exact DLead.same | exact rfl | refine ⟨_, _, rfl, rfl, ?_⟩ | refine ⟨_, rfl, ?_⟩ | refine ⟨_, _, rfl, ?_, ?_⟩)) rfl rfl
    ·refine AC.seq (AC.region ?_)
     refine zc ?_
     refine za ?_
     refine AL.nil (th_n ?_)
     refine AC.condD rfl (fun h4 => ?_) (fun h4 => ?_)
     ·refine AC.seq (AC.region ?_)
      refine AL.q (by exact h_fun (cs := []) en_l2Build rfl rfl (by repeat (first | exact rfl | exact DLead.same | refine ⟨_, _, rfl, ?_, ?_⟩)) (by repeat (exact True.intro)) grS4_spec rfl rfl rfl rfl) rfl ?_
      refine AL.weak (Weak.freezeA (i := 28) (k := 1) rfl rfl rfl (ownl _ _) (ownt _ _)) ?_
      refine zs ?_
      refine AL.nil (th_n (AC.ret (ib_r (th_r (bq_r ?_)))))
      have e : s = (grS4, p.2) := by rw [hS, if_neg h0, if_neg h1, if_neg h2, if_neg h3, if_pos h4]
      exact retN [(1, _), (2, _)] rfl (by rw [e]; repeat (first | exact rfl | exact DLead.same | refine ⟨_, _, rfl, ?_, ?_⟩ | refine ⟨_, rfl, ?_⟩)) (by rw [e]; repeat (first | exact True.intro | refine And.intro ?_ ?_ | exact DLead.same | exact rfl | refine ⟨_, _, rfl, rfl, ?_⟩ | refine ⟨_, rfl, ?_⟩ | refine ⟨_, _, rfl, ?_, ?_⟩)) rfl rfl
     ·refine AC.skip (ib_n (th_n (AC.seq (AC.region ?_))))
      refine AL.p (by exact mv3 rfl) rfl ?_
      refine AL.q (by exact h_fun (cs := [0]) en_l2Plain rfl rfl (by repeat (first | exact rfl | refine ⟨_, _, rfl, ?_, ?_⟩ | refine ⟨_, rfl, ?_⟩)) (by repeat (first | exact True.intro | refine And.intro ?_ ?_ | exact DLead.same | exact rfl | refine ⟨_, _, rfl, rfl, ?_⟩ | refine ⟨_, rfl, ?_⟩ | refine ⟨_, _, rfl, ?_, ?_⟩)) hP rfl rfl rfl rfl) rfl ?_
      refine AL.weak (Weak.freezeA (i := 30) (k := 1) rfl rfl rfl (ownl _ _) (ownt _ _)) ?_
      refine zs ?_
      refine AL.nil (th_n (AC.ret (bq_r ?_)))
      have e : s = (pp, (p.2.pick 7).2) := by rw [hS, if_neg h0, if_neg h1, if_neg h2, if_neg h3, if_neg h4]
      exact retN [(1, _), (2, _)] rfl (by rw [e]; repeat (first | exact rfl | exact DLead.same | refine ⟨_, _, rfl, ?_, ?_⟩ | refine ⟨_, rfl, ?_⟩)) (by rw [e]; repeat (first | exact True.intro | refine And.intro ?_ ?_ | exact DLead.same | exact rfl | refine ⟨_, _, rfl, rfl, ?_⟩ | refine ⟨_, rfl, ?_⟩ | refine ⟨_, _, rfl, ?_, ?_⟩)) rfl rfl
theorem en_stg : Enters Tryz.prog 191 := enters_of Tryz.func191 rfl rfl
def sig0 (s : Stg) : Sig := s.sigs.getD 0 ⟨[], 0⟩
def lab0 (s : Stg) : Lab := s.labs.getD 0 ⟨0, false⟩
def badSig (i : Int) : Int := if i = 0 then -1 else if i = 1 then -2 else 8
def badName (i : Int) : List UInt8 := if i = 0 then [] else if i = 1 then [65] else if i = 2 then [97, 98, 99, 100, 101, 102, 103] else [49, 97]
def badKind (i : Int) : Int := if i = 0 then 0 else if i = 1 then 4 else 3
def turnS (g : Stg) (p : Int × Cur) : Stg × Cur :=
 if p.1 = 0 then ({ g with start := (p.2.spoilt g.start [48, 49, 50]).1 }, (p.2.spoilt g.start [48, 49, 50]).2)
 else if p.1 = 1 then ({ g with labs := g.labs.set 0 ⟨badSig (p.2.pick 3).1, (lab0 g).up⟩ }, (p.2.pick 3).2)
 else if p.1 = 2 then ({ g with sigs := g.sigs.set 0 ⟨badName (p.2.pick 4).1, (sig0 g).kind⟩ }, (p.2.pick 4).2)
 else if p.1 = 3 then ({ g with sigs := g.sigs.set 0 ⟨(sig0 g).name, badKind (p.2.pick 3).1⟩ }, (p.2.pick 3).2)
 else if p.1 = 4 then ({ g with labs := g.labs.drop 1 }, p.2)
 else (g, p.2)
def anyI (c : Cur) : Stg × Cur := turnS (stgI c).1 ((stgI c).2.pick 30)
theorem bad3 (c : Cur) (f : Int → Int) (a b d : Int) (hf : ∀ i, f i = if i = 0 then a else if i = 1 then b else d) : ([[dI a], [dI b], [dI d]] : List (List DV))[(c.pick 3).1.toNat]? = some [dI (f (c.pick 3).1)] := by
 have hc := c.pick_in 3 (by decide)
 rw [hf]
 have h : (c.pick 3).1 = 0 ∨ (c.pick 3).1 = 1 ∨ (c.pick 3).1 = 2 := by omega
 rcases h with h | h | h <;> rw [h] <;> rfl
theorem badN (c : Cur) : ([[dS (bstr [])], [dS (bstr [65])], [dS (bstr [97, 98, 99, 100, 101, 102, 103])], [dS (bstr [49, 97])]] : List (List DV))[(c.pick 4).1.toNat]? = some [dS (bstr (badName (c.pick 4).1))] := by
 have hc := c.pick_in 4 (by decide)
 unfold badName
 have h : (c.pick 4).1 = 0 ∨ (c.pick 4).1 = 1 ∨ (c.pick 4).1 = 2 ∨ (c.pick 4).1 = 3 := by omega
 rcases h with h | h | h | h <;> rw [h] <;> rfl
theorem mem_set0 {α : Type} {l : List α} {x y : α} (h : y ∈ l.set 0 x) : y ∈ l ∨ y = x := List.mem_or_eq_of_mem_set h
theorem turnS_in (g : Stg) (hg : okS g = true) (p : Int × Cur) : StgS (turnS g p).1 ∧ (turnS g p).2.pos ≤ p.2.pos + 20 ∧ (turnS g p).2.code = p.2.code := by
 obtain ⟨h, h1, h2⟩ := okS_S hg
 have s1 := p.2.spoilt_in g.start [48, 49, 50]
 have p3 := p.2.pick_pos 3
 have p4 := p.2.pick_pos 4
 have k3 := p.2.pick_code 3
 have k4 := p.2.pick_code 4
 have hbs : ∀ i, -10 ≤ badSig i ∧ badSig i ≤ 10 := fun i => by unfold badSig; split; omega; split <;> omega
 have hbn : ∀ i, (badName i).length ≤ 10 := fun i => by unfold badName; split; decide; split; decide; split <;> decide
 have hs0 : (sig0 g).name.length ≤ 10 := by
  unfold sig0
  rw [List.getD_eq_getElem?_getD, List.getElem?_eq_getElem (show 0 < g.sigs.length from h.s0)]
  exact h.sn _ (List.getElem_mem _)
 unfold turnS
 split
 ·exact ⟨⟨h.p, h.tl, h.t, h.s0, h.sl, h.sn, h.ll, h.lb, by dsimp only; omega⟩, by dsimp only; omega, s1.2.2⟩
 split
 ·exact ⟨⟨h.p, h.tl, h.t, h.s0, h.sl, h.sn, by rw [List.length_set]; exact h.ll, (fun x hx => by
   rcases mem_set0 hx with hx | rfl
   ·exact h.lb x hx
   ·exact hbs _), h.st⟩, by dsimp only; omega, k3⟩
 split
 ·exact ⟨⟨h.p, h.tl, h.t, by rw [List.length_set]; exact h.s0, by rw [List.length_set]; exact h.sl, (fun x hx => by
   rcases mem_set0 hx with hx | rfl
   ·exact h.sn x hx
   ·exact hbn _), h.ll, h.lb, h.st⟩, by dsimp only; omega, k4⟩
 split
 ·exact ⟨⟨h.p, h.tl, h.t, by rw [List.length_set]; exact h.s0, by rw [List.length_set]; exact h.sl, (fun x hx => by
   rcases mem_set0 hx with hx | rfl
   ·exact h.sn x hx
   ·exact hs0), h.ll, h.lb, h.st⟩, by dsimp only; omega, k3⟩
 split
 ·exact ⟨⟨h.p, h.tl, h.t, h.s0, h.sl, h.sn, by rw [List.length_drop]; have := h.ll; omega, fun x hx => h.lb x (List.mem_of_mem_drop hx), h.st⟩, by dsimp only; omega, rfl⟩
 ·exact ⟨h, by dsimp only; omega, rfl⟩
theorem anyI_in (c : Cur) : StgS (anyI c).1 ∧ (anyI c).2.pos ≤ c.pos + 30 ∧ (anyI c).2.code = c.code := by
 have h := stgI_in c
 have h1 := (stgI c).2.pick_pos 30
 have h2 := (stgI c).2.pick_code 30
 have h3 := turnS_in (stgI c).1 h.1 ((stgI c).2.pick 30)
 exact ⟨h3.1, by have := h3.2.1; show (turnS _ _).2.pos ≤ _; omega, h3.2.2.trans (h2.trans h.2.2)⟩
abbrev stgR (s : Stg) (j : Nat) : AV := .agg [aI s.net.places, .d (vTs s.net.ts), .own j s.sigs.length, .d (vLabs s.labs), aS (bstr s.start)]
set_option maxHeartbeats 8000000 in
theorem anyStg_spec (c : Cur) (hp : c.pos ≤ 1000000) : ASpec Tryz.prog 126 [.ptr 0 0] [(0, curC c)] (Fun1 (stgR (anyI c).1 1) [(0, curC (anyI c).2), (1, .arr 149 2 (sigsL (anyI c).1.sigs))]) := by
 have hG := stg_spec c (by omega)
 have hgi := stgI_in c
 have hA : anyI c = turnS (stgI c).1 ((stgI c).2.pick 30) := rfl
 obtain ⟨g, hg⟩ : ∃ g, g = stgI c := ⟨_, rfl⟩
 rw [← hg] at hG hgi hA
 have hpk := g.2.pick_pos 30
 have hK := pick_spec g.2 30 (by decide) (by omega)
 obtain ⟨p, hpp⟩ : ∃ p, p = g.2.pick 30 := ⟨_, rfl⟩
 rw [← hpp] at hK hA hpk
 obtain ⟨hs, hl0, hst⟩ := okS_S hgi.1
 have hs0 := hs.s0
 have hsl := hs.sl
 have hll := hs.ll
 have hsp := spoilt_spec p.2 g.1.start [48, 49, 50] (by omega) (by decide) (by decide) (by omega)
 have ha1 := am_spec p.2 [[dI (-1)], [dI (-2)], [dI 8]] (badSig (p.2.pick 3).1) (by decide) (by decide) (by omega) (bad3 p.2 badSig _ _ _ (fun _ => rfl))
 have ha2 := of_spec p.2 [[dS (bstr [])], [dS (bstr [65])], [dS (bstr [97, 98, 99, 100, 101, 102, 103])], [dS (bstr [49, 97])]] (bstr (badName (p.2.pick 4).1)) (by decide) (by decide) (by omega) (badN p.2)
 have ha3 := am_spec p.2 [[dI 0], [dI 4], [dI 3]] (badKind (p.2.pick 3).1) (by decide) (by decide) (by omega) (bad3 p.2 badKind _ _ _ (fun _ => rfl))
 have hT : turnS g.1 p = if p.1 = 0 then ({ g.1 with start := (p.2.spoilt g.1.start [48, 49, 50]).1 }, (p.2.spoilt g.1.start [48, 49, 50]).2)
  else if p.1 = 1 then ({ g.1 with labs := g.1.labs.set 0 ⟨badSig (p.2.pick 3).1, (lab0 g.1).up⟩ }, (p.2.pick 3).2)
  else if p.1 = 2 then ({ g.1 with sigs := g.1.sigs.set 0 ⟨badName (p.2.pick 4).1, (sig0 g.1).kind⟩ }, (p.2.pick 4).2)
  else if p.1 = 3 then ({ g.1 with sigs := g.1.sigs.set 0 ⟨(sig0 g.1).name, badKind (p.2.pick 3).1⟩ }, (p.2.pick 3).2)
  else if p.1 = 4 then ({ g.1 with labs := g.1.labs.drop 1 }, p.2)
  else (g.1, p.2) := rfl
 rw [← hA] at hT
 obtain ⟨A, hAA⟩ : ∃ A, A = anyI c := ⟨_, rfl⟩
 rw [← hAA] at hT ⊢
 obtain ⟨G, cg⟩ := g
 obtain ⟨pi, pc⟩ := p
 dsimp only at *
 obtain ⟨N, sg, lb, st⟩ := G
 dsimp only at *
 obtain ⟨x0, sg', rfl⟩ : ∃ x r, sg = x :: r := by cases sg with | nil => simp at hs0 | cons a b => exact ⟨a, b, rfl⟩
 obtain ⟨y0, lb', rfl⟩ : ∃ x r, lb = x :: r := by cases lb with | nil => simp at hl0 | cons a b => exact ⟨a, b, rfl⟩
 have hls : (x0 :: sg').length = sg'.length + 1 := rfl
 have hlb : (y0 :: lb').length = lb'.length + 1 := rfl
 clear hAA hA hs hgi hg hpp hs0 hl0
 refine ASpec.of Tryz.func126 rfl rfl fun C hC => ?_
 refine AC.seq (AC.region ?_)
 refine AL.q (by exact h_alloc rfl) rfl ?_
 refine AL.nil (th_n (AC.seq (AC.region ?_)))
 refine AL.p (by exact mv3 rfl) rfl ?_
 refine AL.q (by exact h_fun (cs := [0]) en_stg rfl rfl (by repeat (first | exact rfl | refine ⟨_, _, rfl, ?_, ?_⟩ | refine ⟨_, rfl, ?_⟩)) (by repeat (first | exact True.intro | refine And.intro ?_ ?_ | exact DLead.same | exact rfl | refine ⟨_, _, rfl, rfl, ?_⟩ | refine ⟨_, rfl, ?_⟩ | refine ⟨_, _, rfl, ?_, ?_⟩)) hG rfl rfl rfl rfl) rfl ?_
 refine AL.q (by exact h_alloc rfl) rfl ?_
 refine zs ?_
 refine AL.nil (th_n ?_)
 refine AC.cut (fun (x : Stg × Cur) => ⟨49, 300, [(2, .ptr 201 0), (3, .ptr 200 0)], [(0, some (curC x.2)), (200, some (.cells 30 [aI x.1.net.places, .d (vTs x.1.net.ts), .own 101 x.1.sigs.length, .d (vLabs x.1.labs), aS (bstr x.1.start)])), (101, some (.arr 149 2 (sigsL x.1.sigs))), (201, some (.cells 30 zStg))]⟩) (fun x => x = A) ?_ ?_
 ·refine AC.seq (AC.region ?_)
  refine AL.p (by exact mv3 rfl) rfl ?_
  refine AL.q (by exact h_fun (cs := [0]) en_pick rfl rfl (by repeat (first | exact rfl | exact DLead.same | refine ⟨_, _, rfl, ?_, ?_⟩ | refine ⟨_, rfl, ?_⟩)) (by repeat (first | exact True.intro | refine And.intro ?_ ?_ | exact DLead.same | exact rfl | refine ⟨_, _, rfl, rfl, ?_⟩ | refine ⟨_, rfl, ?_⟩ | refine ⟨_, _, rfl, ?_, ?_⟩)) hK rfl rfl rfl rfl) rfl ?_
  refine AL.nil (th_n (AC.block (AC.seq (AC.region ?_))))
  refine zc ?_
  refine za ?_
  refine AL.nil (th_n ?_)
  refine AC.condD rfl (fun h0 => ?_) (fun h0 => ?_)
  ·refine AC.region ?_
   refine AL.p (by exact mv3 rfl) rfl ?_
   refine zF ?_
   refine zl ?_
   refine AL.q (by exact h_fun (cs := [0]) en_spoilt rfl rfl (by repeat (first | exact rfl | exact DLead.same | refine ⟨_, _, rfl, ?_, ?_⟩ | refine ⟨_, rfl, ?_⟩)) (by repeat (first | exact True.intro | refine And.intro ?_ ?_ | exact DLead.same | exact rfl | refine ⟨_, _, rfl, rfl, ?_⟩ | refine ⟨_, rfl, ?_⟩ | refine ⟨_, _, rfl, ?_, ?_⟩)) hsp rfl rfl rfl rfl) rfl ?_
   refine zF ?_
   refine zs ?_
   refine AL.nil (ib_n (th_n ?_))
   (have e := hT.trans (if_pos h0); exact ⟨A, rfl, (Weak.freezeP 3 3 rfl rfl rfl rfl (ownl _ _) (ownt _ _) rfl).trans (zw [(200, _), (101, _), (201, _)] hC (b := by rw [e]; repeat (first | exact True.intro | refine And.intro ?_ ?_ | exact DLead.same | exact rfl | refine ⟨_, _, rfl, rfl, ?_⟩ | refine ⟨_, rfl, ?_⟩ | refine ⟨_, _, rfl, ?_, ?_⟩)))⟩)
  ·refine AC.seq (AC.region ?_)
   refine zc ?_
   refine za ?_
   refine AL.nil (th_n ?_)
   refine AC.condD rfl (fun h1 => ?_) (fun h1 => ?_)
   ·refine AC.drawn' mixed_ok [[], [0], [], [], [2,3], [0,1,2,3,4], [0,1,2,3,4,5], [0,1,2,3,4,5,6]] (by decide) ?_
    refine DF.op 0 [] 8 rfl rfl rfl (.free rfl (NOp.of (by exact g_fa_ptr rfl rfl rfl rfl rfl))) rfl ?_
    refine DF.op 1 [0] 8 rfl rfl rfl (.free rfl (NOp.of (by exact g_load_ptr rfl rfl rfl rfl rfl))) rfl ?_
    refine DF.op 2 [] 8 rfl rfl rfl (.free rfl (NOp.of (by exact mv3 rfl))) rfl ?_
    refine DF.op 3 [] 8 rfl rfl rfl (.free rfl (by exact h_litF rfl rfl rfl rfl rfl rfl rfl rfl)) rfl ?_
    refine DF.op 4 [2,3] 8 rfl rfl rfl (.free rfl (by exact h_fun (cs := [0]) en_among rfl rfl (by repeat (first | exact rfl | exact DLead.same | refine ⟨_, _, rfl, ?_, ?_⟩ | refine ⟨_, rfl, ?_⟩)) (by repeat (first | exact True.intro | refine And.intro ?_ ?_ | exact DLead.same | exact rfl | refine ⟨_, _, rfl, rfl, ?_⟩ | refine ⟨_, rfl, ?_⟩ | refine ⟨_, _, rfl, ?_, ?_⟩)) ha1 rfl rfl rfl rfl)) rfl ?_
    refine DF.op 5 [0,1,2,3,4] 8 rfl rfl rfl (.free rfl (NOp.of (by exact g_ia_own (i := 0) (l := (y0 :: lb').length) rfl rfl rfl rfl rfl rfl (by omega) rfl))) rfl ?_
    refine DF.op 6 [0,1,2,3,4,5] 8 rfl rfl rfl (.free rfl (NOp.of (by exact g_fa_ptr rfl rfl rfl rfl rfl))) rfl ?_
    refine DF.op 7 [0,1,2,3,4,5,6] 8 rfl rfl rfl (.free rfl (by exact h_store_arr (i := 0) (j := 0) (cs := labD y0) (d := dI (badSig (pc.pick 3).1)) rfl rfl rfl rfl .same rfl rfl (by decide))) rfl ?_
    refine DF.fin (ps := [(0,2),(0,3),(0,4),(1,2),(1,3),(1,4),(2,0),(2,1),(2,3),(3,0),(3,1),(3,2),(4,0),(4,1)]) 8 rfl (by decide +kernel) (by decide +kernel) (by rfl) ?_
    refine ib_n (th_n ?_)
    (have e := hT.trans ((if_neg h0).trans (if_pos h1)); exact ⟨A, rfl, (Weak.freezeP 3 3 rfl rfl rfl rfl (by simp) (List.take_of_length_le (by simp)) rfl).trans (zw [(200, _), (101, _), (201, _)] hC (b := by rw [e]; repeat (first | exact True.intro | refine And.intro ?_ ?_ | exact DLead.same | exact rfl | refine ⟨_, _, rfl, rfl, ?_⟩ | refine ⟨_, rfl, ?_⟩ | refine ⟨_, _, rfl, ?_, ?_⟩)))⟩)
   ·refine AC.seq (AC.region ?_)
    refine zc ?_
    refine za ?_
    refine AL.nil (th_n ?_)
    refine AC.condD rfl (fun h2 => ?_) (fun h2 => ?_)
    ·refine AC.drawn' mixed_ok [[], [0], [], [], [2,3], [0,1,2,3,4], [0,1,2,3,4,5], [0,1,2,3,4,5,6]] (by decide) ?_
     refine DF.op 0 [] 8 rfl rfl rfl (.free rfl (NOp.of (by exact g_fa_ptr rfl rfl rfl rfl rfl))) rfl ?_
     refine DF.op 1 [0] 8 rfl rfl rfl (.free rfl (NOp.of (by exact g_load_ptr rfl rfl rfl rfl rfl))) rfl ?_
     refine DF.op 2 [] 8 rfl rfl rfl (.free rfl (NOp.of (by exact mv3 rfl))) rfl ?_
     refine DF.op 3 [] 8 rfl rfl rfl (.free rfl (by exact h_litF rfl rfl rfl rfl rfl rfl rfl rfl)) rfl ?_
     refine DF.op 4 [2,3] 8 rfl rfl rfl (.free rfl (by exact h_fun (cs := [0]) en_of rfl rfl (by repeat (first | exact rfl | exact DLead.same | refine ⟨_, _, rfl, ?_, ?_⟩ | refine ⟨_, rfl, ?_⟩)) (by repeat (first | exact True.intro | refine And.intro ?_ ?_ | exact DLead.same | exact rfl | refine ⟨_, _, rfl, rfl, ?_⟩ | refine ⟨_, rfl, ?_⟩ | refine ⟨_, _, rfl, ?_, ?_⟩)) ha2 rfl rfl rfl rfl)) rfl ?_
     refine DF.op 5 [0,1,2,3,4] 8 rfl rfl rfl (.free rfl (NOp.of (by exact g_ia_own (i := 0) (l := (x0 :: sg').length) rfl rfl rfl rfl rfl rfl (by omega) rfl))) rfl ?_
     refine DF.op 6 [0,1,2,3,4,5] 8 rfl rfl rfl (.free rfl (NOp.of (by exact g_fa_ptr rfl rfl rfl rfl rfl))) rfl ?_
     refine DF.op 7 [0,1,2,3,4,5,6] 8 rfl rfl rfl (.free rfl (by exact h_store_arr (i := 0) (j := 0) (cs := sigD x0) (d := dS (bstr (badName (pc.pick 4).1))) rfl rfl rfl rfl .same rfl rfl (by decide))) rfl ?_
     refine DF.fin (ps := [(0,2),(0,3),(0,4),(1,2),(1,3),(1,4),(2,0),(2,1),(2,3),(3,0),(3,1),(3,2),(4,0),(4,1)]) 8 rfl (by decide +kernel) (by decide +kernel) (by rfl) ?_
     refine ib_n (th_n ?_)
     (have e := hT.trans ((if_neg h0).trans ((if_neg h1).trans (if_pos h2))); exact ⟨A, rfl, (Weak.freezeP 3 3 rfl rfl rfl rfl (ownl _ _) (ownt _ _) rfl).trans (zw [(200, _), (101, _), (201, _)] hC (b := by rw [e]; repeat (first | exact True.intro | refine And.intro ?_ ?_ | exact DLead.same | exact rfl | refine ⟨_, _, rfl, rfl, ?_⟩ | refine ⟨_, rfl, ?_⟩ | refine ⟨_, _, rfl, ?_, ?_⟩)))⟩)
    ·refine AC.seq (AC.region ?_)
     refine zc ?_
     refine za ?_
     refine AL.nil (th_n ?_)
     refine AC.condD rfl (fun h3 => ?_) (fun h3 => ?_)
     ·refine AC.drawn' mixed_ok [[], [0], [], [], [2,3], [0,1,2,3,4], [0,1,2,3,4,5], [0,1,2,3,4,5,6]] (by decide) ?_
      refine DF.op 0 [] 8 rfl rfl rfl (.free rfl (NOp.of (by exact g_fa_ptr rfl rfl rfl rfl rfl))) rfl ?_
      refine DF.op 1 [0] 8 rfl rfl rfl (.free rfl (NOp.of (by exact g_load_ptr rfl rfl rfl rfl rfl))) rfl ?_
      refine DF.op 2 [] 8 rfl rfl rfl (.free rfl (NOp.of (by exact mv3 rfl))) rfl ?_
      refine DF.op 3 [] 8 rfl rfl rfl (.free rfl (by exact h_litF rfl rfl rfl rfl rfl rfl rfl rfl)) rfl ?_
      refine DF.op 4 [2,3] 8 rfl rfl rfl (.free rfl (by exact h_fun (cs := [0]) en_among rfl rfl (by repeat (first | exact rfl | exact DLead.same | refine ⟨_, _, rfl, ?_, ?_⟩ | refine ⟨_, rfl, ?_⟩)) (by repeat (first | exact True.intro | refine And.intro ?_ ?_ | exact DLead.same | exact rfl | refine ⟨_, _, rfl, rfl, ?_⟩ | refine ⟨_, rfl, ?_⟩ | refine ⟨_, _, rfl, ?_, ?_⟩)) ha3 rfl rfl rfl rfl)) rfl ?_
      refine DF.op 5 [0,1,2,3,4] 8 rfl rfl rfl (.free rfl (NOp.of (by exact g_ia_own (i := 0) (l := (x0 :: sg').length) rfl rfl rfl rfl rfl rfl (by omega) rfl))) rfl ?_
      refine DF.op 6 [0,1,2,3,4,5] 8 rfl rfl rfl (.free rfl (NOp.of (by exact g_fa_ptr rfl rfl rfl rfl rfl))) rfl ?_
      refine DF.op 7 [0,1,2,3,4,5,6] 8 rfl rfl rfl (.free rfl (by exact h_store_arr (i := 0) (j := 1) (cs := sigD x0) (d := dI (badKind (pc.pick 3).1)) rfl rfl rfl rfl .same rfl rfl (by decide))) rfl ?_
      refine DF.fin (ps := [(0,2),(0,3),(0,4),(1,2),(1,3),(1,4),(2,0),(2,1),(2,3),(3,0),(3,1),(3,2),(4,0),(4,1)]) 8 rfl (by decide +kernel) (by decide +kernel) (by rfl) ?_
      refine ib_n (th_n ?_)
      (have e := hT.trans ((if_neg h0).trans ((if_neg h1).trans ((if_neg h2).trans (if_pos h3)))); exact ⟨A, rfl, (Weak.freezeP 3 3 rfl rfl rfl rfl (ownl _ _) (ownt _ _) rfl).trans (zw [(200, _), (101, _), (201, _)] hC (b := by rw [e]; repeat (first | exact True.intro | refine And.intro ?_ ?_ | exact DLead.same | exact rfl | refine ⟨_, _, rfl, rfl, ?_⟩ | refine ⟨_, rfl, ?_⟩ | refine ⟨_, _, rfl, ?_, ?_⟩)))⟩)
     ·refine AC.seq (AC.region ?_)
      refine zc ?_
      refine za ?_
      refine AL.nil (th_n ?_)
      refine AC.condD rfl (fun h4 => ?_) (fun h4 => ?_)
      ·refine AC.region ?_
       refine AL.weak (Weak.freezeP 3 3 rfl rfl rfl rfl (ownl _ _) (ownt _ _) rfl) ?_
       refine zF ?_
       refine zl ?_
       refine AL.p (by exact g_slice_view (r := labsL lb') (l := 1) (h := (labsL (y0 :: lb')).length) rfl rfl rfl rfl (.some rfl rfl) .none (by rw [labsL_len]; omega) (Nat.le_refl _) (by rw [List.take_length]; rfl)) rfl ?_
       refine zF ?_
       refine zs ?_
       refine AL.nil (ib_n (th_n ?_))
       (have e := hT.trans ((if_neg h0).trans ((if_neg h1).trans ((if_neg h2).trans ((if_neg h3).trans (if_pos h4))))); exact ⟨A, rfl, zw [(200, _), (101, _), (201, _)] hC (b := by rw [e]; repeat (first | exact True.intro | refine And.intro ?_ ?_ | exact DLead.same | exact rfl | refine ⟨_, _, rfl, rfl, ?_⟩ | refine ⟨_, rfl, ?_⟩ | refine ⟨_, _, rfl, ?_, ?_⟩))⟩)
      ·refine AC.skip (ib_n (th_n ?_))
       (have e := hT.trans ((if_neg h0).trans ((if_neg h1).trans ((if_neg h2).trans ((if_neg h3).trans (if_neg h4))))); exact ⟨A, rfl, (Weak.freezeP 3 3 rfl rfl rfl rfl (ownl _ _) (ownt _ _) rfl).trans (zw [(200, _), (101, _), (201, _)] hC (b := by rw [e]; repeat (first | exact True.intro | refine And.intro ?_ ?_ | exact DLead.same | exact rfl | refine ⟨_, _, rfl, rfl, ?_⟩ | refine ⟨_, rfl, ?_⟩ | refine ⟨_, _, rfl, ?_, ?_⟩)))⟩)
 ·rintro x rfl
  refine AC.seq (AC.region ?_)
  refine AL.p (by exact g_load_ptrN rfl rfl rfl rfl rfl) rfl ?_
  refine zs ?_
  refine AL.nil (th_n (AC.ret (bq_r ?_)))
  exact retN [(1, 101)] rfl (by repeat (first | exact rfl | exact DLead.same | refine ⟨_, _, rfl, ?_, ?_⟩ | refine ⟨_, rfl, ?_⟩)) (by repeat (first | exact True.intro | refine And.intro ?_ ?_ | exact DLead.same | exact rfl | refine ⟨_, _, rfl, rfl, ?_⟩ | refine ⟨_, rfl, ?_⟩ | refine ⟨_, _, rfl, ?_, ?_⟩)) rfl rfl
theorem en_anyStg : Enters Tryz.prog 126 := enters_of Tryz.func126 rfl rfl
def StgE0 : AV → List (Nat × Chunk) → Prop := fun r chs => ∃ (s : Stg), StgS s ∧ r = stgA s ∧ chs = []
structure SgS (k : Nat) (c : SG) : Prop where
 sg : c.sigs.length ≤ 8
 sn : ∀ x, x ∈ c.sigs → x.name.length ≤ 10
 n0 : 1 ≤ c.codes.length
 n : c.codes.length ≤ 300 + k
 cl : ∀ w, w ∈ c.codes → w.length ≤ 8 + 10 * k
 a : c.arcs.length ≤ 4000 + k
theorem SgS.L {k : Nat} {c : SG} (h : SgS k c) (hk : k ≤ 10) : SgL c := ⟨by have := h.sg; omega, fun t ht => by have := h.sn t ht; omega, by have := h.n; omega, fun w hw => by have := h.cl w hw; omega, by have := h.a; omega⟩
theorem SgS.mono {k j : Nat} {c : SG} (h : SgS k c) (hk : k ≤ j) : SgS j c := ⟨h.sg, h.sn, h.n0, by have := h.n; omega, fun w hw => by have := h.cl w hw; omega, by have := h.a; omega⟩
theorem codeS_S {s : Stg} (hs : StgS s) (h : (codeS s).2 = true) : SgS 0 (codeS s).1 := by
 have hp := codeS_pos h
 have hin := explS_in s
 unfold codeS at h hp ⊢
 split
 ·rename_i q
  rw [if_pos q] at hp
  refine ⟨hs.sl, hs.sn, hp, ?_, fun w hw => ?_, ?_⟩
  ·show (mixC _ _ _ _).length ≤ _
   rw [mixC_len]; omega
  ·have hw : w ∈ mixC s (explS s).1 s.sigs.length 0 := hw
   unfold mixC at hw
   obtain ⟨a, _, rfl⟩ := List.mem_map.1 hw
   rw [if_neg (Nat.not_lt_zero _), codeC_len]
   have := hs.sl; omega
  ·show (arcsOf _ _).length ≤ _
   rw [arcsOf_len]; exact q.2.2
 ·rename_i q; rw [if_neg q] at h; cases h
theorem plS1_code : (codeS plS1).2 = true := by decide +kernel
def SgO (k pos : Nat) : AV → List (Nat × Chunk) → Prop := fun r chs => ∃ (g : SG) (c : Cur), (SgS k g ∧ c.pos ≤ pos) ∧ r = .agg [.d (vSigs g.sigs), .own 1 g.codes.length, .own 2 g.arcs.length] ∧ chs = [(0, curC c), (1, .arr 9 1 (tsX g.codes)), (2, .arr 75 4 (arL g.arcs))]
def SgE (k pos : Nat) : AV → List (Nat × Chunk) → Prop := fun r chs => ∃ (g : SG) (c : Cur), (SgS k g ∧ c.pos ≤ pos) ∧ r = sgA g ∧ chs = [(0, curC c)]
def SgE0 (k : Nat) : AV → List (Nat × Chunk) → Prop := fun r chs => ∃ (g : SG), SgS k g ∧ r = sgA g ∧ chs = []
def SgE2 : AV → List (Nat × Chunk) → Prop := fun r chs => ∃ (g h : SG), (SgS 2 g ∧ SgS 2 h) ∧ r = .tup [sgA g, sgA h] ∧ chs = []
set_option maxHeartbeats 8000000 in
theorem coded_spec (c : Cur) (hp : c.pos ≤ 100000) : ASpec Tryz.prog 202 [.ptr 0 0] [(0, curC c)] (SgO 0 (c.pos + 20)) := by
 have hB1 := sBuild_spec plS1 (okS_S plS1_ok).1.B
 have hS1 := codeS_S (okS_S plS1_ok).1 plS1_code
 obtain ⟨P, hP⟩ : ∃ P, P = codeS plS1 := ⟨_, rfl⟩
 rw [← hP] at hB1 hS1
 clear hP
 refine ASpec.of Tryz.func202 rfl rfl fun C hC => ?_
 refine AC.seq (AC.region ?_)
 refine AL.q (by exact h_alloc rfl) rfl ?_
 refine AL.nil (th_n (AC.seq (AC.seq (AC.region ?_))))
 refine za ?_
 refine AL.nil (th_n (AC.block ?_))
 refine AC.loop (ι := Nat × Cur) (fun y => ⟨26, 300, [(0, .ptr 0 0), (2, .ptr 201 0), (3, aI y.1)], [(0, some (curC y.2)), (201, some (.cells 68 zSG))]⟩) (fun y => y.1 ≤ 4 ∧ y.2.pos ≤ c.pos + 4 * y.1) (fun y => 4 - y.1) ((0, c)) ?_ (⟨Nat.zero_le _, Nat.le_refl _⟩) ?_
 ·exact zw [(201, _)] hC
 ·rintro ⟨k, e⟩ ⟨hk, he⟩
  dsimp only at hk he ⊢
  refine AC.seq (AC.seq (AC.region ?_))
  refine zm ?_
  refine zc ?_
  refine AL.nil (th_n ?_)
  refine AC.condD rfl (fun h0 => ?_) (fun h0 => ?_)
  ·refine AC.skip (th_n (AC.seq (AC.block (AC.seq ?_))))
   have hk1 : k < 4 := by omega
   have hS := stg_spec e (by omega)
   have hSi := stgI_in e
   obtain ⟨A, hAA⟩ : ∃ A, A = stgI e := ⟨_, rfl⟩
   rw [← hAA] at hS hSi
   have hBd := sBuild_spec A.1 (okS_S hSi.1).1.B
   have hCS := fun h : (codeS A.1).2 = true => codeS_S (okS_S hSi.1).1 h
   obtain ⟨⟨G, ok⟩, hG⟩ : ∃ G, G = codeS A.1 := ⟨_, rfl⟩
   rw [← hG] at hBd hCS
   dsimp only at hBd hCS
   clear hG hAA
   refine AC.region ?_
   refine AL.p (by exact mv3 rfl) rfl ?_
   refine AL.q (by exact h_fun (cs := [0]) en_stg rfl rfl (by repeat (first | exact rfl | refine ⟨_, _, rfl, ?_, ?_⟩ | refine ⟨_, rfl, ?_⟩)) (by repeat (first | exact True.intro | refine And.intro ?_ ?_ | exact DLead.same | exact rfl | refine ⟨_, _, rfl, rfl, ?_⟩ | refine ⟨_, rfl, ?_⟩ | refine ⟨_, _, rfl, ?_, ?_⟩)) hS rfl rfl rfl rfl) rfl ?_
   refine AL.weak (Weak.freezeA (i := 14) (k := 2) rfl rfl rfl (ownl _ _) (ownt _ _)) ?_
   refine AL.weak (Weak.freezeA (i := 14) (k := 3) rfl rfl rfl (ownl _ _) (ownt _ _)) ?_
   refine AL.weak (t := ⟨26, 308, [(0, .ptr 0 0), (2, .ptr 201 0), (3, aI k), (14, stgA A.1)], [(0, some (curC A.2)), (201, some (.cells 68 zSG))]⟩) (zw [(201, 201)] hC) ?_
   refine AL.q (by exact h_fun (cs := []) en_sBuild rfl rfl (by repeat (first | exact rfl | exact DLead.same | refine ⟨_, _, rfl, ?_, ?_⟩ | refine ⟨_, rfl, ?_⟩)) (by repeat (exact True.intro)) hBd rfl rfl rfl rfl) rfl ?_
   refine AL.p (by exact mv5 rfl) rfl ?_
   refine AL.p (by exact g_extract (r := .agg _) rfl rfl) rfl ?_
   refine AL.p (by exact g_extract (r := .d _) rfl rfl) rfl ?_
   refine AL.q (by exact h_alloc rfl) rfl ?_
   refine zs ?_
   refine za ?_
   refine AL.nil (th_n (AC.seq ?_))
   refine AC.weak (t := ⟨26, 500, [(0, .ptr 0 0), (2, .ptr 201 0), (3, aI k), (4, .ptr 200 0), (5, aT ok)], [(0, some (curC A.2)), (201, some (.cells 68 zSG)), (200, some (.cells 68 [.d (vSigs G.sigs), .own 101 G.codes.length, .own 102 G.arcs.length])), (101, some (.arr 9 1 (tsX G.codes))), (102, some (.arr 75 4 (arL G.arcs)))]⟩) (zw [(201, 201), (200, _), (101, _), (102, _)] hC) ?_
   refine AC.region ?_
   refine zm ?_
   refine AL.nil (th_n ?_)
   refine AC.condB rfl (fun h1 => ?_) (fun h1 => ?_)
   ·refine AC.seq (AC.region ?_)
    refine AL.p (by exact g_load_ptrN rfl rfl rfl rfl rfl) rfl ?_
    refine zs ?_
    refine AL.nil (th_n (AC.ret (ib_r (th_r (th_r (ib_r (th_r (bq_r ?_))))))))
    have hok : ok = true := ‹ok = true›
    exact retX [(1, 101), (2, 102)] rfl ⟨G, A.2, ⟨hCS hok, by omega⟩, rfl, rfl⟩ (by repeat (first | exact DLead.same | exact rfl | refine ⟨_, rfl, ?_⟩ | refine ⟨_, _, rfl, ?_, ?_⟩)) (by repeat (first | exact True.intro | refine And.intro ?_ ?_ | exact DLead.same | exact rfl | refine ⟨_, _, rfl, rfl, ?_⟩ | refine ⟨_, rfl, ?_⟩ | refine ⟨_, _, rfl, ?_, ?_⟩)) rfl rfl
   ·refine AC.skip (ib_n (th_n (AC.region ?_)))
    refine zm ?_
    refine zA ?_
    refine za ?_
    refine AL.nil (th_n ?_)
    exact ⟨(k + 1, A.2), ⟨by dsimp only; omega, by dsimp only; omega⟩, by dsimp only; omega, zw [(201, 201)] hC⟩
  ·refine AC.exit (th_e (th_e (ib_y (th_n (AC.seq (AC.region ?_))))))
   refine AL.q (by exact h_fun (cs := []) en_l2Build rfl rfl (by repeat (first | exact rfl | exact DLead.same | refine ⟨_, _, rfl, ?_, ?_⟩)) (by repeat (exact True.intro)) plS1_spec rfl rfl rfl rfl) rfl ?_
   refine AL.weak (Weak.freezeA3 21 rfl rfl rfl rfl rfl rfl rfl (ownl _ _) (ownl _ _) (ownl _ _) (ownt _ _) (ownt _ _) (ownt _ _)) ?_
   refine AL.weak (t := ⟨26, 400, [(0, .ptr 0 0), (2, .ptr 201 0), (21, stgA plS1)], [(0, some (curC e)), (201, some (.cells 68 zSG))]⟩) (zw [(201, 201)] hC) ?_
   refine AL.q (by exact h_fun (cs := []) en_sBuild rfl rfl (by repeat (first | exact rfl | exact DLead.same | refine ⟨_, _, rfl, ?_, ?_⟩ | refine ⟨_, rfl, ?_⟩)) (by repeat (exact True.intro)) hB1 rfl rfl rfl rfl) rfl ?_
   refine AL.p (by exact mv5 rfl) rfl ?_
   refine AL.p (by exact g_extract (r := .agg _) rfl rfl) rfl ?_
   refine AL.p (by exact g_extract (r := .d _) rfl rfl) rfl ?_
   refine AL.q (by exact h_alloc rfl) rfl ?_
   refine zs ?_
   refine za ?_
   refine AL.nil (th_n (AC.seq ?_))
   refine AC.weak (t := ⟨26, 500, [(2, .ptr 201 0), (6, .ptr 200 0)], [(0, some (curC e)), (201, some (.cells 68 zSG)), (200, some (.cells 68 [.d (vSigs P.1.sigs), .own 101 P.1.codes.length, .own 102 P.1.arcs.length])), (101, some (.arr 9 1 (tsX P.1.codes))), (102, some (.arr 75 4 (arL P.1.arcs)))]⟩) (zw [(201, 201), (200, _), (101, _), (102, _)] hC) ?_
   refine AC.region ?_
   refine AL.p (by exact g_load_ptrN rfl rfl rfl rfl rfl) rfl ?_
   refine zs ?_
   refine AL.nil (th_n (AC.ret (bq_r ?_)))
   exact retX [(1, 101), (2, 102)] rfl ⟨P.1, e, ⟨hS1, by omega⟩, rfl, rfl⟩ (by repeat (first | exact DLead.same | exact rfl | refine ⟨_, rfl, ?_⟩ | refine ⟨_, _, rfl, ?_, ?_⟩)) (by repeat (first | exact True.intro | refine And.intro ?_ ?_ | exact DLead.same | exact rfl | refine ⟨_, _, rfl, rfl, ?_⟩ | refine ⟨_, rfl, ?_⟩ | refine ⟨_, _, rfl, ?_, ?_⟩)) rfl rfl
theorem en_coded : Enters Tryz.prog 202 := enters_of Tryz.func202 rfl rfl
theorem arL_set0 {l : List Ar} (h : 0 < l.length) (a : Ar) : (arL l).set 0 (arD a) = arL (l.set 0 a) := by unfold arL; rw [List.map_set]
theorem tsX_set0 {l : List (List UInt8)} (w : List UInt8) : (tsX l).set 0 [dS (bstr w)] = tsX (l.set 0 w) := by unfold tsX; rw [List.map_set]
set_option maxHeartbeats 8000000 in
theorem anyCoded_spec (c : Cur) (hp : c.pos ≤ 100000) : ASpec Tryz.prog 143 [.ptr 0 0] [(0, curC c)] (SgE 1 (c.pos + 60)) := by
 have hCo := coded_spec c hp
 refine ASpec.of Tryz.func143 rfl rfl fun C hC => ?_
 refine AC.seq (AC.region ?_)
 refine AL.q (by exact h_alloc rfl) rfl ?_
 refine AL.nil (th_n (AC.seq (AC.region ?_)))
 refine AL.p (by exact mv3 rfl) rfl ?_
 refine AL.r (by exact h_funR (cs := [0]) en_coded rfl rfl (by repeat (first | exact rfl | refine ⟨_, _, rfl, ?_, ?_⟩ | refine ⟨_, rfl, ?_⟩)) (by repeat (first | exact True.intro | refine And.intro ?_ ?_ | exact DLead.same | exact rfl | refine ⟨_, _, rfl, rfl, ?_⟩ | refine ⟨_, rfl, ?_⟩ | refine ⟨_, _, rfl, ?_, ?_⟩)) hCo rfl rfl rfl) rfl ?_
 rintro _ ⟨_, _, ⟨G, d, ⟨hG, hd⟩, rfl, rfl⟩, rfl⟩
 obtain ⟨sg, M, L⟩ := G
 have hM0 : 0 < M.length := hG.n0
 have hMn : M.length ≤ 300 + 0 := hG.n
 have hLn : L.length ≤ 4000 + 0 := hG.a
 refine AL.q (by exact h_alloc rfl) rfl ?_
 refine zs ?_
 refine AL.nil (th_n ?_)
 refine AC.cut (fun (z : SG × Cur) => ⟨60, 1500, [(2, .ptr 201 0), (3, .ptr 200 0)], [(0, some (curC z.2)), (201, some (.cells 68 zSG)), (200, some (.cells 68 (sgC z.1)))]⟩) (fun z => SgS 1 z.1 ∧ z.2.pos ≤ c.pos + 60) ?_ ?_
 ·refine AC.seq ?_
  refine AC.weak (t := ⟨60, 300, [(0, .ptr 0 0), (2, .ptr 201 0), (3, .ptr 200 0)], [(0, some (curC d)), (201, some (.cells 68 zSG)), (200, some (.cells 68 [.d (vSigs sg), .own 101 M.length, .own 102 L.length])), (101, some (.arr 9 1 (tsX M))), (102, some (.arr 75 4 (arL L)))]⟩) (zw [(201, _), (200, _), (101, _), (102, _)] hC) ?_
  have hK := pick_spec d 20 (by decide) (by omega)
  have hKp := d.pick_pos 20
  obtain ⟨p, hpp⟩ : ∃ p, p = d.pick 20 := ⟨_, rfl⟩
  rw [← hpp] at hK hKp
  have hM1 := tsX_get hM0
  have hw := hG.cl _ (List.getElem_mem hM0)
  obtain ⟨w, hww⟩ : ∃ w, w = M[0] := ⟨_, rfl⟩
  rw [← hww] at hM1 hw
  have hSp := spoilt_spec p.2 w [48, 49, 50] (by omega) (by decide) (by decide) (by omega)
  have hSi := p.2.spoilt_in w [48, 49, 50]
  obtain ⟨z, hz⟩ : ∃ z, z = p.2.spoilt w [48, 49, 50] := ⟨_, rfl⟩
  rw [← hz] at hSp hSi
  have hK2 := pick_spec p.2 9 (by decide) (by omega)
  have hK2i := p.2.pick_in 9 (by decide)
  have hK2p := p.2.pick_pos 9
  obtain ⟨u, hu⟩ : ∃ u, u = p.2.pick 9 := ⟨_, rfl⟩
  rw [← hu] at hK2 hK2i hK2p
  have hset := tsX_set0 (l := M) z.1
  clear hpp hz hu
  refine AC.region ?_
  refine AL.p (by exact mv3 rfl) rfl ?_
  refine AL.q (by exact h_fun (cs := [0]) en_pick rfl rfl (by repeat (first | exact rfl | exact DLead.same | refine ⟨_, _, rfl, ?_, ?_⟩ | refine ⟨_, rfl, ?_⟩)) (by repeat (first | exact True.intro | refine And.intro ?_ ?_ | exact DLead.same | exact rfl | refine ⟨_, _, rfl, rfl, ?_⟩ | refine ⟨_, rfl, ?_⟩ | refine ⟨_, _, rfl, ?_, ?_⟩)) hK rfl rfl rfl rfl) rfl ?_
  refine AL.nil (th_n (AC.block (AC.seq (AC.region ?_))))
  refine zc ?_
  refine za ?_
  refine AL.nil (th_n ?_)
  refine AC.condD rfl (fun h0 => ?_) (fun h0 => ?_)
  ·refine AC.drawn' mixed_ok [[], [0], [], [], [3], [3,4], [3,4,5], [2,3,4,5,6], [0,1,2,3,4,5,6,7], [0,1,2,3,4,5,6,7,8]] (by decide) ?_
   refine DF.op 0 [] 10 rfl rfl rfl (.free rfl (NOp.of (by exact g_fa_ptr rfl rfl rfl rfl rfl))) rfl ?_
   refine DF.op 1 [0] 10 rfl rfl rfl (.free rfl (NOp.of (by exact g_load_ptr rfl rfl rfl rfl rfl))) rfl ?_
   refine DF.op 2 [] 10 rfl rfl rfl (.free rfl (NOp.of (by exact mv3 rfl))) rfl ?_
   refine DF.op 3 [] 10 rfl rfl rfl (.free rfl (NOp.of (by exact g_fa_ptr rfl rfl rfl rfl rfl))) rfl ?_
   refine DF.op 4 [3] 10 rfl rfl rfl (.free rfl (NOp.of (by exact g_load_ptr rfl rfl rfl rfl rfl))) rfl ?_
   refine DF.op 5 [3,4] 10 rfl rfl rfl (.free rfl (NOp.of (by exact g_ia_own (i := 0) (l := M.length) rfl rfl rfl rfl rfl rfl hM0 rfl))) rfl ?_
   refine DF.op 6 [3,4,5] 10 rfl rfl rfl (.free rfl (NOp.of (by exact g_load_arr1 rfl rfl rfl rfl (by rw [Nat.mul_one]; exact hM1)))) rfl ?_
   refine DF.op 7 [2,3,4,5,6] 10 rfl rfl rfl (.free rfl (by exact h_fun (cs := [0]) en_spoilt rfl rfl (by repeat (first | exact rfl | exact DLead.same | refine ⟨_, _, rfl, ?_, ?_⟩ | refine ⟨_, rfl, ?_⟩)) (by repeat (first | exact True.intro | refine And.intro ?_ ?_ | exact DLead.same | exact rfl | refine ⟨_, _, rfl, rfl, ?_⟩ | refine ⟨_, rfl, ?_⟩ | refine ⟨_, _, rfl, ?_, ?_⟩)) hSp rfl rfl rfl rfl)) rfl ?_
   refine DF.op 8 [0,1,2,3,4,5,6,7] 10 rfl rfl rfl (.free rfl (NOp.of (by exact g_ia_own (i := 0) (l := M.length) rfl rfl rfl rfl rfl rfl hM0 rfl))) rfl ?_
   refine DF.op 9 (List.range 9) 10 rfl rfl rfl (.free rfl (by exact h_store_arr (i := 0) (j := 0) (d := dS (bstr z.1)) rfl rfl rfl rfl .same rfl hM1 (by decide))) rfl ?_
   refine DF.fin (ps := [(0,2),(0,3),(0,4),(0,5),(0,6),(0,7),(1,2),(1,3),(1,4),(1,5),(1,6),(1,7),(2,0),(2,1),(2,3),(2,4),(2,5),(2,6),(3,0),(3,1),(3,2),(4,0),(4,1),(4,2),(5,0),(5,1),(5,2),(6,0),(6,1),(6,2),(7,0),(7,1)]) 10 rfl (by decide +kernel) (by decide +kernel) (by rfl) ?_
   refine ib_n (th_n ?_)
   (have hg := ‹p.1 = 0›; exact ⟨(⟨sg, M.set 0 z.1, L⟩, z.2), ⟨⟨hG.sg, hG.sn, by dsimp only; rw [List.length_set]; exact hG.n0, by dsimp only; rw [List.length_set]; omega, fun x hx => by rcases List.mem_or_eq_of_mem_set hx with q | rfl; (have := hG.cl x q; omega); omega, by have := hG.a; dsimp only at this ⊢; omega⟩, by dsimp only; omega⟩, ((Weak.freezeP (els' := tsX (M.set 0 z.1)) 3 1 rfl rfl rfl rfl (by rw [List.length_set, tsX_len]; exact Nat.le_refl _) ((List.take_of_length_le (by rw [List.length_set, tsX_len]; exact Nat.le_refl _)).trans hset) rfl).trans (Weak.freezeP (els' := arL (L)) 3 2 rfl rfl rfl rfl (by rw [arL_len]; exact Nat.le_refl _) (List.take_of_length_le (by rw [arL_len]; exact Nat.le_refl _)) rfl)).trans (zw [(201, 201), (200, 200)] hC)⟩)
  ·refine AC.seq (AC.region ?_)
   refine zc ?_
   refine za ?_
   refine AL.nil (th_n ?_)
   refine AC.condD rfl (fun h1 => ?_) (fun h1 => ?_)
   ·refine AC.seq (AC.region ?_)
    refine zF ?_
    refine zl ?_
    refine AL.p (by exact g_len_own (sz := 1) (els := []) (e' := 0) rfl rfl (by simp only [maxLen]; omega)) rfl ?_
    refine zc ?_
    refine AL.nil (th_n ?_)
    refine AC.condD rfl (fun h2 => ?_) (fun h2 => ?_)
    ·have hL0 : 0 < L.length := by omega
     have hrow := arL_get hL0
     refine AC.drawn' mixed_ok [[], [0], [], [2], [2,3], [0,1,2,3,4], [0,1,2,3,4,5], [0,1,2,3,4,5,6]] (by decide) ?_
     refine DF.op 0 [] 8 rfl rfl rfl (.free rfl (NOp.of (by exact g_fa_ptr rfl rfl rfl rfl rfl))) rfl ?_
     refine DF.op 1 [0] 8 rfl rfl rfl (.free rfl (NOp.of (by exact g_load_ptr rfl rfl rfl rfl rfl))) rfl ?_
     refine DF.op 2 [] 8 rfl rfl rfl (.free rfl (NOp.of (by exact mv3 rfl))) rfl ?_
     refine DF.op 3 [2] 8 rfl rfl rfl (.free rfl (by exact h_fun (cs := [0]) en_pick rfl rfl (by repeat (first | exact rfl | exact DLead.same | refine ⟨_, _, rfl, ?_, ?_⟩ | refine ⟨_, rfl, ?_⟩)) (by repeat (first | exact True.intro | refine And.intro ?_ ?_ | exact DLead.same | exact rfl | refine ⟨_, _, rfl, rfl, ?_⟩ | refine ⟨_, rfl, ?_⟩ | refine ⟨_, _, rfl, ?_, ?_⟩)) hK2 rfl rfl rfl rfl)) rfl ?_
     refine DF.op 4 [2,3] 8 rfl rfl rfl (.free rfl (NOp.of (by exact g_arith rfl rfl rfl (by exact wrap_i64 (by omega))))) rfl ?_
     refine DF.op 5 [0,1,2,3,4] 8 rfl rfl rfl (.free rfl (NOp.of (by exact g_ia_own (i := 0) (l := L.length) rfl rfl rfl rfl rfl rfl hL0 rfl))) rfl ?_
     refine DF.op 6 [0,1,2,3,4,5] 8 rfl rfl rfl (.free rfl (NOp.of (by exact g_fa_ptr rfl rfl rfl rfl rfl))) rfl ?_
     refine DF.op 7 [0,1,2,3,4,5,6] 8 rfl rfl rfl (.free rfl (by exact h_store_arr (i := 0) (j := 3) (d := dI (u.1 - 1)) rfl rfl rfl rfl .same rfl hrow (by decide))) rfl ?_
     refine DF.fin (ps := [(0,2),(0,3),(0,4),(1,2),(1,3),(1,4),(2,0),(2,1),(3,0),(3,1),(4,0),(4,1)]) 8 rfl (by decide +kernel) (by decide +kernel) (by rfl) ?_
     refine ib_n (th_n ?_)
     (have hg := ‹p.1 = 1›; have hg2 := ‹(L.length : Int) > 0›; have hL0 : 0 < L.length := (by omega); exact ⟨(⟨sg, M, L.set 0 ⟨L[0].from_, L[0].sig, L[0].up, u.1 - 1⟩⟩, u.2), ⟨⟨hG.sg, hG.sn, hG.n0, by have := hG.n; dsimp only at this ⊢; omega, fun w hw => by have := hG.cl w hw; omega, by dsimp only; rw [List.length_set]; omega⟩, by dsimp only; omega⟩, ((Weak.freezeP (els' := tsX (M)) 3 1 rfl rfl rfl rfl (by rw [tsX_len]; exact Nat.le_refl _) (List.take_of_length_le (by rw [tsX_len]; exact Nat.le_refl _)) rfl).trans (Weak.freezeP (els' := arL (L.set 0 ⟨L[0].from_, L[0].sig, L[0].up, u.1 - 1⟩)) 3 2 rfl rfl rfl rfl (by rw [List.length_set, arL_len]; exact Nat.le_refl _) ((List.take_of_length_le (by rw [List.length_set, arL_len]; exact Nat.le_refl _)).trans (arL_set0 hL0 ⟨L[0].from_, L[0].sig, L[0].up, u.1 - 1⟩)) rfl)).trans (zw [(201, 201), (200, 200)] hC)⟩)
    ·refine AC.skip (ib_n (th_n ?_))
     exact ⟨(⟨sg, M, L⟩, p.2), ⟨⟨hG.sg, hG.sn, hG.n0, by have := hG.n; dsimp only at this ⊢; omega, fun w hw => by have := hG.cl w hw; omega, by have := hG.a; dsimp only at this ⊢; omega⟩, by dsimp only; omega⟩, ((Weak.freezeP (els' := tsX (M)) 3 1 rfl rfl rfl rfl (by rw [tsX_len]; exact Nat.le_refl _) (List.take_of_length_le (by rw [tsX_len]; exact Nat.le_refl _)) rfl).trans (Weak.freezeP (els' := arL (L)) 3 2 rfl rfl rfl rfl (by rw [arL_len]; exact Nat.le_refl _) (List.take_of_length_le (by rw [arL_len]; exact Nat.le_refl _)) rfl)).trans (zw [(201, 201), (200, 200)] hC)⟩
   ·refine AC.seq (AC.region ?_)
    refine zc ?_
    refine za ?_
    refine AL.nil (th_n ?_)
    refine AC.condD rfl (fun h2 => ?_) (fun h2 => ?_)
    ·refine AC.drawn' mixed_ok [[], [0], [], [2], [2,3], [2,3,4], [2,3,4,5], [0,1,2,3,4,5,6], [0,1,2,3,4,5,6,7], [0,1,2,3,4,5,6,7,8]] (by decide) ?_
     refine DF.op 0 [] 10 rfl rfl rfl (.free rfl (NOp.of (by exact g_fa_ptr rfl rfl rfl rfl rfl))) rfl ?_
     refine DF.op 1 [0] 10 rfl rfl rfl (.free rfl (NOp.of (by exact g_load_ptr rfl rfl rfl rfl rfl))) rfl ?_
     refine DF.op 2 [] 10 rfl rfl rfl (.free rfl (NOp.of (by exact g_fa_ptr rfl rfl rfl rfl rfl))) rfl ?_
     refine DF.op 3 [2] 10 rfl rfl rfl (.free rfl (NOp.of (by exact g_load_ptr rfl rfl rfl rfl rfl))) rfl ?_
     refine DF.op 4 [2,3] 10 rfl rfl rfl (.free rfl (NOp.of (by exact g_ia_own (i := 0) (l := M.length) rfl rfl rfl rfl rfl rfl hM0 rfl))) rfl ?_
     refine DF.op 5 [2,3,4] 10 rfl rfl rfl (.free rfl (NOp.of (by exact g_load_arr1 rfl rfl rfl rfl (by rw [Nat.mul_one]; exact hM1)))) rfl ?_
     refine DF.op 6 [2,3,4,5] 10 rfl rfl rfl (.free rfl (by exact h_litF rfl rfl rfl rfl rfl rfl rfl rfl)) rfl ?_
     refine DF.op 7 [0,1,2,3,4,5,6] 10 rfl rfl rfl (.free rfl (by exact h_appendX M [w] (.own rfl rfl (tsX_len _).symm) (.view rfl) (by rw [List.length_append]; simp only [List.length_cons, List.length_nil]; omega) (by simp))) rfl ?_
     refine DF.op 8 [0,1,2,3,4,5,6,7] 10 rfl rfl rfl (.free rfl (NOp.of (by exact g_fa_ptr rfl rfl rfl rfl rfl))) rfl ?_
     refine DF.op 9 (List.range 9) 10 rfl rfl rfl (.free rfl (by exact h_store rfl rfl rfl rfl rfl rfl)) rfl ?_
     refine DF.fin (ps := [(0,2),(0,3),(0,4),(0,5),(0,6),(1,2),(1,3),(1,4),(1,5),(1,6),(2,0),(2,1),(3,0),(3,1),(4,0),(4,1),(5,0),(5,1),(6,0),(6,1)]) 10 rfl (by decide +kernel) (by decide +kernel) (by rfl) ?_
     refine ib_n (th_n ?_)
     (have hg := ‹p.1 = 2›; exact ⟨(⟨sg, M ++ [w], L⟩, p.2), ⟨⟨hG.sg, hG.sn, by dsimp only; rw [List.length_append]; omega, by dsimp only; rw [List.length_append, List.length_singleton]; omega, fun x hx => by rcases List.mem_append.1 hx with q | q; (have := hG.cl x q; omega); (rw [List.mem_singleton.1 q]; omega), by have := hG.a; dsimp only at this ⊢; omega⟩, by dsimp only; omega⟩, ((Weak.freezeP (els' := tsX (M ++ [w])) 3 1 rfl rfl rfl rfl (by rw [tsX_len]; exact Nat.le_refl _) (List.take_of_length_le (by rw [tsX_len]; exact Nat.le_refl _)) rfl).trans (Weak.freezeP (els' := arL (L)) 3 2 rfl rfl rfl rfl (by rw [arL_len]; exact Nat.le_refl _) (List.take_of_length_le (by rw [arL_len]; exact Nat.le_refl _)) rfl)).trans (zw [(201, 201), (200, 200)] hC)⟩)
    ·refine AC.seq (AC.region ?_)
     refine zc ?_
     refine za ?_
     refine AL.nil (th_n ?_)
     refine AC.condD rfl (fun h3 => ?_) (fun h3 => ?_)
     ·refine AC.seq (AC.region ?_)
      refine zF ?_
      refine zl ?_
      refine AL.p (by exact g_len_own (sz := 1) (els := []) (e' := 0) rfl rfl (by simp only [maxLen]; omega)) rfl ?_
      refine zc ?_
      refine AL.nil (th_n ?_)
      refine AC.condD rfl (fun h4 => ?_) (fun h4 => ?_)
      ·have hL0 : 0 < L.length := by omega
       have hrow := arL_get hL0
       refine AC.drawn' mixed_ok [[], [0], [], [2], [2,3], [2,3,4], [2,3,4,5], [2,3,4,5,6], [0,1,2,3,4,5,6,7], [0,1,2,3,4,5,6,7,8], [0,1,2,3,4,5,6,7,8,9]] (by decide) ?_
       refine DF.op 0 [] 11 rfl rfl rfl (.free rfl (NOp.of (by exact g_fa_ptr rfl rfl rfl rfl rfl))) rfl ?_
       refine DF.op 1 [0] 11 rfl rfl rfl (.free rfl (NOp.of (by exact g_load_ptr rfl rfl rfl rfl rfl))) rfl ?_
       refine DF.op 2 [] 11 rfl rfl rfl (.free rfl (NOp.of (by exact g_fa_ptr rfl rfl rfl rfl rfl))) rfl ?_
       refine DF.op 3 [2] 11 rfl rfl rfl (.free rfl (NOp.of (by exact g_load_ptr rfl rfl rfl rfl rfl))) rfl ?_
       refine DF.op 4 [2,3] 11 rfl rfl rfl (.free rfl (NOp.of (by exact g_ia_own (i := 0) (l := L.length) rfl rfl rfl rfl rfl rfl hL0 rfl))) rfl ?_
       refine DF.op 5 [2,3,4] 11 rfl rfl rfl (.free rfl (NOp.of (by exact g_fa_ptr rfl rfl rfl rfl rfl))) rfl ?_
       refine DF.op 6 [2,3,4,5] 11 rfl rfl rfl (.free rfl (NOp.of (by exact g_load_arr (i := 0) (j := 2) rfl rfl rfl rfl rfl hrow rfl))) rfl ?_
       refine DF.op 7 [2,3,4,5,6] 11 rfl rfl rfl (.free rfl (NOp.of (by exact g_not rfl))) rfl ?_
       refine DF.op 8 [0,1,2,3,4,5,6,7] 11 rfl rfl rfl (.free rfl (NOp.of (by exact g_ia_own (i := 0) (l := L.length) rfl rfl rfl rfl rfl rfl hL0 rfl))) rfl ?_
       refine DF.op 9 (List.range 9) 11 rfl rfl rfl (.free rfl (NOp.of (by exact g_fa_ptr rfl rfl rfl rfl rfl))) rfl ?_
       refine DF.op 10 (List.range 10) 11 rfl rfl rfl (.free rfl (by exact h_store_arr (i := 0) (j := 2) (d := dT (!L[0].up)) rfl rfl rfl rfl .same rfl hrow (by decide))) rfl ?_
       refine DF.fin (ps := [(0,2),(0,3),(0,4),(0,5),(0,6),(0,7),(1,2),(1,3),(1,4),(1,5),(1,6),(1,7),(2,0),(2,1),(3,0),(3,1),(4,0),(4,1),(5,0),(5,1),(6,0),(6,1),(7,0),(7,1)]) 11 rfl (by decide +kernel) (by decide +kernel) (by rfl) ?_
       refine ib_n (th_n ?_)
       (have hg := ‹p.1 = 3›; have hg2 := ‹(L.length : Int) > 0›; have hL0 : 0 < L.length := (by omega); exact ⟨(⟨sg, M, L.set 0 ⟨L[0].from_, L[0].sig, !L[0].up, L[0].to_⟩⟩, p.2), ⟨⟨hG.sg, hG.sn, hG.n0, by have := hG.n; dsimp only at this ⊢; omega, fun w hw => by have := hG.cl w hw; omega, by dsimp only; rw [List.length_set]; omega⟩, by dsimp only; omega⟩, ((Weak.freezeP (els' := tsX (M)) 3 1 rfl rfl rfl rfl (by rw [tsX_len]; exact Nat.le_refl _) (List.take_of_length_le (by rw [tsX_len]; exact Nat.le_refl _)) rfl).trans (Weak.freezeP (els' := arL (L.set 0 ⟨L[0].from_, L[0].sig, !L[0].up, L[0].to_⟩)) 3 2 rfl rfl rfl rfl (by rw [List.length_set, arL_len]; exact Nat.le_refl _) ((List.take_of_length_le (by rw [List.length_set, arL_len]; exact Nat.le_refl _)).trans (arL_set0 hL0 ⟨L[0].from_, L[0].sig, !L[0].up, L[0].to_⟩)) rfl)).trans (zw [(201, 201), (200, 200)] hC)⟩)
      ·refine AC.skip (ib_n (th_n ?_))
       exact ⟨(⟨sg, M, L⟩, p.2), ⟨⟨hG.sg, hG.sn, hG.n0, by have := hG.n; dsimp only at this ⊢; omega, fun w hw => by have := hG.cl w hw; omega, by have := hG.a; dsimp only at this ⊢; omega⟩, by dsimp only; omega⟩, ((Weak.freezeP (els' := tsX (M)) 3 1 rfl rfl rfl rfl (by rw [tsX_len]; exact Nat.le_refl _) (List.take_of_length_le (by rw [tsX_len]; exact Nat.le_refl _)) rfl).trans (Weak.freezeP (els' := arL (L)) 3 2 rfl rfl rfl rfl (by rw [arL_len]; exact Nat.le_refl _) (List.take_of_length_le (by rw [arL_len]; exact Nat.le_refl _)) rfl)).trans (zw [(201, 201), (200, 200)] hC)⟩
     ·refine AC.skip (ib_n (th_n ?_))
      exact ⟨(⟨sg, M, L⟩, p.2), ⟨⟨hG.sg, hG.sn, hG.n0, by have := hG.n; dsimp only at this ⊢; omega, fun w hw => by have := hG.cl w hw; omega, by have := hG.a; dsimp only at this ⊢; omega⟩, by dsimp only; omega⟩, ((Weak.freezeP (els' := tsX (M)) 3 1 rfl rfl rfl rfl (by rw [tsX_len]; exact Nat.le_refl _) (List.take_of_length_le (by rw [tsX_len]; exact Nat.le_refl _)) rfl).trans (Weak.freezeP (els' := arL (L)) 3 2 rfl rfl rfl rfl (by rw [arL_len]; exact Nat.le_refl _) (List.take_of_length_le (by rw [arL_len]; exact Nat.le_refl _)) rfl)).trans (zw [(201, 201), (200, 200)] hC)⟩
 ·rintro ⟨g, e⟩ ⟨hg, he⟩
  dsimp only at hg he ⊢
  refine AC.seq (AC.region ?_)
  refine AL.p (by exact g_load_ptrN rfl rfl rfl rfl rfl) rfl ?_
  refine zs ?_
  refine AL.nil (th_n (AC.ret (bq_r ?_)))
  exact retX [] rfl ⟨g, e, ⟨hg, he⟩, rfl, rfl⟩ (by repeat (first | exact DLead.same | exact rfl | refine ⟨_, rfl, ?_⟩ | refine ⟨_, _, rfl, ?_, ?_⟩)) (by repeat (first | exact True.intro | refine And.intro ?_ ?_ | exact DLead.same | exact rfl | refine ⟨_, _, rfl, rfl, ?_⟩ | refine ⟨_, rfl, ?_⟩ | refine ⟨_, _, rfl, ?_, ?_⟩)) rfl rfl
theorem en_anyCoded : Enters Tryz.prog 143 := enters_of Tryz.func143 rfl rfl
theorem l1OwnS_spec (l : List (List UInt8)) (hl : l.length ≤ 1000000) : ASpec Tryz.prog 203 [.d (.view 9 1 (tsX l))] [] (Fun1 (.own 0 l.length) [(0, .arr 9 1 (tsX l))]) := by
 refine ASpec.of Tryz.func203 rfl rfl fun C hC => ?_
 refine AC.seq (AC.region ?_)
 refine za ?_
 refine AL.nil (th_n (AC.seq (AC.region ?_)))
 refine AL.q (by exact h_lit rfl rfl rfl rfl rfl rfl rfl rfl) rfl ?_
 refine zm ?_
 refine AL.q (by exact h_appendX [] l (.own rfl rfl rfl) (.view rfl) (by simp; omega) (by simp)) rfl ?_
 refine AL.p (by exact as2 rfl) rfl ?_
 refine AL.nil (th_n (AC.ret (bq_r ?_)))
 exact retN [(0, _)] rfl (by repeat (first | exact rfl | refine ⟨_, rfl, ?_⟩)) (by repeat (first | exact True.intro | refine And.intro ?_ ?_ | exact rfl | refine ⟨_, _, rfl, rfl, ?_⟩)) rfl rfl
theorem en_l1OwnS : Enters Tryz.prog 203 := enters_of Tryz.func203 rfl rfl
set_option maxHeartbeats 2000000 in
theorem l5Own_spec (c : SG) (hc : SgS 1 c) : ASpec Tryz.prog 144 [sgA c] [] (Fun1 (.agg [.d (vSigs c.sigs), .own 0 c.codes.length, .own 1 c.arcs.length]) [(0, .arr 9 1 (tsX c.codes)), (1, .arr 75 4 (arL c.arcs))]) := by
 have hO := l1OwnS_spec c.codes (by have := hc.n; omega)
 have hsg := hc.sg
 have ha := hc.a
 refine ASpec.of Tryz.func144 rfl rfl fun C hC => ?_
 refine AC.seq (AC.region ?_)
 refine AL.q (by exact h_boxF rfl rfl) rfl ?_
 refine AL.q (by exact h_alloc rfl) rfl ?_
 refine AL.nil (th_n (AC.seq ?_))
 refine AC.drawn' mixed_ok [[], [], [1], [0,1,2], [], [4], [0,1,2,3,4,5], [], [], [8], [0,1,2,3,4,5,6,7,8,9], [0,1,2,3,4,5,6,7,8,9,10], [0,1,2,3,4,5,6,7,8,9,10,11]] (by decide) ?_
 refine DF.op 0 [] 13 rfl rfl rfl (.free rfl (by exact h_lit rfl rfl rfl rfl rfl rfl rfl rfl)) rfl ?_
 refine DF.op 1 [] 13 rfl rfl rfl (.free rfl (NOp.of (by exact g_fa_ref rfl rfl rfl rfl rfl rfl))) rfl ?_
 refine DF.op 2 [1] 13 rfl rfl rfl (.free rfl (NOp.of (by exact g_load_ref rfl rfl rfl))) rfl ?_
 refine DF.op 3 [0,1,2] 13 rfl rfl rfl (.free rfl (by exact h_appendSg [] c.sigs (.own rfl rfl rfl) (.view rfl) (by simp; omega) (by simp))) rfl ?_
 refine DF.op 4 [] 13 rfl rfl rfl (.free rfl (NOp.of (by exact g_fa_ref rfl rfl rfl rfl rfl rfl))) rfl ?_
 refine DF.op 5 [4] 13 rfl rfl rfl (.free rfl (NOp.of (by exact g_load_ref rfl rfl rfl))) rfl ?_
 refine DF.op 6 [0,1,2,3,4,5] 13 rfl rfl rfl (.free rfl (by exact h_fun (cs := []) en_l1OwnS rfl rfl (by repeat (first | exact rfl | exact DLead.same | refine ⟨_, _, rfl, ?_, ?_⟩)) (by repeat (exact True.intro)) hO rfl rfl rfl rfl)) rfl ?_
 refine DF.op 7 [] 13 rfl rfl rfl (.free rfl (by exact h_lit rfl rfl rfl rfl rfl rfl rfl rfl)) rfl ?_
 refine DF.op 8 [] 13 rfl rfl rfl (.free rfl (NOp.of (by exact g_fa_ref rfl rfl rfl rfl rfl rfl))) rfl ?_
 refine DF.op 9 [8] 13 rfl rfl rfl (.free rfl (NOp.of (by exact g_load_ref rfl rfl rfl))) rfl ?_
 refine DF.op 10 (List.range 10) 13 rfl rfl rfl (.free rfl (by exact h_appendAr [] c.arcs (.own rfl rfl rfl) (.view rfl) (by simp; omega) (by simp))) rfl ?_
 refine DF.op 11 (List.range 11) 13 rfl rfl rfl (.free rfl (NOp.of (by exact g_build rfl rfl rfl))) rfl ?_
 refine DF.op 12 (List.range 12) 13 rfl rfl rfl (.free rfl (by exact h_store rfl rfl rfl rfl rfl rfl)) rfl ?_
 refine DF.fin (ps := [(0,1),(0,2),(0,4),(0,5),(0,7),(0,8),(0,9),(1,0),(1,4),(1,5),(1,7),(1,8),(1,9),(2,0),(2,4),(2,5),(2,7),(2,8),(2,9),(3,4),(3,5),(3,7),(3,8),(3,9),(4,0),(4,1),(4,2),(4,3),(4,7),(4,8),(4,9),(5,0),(5,1),(5,2),(5,3),(5,7),(5,8),(5,9),(6,7),(6,8),(6,9),(7,0),(7,1),(7,2),(7,3),(7,4),(7,5),(7,6),(7,8),(7,9),(8,0),(8,1),(8,2),(8,3),(8,4),(8,5),(8,6),(8,7),(9,0),(9,1),(9,2),(9,3),(9,4),(9,5),(9,6),(9,7)]) 13 rfl (by decide +kernel) (by decide +kernel) (by rfl) ?_
 refine th_n ?_
 refine AC.weak (Weak.freezeP (els' := sigsL c.sigs) 2 0 rfl rfl rfl rfl (Nat.le_of_eq (sigsL_len _).symm) (List.take_of_length_le (Nat.le_of_eq (sigsL_len _))) rfl) ?_
 refine AC.ret (bq_r ?_)
 exact retN [(0, _), (1, _)] rfl (by repeat (first | exact rfl | exact DLead.same | refine ⟨_, _, rfl, ?_, ?_⟩ | refine ⟨_, rfl, ?_⟩)) (by repeat (first | exact True.intro | refine And.intro ?_ ?_ | exact rfl | refine ⟨_, _, rfl, rfl, ?_⟩)) rfl rfl
theorem en_l5Own : Enters Tryz.prog 144 := enters_of Tryz.func144 rfl rfl
theorem sDrawBuild_spec (code : List UInt8) : ASpec Tryz.prog 42 [.d (vB code)] [] StgE0 := by
 have hp0 : (cur0 code).pos = 0 := rfl
 have hA := anyStg_spec (cur0 code) (by omega)
 have hi := anyI_in (cur0 code)
 obtain ⟨A, hAA⟩ : ∃ A, A = anyI (cur0 code) := ⟨_, rfl⟩
 rw [← hAA] at hA hi
 refine ASpec.of Tryz.func42 rfl rfl fun C hC => ?_
 refine AC.seq (AC.region ?_)
 refine AL.q (by exact h_alloc rfl) rfl ?_
 refine AL.nil (th_n (AC.seq (AC.region ?_)))
 refine zm ?_
 refine AL.p (by exact g_build rfl rfl rfl) rfl ?_
 refine AL.q (by exact h_box rfl) rfl ?_
 refine AL.p (by exact as3 rfl) rfl ?_
 refine AL.nil (th_n (AC.seq (AC.region ?_)))
 refine AL.p (by exact mv3 rfl) rfl ?_
 refine AL.q (by exact h_fun (cs := [8]) en_anyStg rfl rfl (by repeat (first | exact rfl | refine ⟨_, _, rfl, ?_, ?_⟩ | refine ⟨_, rfl, ?_⟩)) (by repeat (first | exact True.intro | refine And.intro ?_ ?_ | exact DLead.same | exact rfl | refine ⟨_, _, rfl, rfl, ?_⟩ | refine ⟨_, rfl, ?_⟩ | refine ⟨_, _, rfl, ?_, ?_⟩)) hA rfl rfl rfl rfl) rfl ?_
 refine AL.weak (Weak.freezeA (i := 8) (k := 2) rfl rfl rfl (ownl _ _) (ownt _ _)) ?_
 refine zs ?_
 refine AL.nil (th_n (AC.ret (bq_r ?_)))
 exact retX [] rfl ⟨A.1, hi.1, rfl, rfl⟩ (by repeat (first | exact DLead.same | exact rfl | refine ⟨_, rfl, ?_⟩ | refine ⟨_, _, rfl, ?_, ?_⟩)) (by repeat (exact True.intro)) rfl rfl
theorem en_sDrawBuild : Enters Tryz.prog 42 := enters_of Tryz.func42 rfl rfl
def conS : Stg := buildS [97] [98] [] [97, 43, 47, 49, 62, 98, 43, 32, 98, 43, 62, 97, 43, 47, 50, 32, 97, 43, 47, 50, 62, 98, 45, 32, 42, 98, 45, 62, 97, 43, 47, 49]
theorem conS_ok : okS conS = true := by decide +kernel
theorem conS_spec : ASpec Tryz.prog 145 [aS (bstr [97]), aS (bstr [98]), aS (bstr []), aS (bstr [97, 43, 47, 49, 62, 98, 43, 32, 98, 43, 62, 97, 43, 47, 50, 32, 97, 43, 47, 50, 62, 98, 45, 32, 42, 98, 45, 62, 97, 43, 47, 49])] [] (Fun1 (stgO conS 0 1 2) (stgChs conS 0 1 2)) := l2Build_spec _ _ _ _ (by decide) (by decide) (by decide) (by decide) (by decide +kernel)
set_option maxHeartbeats 2000000 in
theorem sDrawIncon_spec (code : List UInt8) : ASpec Tryz.prog 52 [.d (vB code)] [] StgE0 := by
 have hp0 : (cur0 code).pos = 0 := rfl
 have hO := one_spec (cur0 code) 3 (by decide) (by omega)
 have hp2 := (cur0 code).pick_pos 3
 obtain ⟨d, hd⟩ : ∃ d, d = ((cur0 code).pick 3).2 := ⟨_, rfl⟩
 obtain ⟨b, hb⟩ : ∃ b, b = decide (((cur0 code).pick 3).1 = 0) := ⟨_, rfl⟩
 rw [← hd] at hO hp2
 rw [← hb] at hO
 have hA := anyStg_spec d (by omega)
 have hi := anyI_in d
 obtain ⟨A, hAA⟩ : ∃ A, A = anyI d := ⟨_, rfl⟩
 rw [← hAA] at hA hi
 clear hd hb hAA
 refine ASpec.of Tryz.func52 rfl rfl fun C hC => ?_
 refine AC.seq (AC.region ?_)
 refine AL.q (by exact h_alloc rfl) rfl ?_
 refine AL.nil (th_n (AC.seq (AC.region ?_)))
 refine zm ?_
 refine AL.p (by exact g_build rfl rfl rfl) rfl ?_
 refine AL.q (by exact h_box rfl) rfl ?_
 refine AL.p (by exact as3 rfl) rfl ?_
 refine AL.nil (th_n (AC.seq (AC.seq (AC.region ?_))))
 refine AL.p (by exact mv3 rfl) rfl ?_
 refine AL.q (by exact h_fun (cs := [8]) en_one rfl rfl (by repeat (first | exact rfl | exact DLead.same | refine ⟨_, _, rfl, ?_, ?_⟩ | refine ⟨_, rfl, ?_⟩)) (by repeat (first | exact True.intro | refine And.intro ?_ ?_ | exact DLead.same | exact rfl | refine ⟨_, _, rfl, rfl, ?_⟩ | refine ⟨_, rfl, ?_⟩ | refine ⟨_, _, rfl, ?_, ?_⟩)) hO rfl rfl rfl rfl) rfl ?_
 refine AL.nil (th_n ?_)
 refine AC.condB rfl (fun h0 => ?_) (fun h0 => ?_)
 ·refine AC.seq (AC.region ?_)
  refine AL.q (by exact h_fun (cs := []) en_l2Build rfl rfl (by repeat (first | exact rfl | exact DLead.same | refine ⟨_, _, rfl, ?_, ?_⟩)) (by repeat (exact True.intro)) conS_spec rfl rfl rfl rfl) rfl ?_
  refine AL.weak (Weak.freezeA3 9 rfl rfl rfl rfl rfl rfl rfl (ownl _ _) (ownl _ _) (ownl _ _) (ownt _ _) (ownt _ _) (ownt _ _)) ?_
  refine zs ?_
  refine AL.nil (th_n (AC.ret (th_r (bq_r ?_))))
  exact retX [] rfl ⟨conS, (okS_S conS_ok).1, rfl, rfl⟩ (by repeat (first | exact DLead.same | exact rfl | refine ⟨_, rfl, ?_⟩ | refine ⟨_, _, rfl, ?_, ?_⟩)) (by repeat (exact True.intro)) rfl rfl
 ·refine AC.skip (th_n (AC.seq (AC.region ?_)))
  refine AL.p (by exact mv3 rfl) rfl ?_
  refine AL.q (by exact h_fun (cs := [8]) en_anyStg rfl rfl (by repeat (first | exact rfl | refine ⟨_, _, rfl, ?_, ?_⟩ | refine ⟨_, rfl, ?_⟩)) (by repeat (first | exact True.intro | refine And.intro ?_ ?_ | exact DLead.same | exact rfl | refine ⟨_, _, rfl, rfl, ?_⟩ | refine ⟨_, rfl, ?_⟩ | refine ⟨_, _, rfl, ?_, ?_⟩)) hA rfl rfl rfl rfl) rfl ?_
  refine AL.weak (Weak.freezeA (i := 11) (k := 2) rfl rfl rfl (ownl _ _) (ownt _ _)) ?_
  refine zs ?_
  refine AL.nil (th_n (AC.ret (bq_r ?_)))
  exact retX [] rfl ⟨A.1, hi.1, rfl, rfl⟩ (by repeat (first | exact DLead.same | exact rfl | refine ⟨_, rfl, ?_⟩ | refine ⟨_, _, rfl, ?_, ?_⟩)) (by repeat (exact True.intro)) rfl rfl
theorem en_sDrawIncon : Enters Tryz.prog 52 := enters_of Tryz.func52 rfl rfl
theorem sDrawValidSg_spec (code : List UInt8) : ASpec Tryz.prog 50 [.d (vB code)] [] (SgE0 1) := by
 have hp0 : (cur0 code).pos = 0 := rfl
 have hA := anyCoded_spec (cur0 code) (by omega)
 refine ASpec.of Tryz.func50 rfl rfl fun C hC => ?_
 refine AC.seq (AC.region ?_)
 refine AL.q (by exact h_alloc rfl) rfl ?_
 refine AL.nil (th_n (AC.seq (AC.region ?_)))
 refine zm ?_
 refine AL.p (by exact g_build rfl rfl rfl) rfl ?_
 refine AL.q (by exact h_box rfl) rfl ?_
 refine AL.p (by exact as3 rfl) rfl ?_
 refine AL.nil (th_n (AC.seq (AC.region ?_)))
 refine AL.p (by exact mv3 rfl) rfl ?_
 refine AL.r (by exact h_funR (cs := [8]) en_anyCoded rfl rfl (by repeat (first | exact rfl | refine ⟨_, _, rfl, ?_, ?_⟩ | refine ⟨_, rfl, ?_⟩)) (by repeat (first | exact True.intro | refine And.intro ?_ ?_ | exact DLead.same | exact rfl | refine ⟨_, _, rfl, rfl, ?_⟩ | refine ⟨_, rfl, ?_⟩ | refine ⟨_, _, rfl, ?_, ?_⟩)) hA rfl rfl rfl) rfl ?_
 rintro _ ⟨_, _, ⟨G, d, ⟨hG, hd⟩, rfl, rfl⟩, rfl⟩
 refine zs ?_
 refine AL.nil (th_n (AC.ret (bq_r ?_)))
 exact retX [] rfl ⟨G, hG, rfl, rfl⟩ (by repeat (first | exact DLead.same | exact rfl | refine ⟨_, rfl, ?_⟩ | refine ⟨_, _, rfl, ?_, ?_⟩)) (by repeat (exact True.intro)) rfl rfl
theorem en_sDrawValidSg : Enters Tryz.prog 50 := enters_of Tryz.func50 rfl rfl
set_option maxHeartbeats 8000000 in
theorem sDrawEqSg_spec (code : List UInt8) : ASpec Tryz.prog 51 [.d (vB code)] [] SgE2 := by
 have hp0 : (cur0 code).pos = 0 := rfl
 have hA := anyCoded_spec (cur0 code) (by omega)
 refine ASpec.of Tryz.func51 rfl rfl fun C hC => ?_
 refine AC.seq (AC.region ?_)
 refine AL.q (by exact h_alloc rfl) rfl ?_
 refine AL.q (by exact h_alloc rfl) rfl ?_
 refine AL.nil (th_n (AC.seq (AC.region ?_)))
 refine zm ?_
 refine AL.p (by exact g_build rfl rfl rfl) rfl ?_
 refine AL.q (by exact h_box rfl) rfl ?_
 refine AL.p (by exact as3 rfl) rfl ?_
 refine AL.nil (th_n (AC.seq (AC.region ?_)))
 refine AL.p (by exact mv3 rfl) rfl ?_
 refine AL.r (by exact h_funR (cs := [16]) en_anyCoded rfl rfl (by repeat (first | exact rfl | refine ⟨_, _, rfl, ?_, ?_⟩ | refine ⟨_, rfl, ?_⟩)) (by repeat (first | exact True.intro | refine And.intro ?_ ?_ | exact DLead.same | exact rfl | refine ⟨_, _, rfl, rfl, ?_⟩ | refine ⟨_, rfl, ?_⟩ | refine ⟨_, _, rfl, ?_, ?_⟩)) hA rfl rfl rfl) rfl ?_
 rintro _ ⟨_, _, ⟨⟨sg, M, L⟩, d, ⟨hG, hd⟩, rfl, rfl⟩, rfl⟩
 have hOw := l5Own_spec ⟨sg, M, L⟩ hG
 dsimp only at hOw ⊢
 have hM0 : 0 < M.length := hG.n0
 have hMn : M.length ≤ 300 + 1 := hG.n
 have hLn : L.length ≤ 4000 + 1 := hG.a
 refine AL.q (by exact h_alloc rfl) rfl ?_
 refine zs ?_
 refine AL.nil (th_n (AC.seq ?_))
 refine AC.weak (t := ⟨34, 300, [(2, .ptr 201 0), (3, .ptr 202 0), (4, .ptr 204 0), (5, .ptr 203 0)], [(204, some (curC d)), (201, some (.cells 68 zSG)), (202, some (.cells 68 zSG)), (203, some (.cells 68 (sgC ⟨sg, M, L⟩)))]⟩) (zw [(204, 16), (201, 0), (202, 8), (203, _)] hC) ?_
 refine AC.region ?_
 refine AL.p (by exact g_load_ptrN rfl rfl rfl rfl rfl) rfl ?_
 refine AL.q (by exact h_fun (cs := []) en_l5Own rfl rfl (by repeat (first | exact rfl | exact DLead.same | refine ⟨_, _, rfl, ?_, ?_⟩ | refine ⟨_, rfl, ?_⟩)) (by repeat (exact True.intro)) hOw rfl rfl rfl rfl) rfl ?_
 refine AL.q (by exact h_alloc rfl) rfl ?_
 refine zs ?_
 refine AL.nil (th_n ?_)
 refine AC.cut (fun (z : SG) => ⟨34, 1500, [(2, .ptr 201 0), (3, .ptr 202 0), (5, .ptr 203 0), (6, .ptr 200 0)], [(201, some (.cells 68 zSG)), (202, some (.cells 68 zSG)), (203, some (.cells 68 (sgC ⟨sg, M, L⟩))), (200, some (.cells 68 (sgC z)))]⟩) (fun z => SgS 2 z) ?_ ?_
 ·refine AC.seq ?_
  refine AC.weak (t := ⟨34, 400, [(2, .ptr 201 0), (3, .ptr 202 0), (4, .ptr 204 0), (5, .ptr 203 0), (6, .ptr 200 0)], [(204, some (curC d)), (201, some (.cells 68 zSG)), (202, some (.cells 68 zSG)), (203, some (.cells 68 (sgC ⟨sg, M, L⟩))), (200, some (.cells 68 [.d (vSigs sg), .own 101 M.length, .own 102 L.length])), (101, some (.arr 9 1 (tsX M))), (102, some (.arr 75 4 (arL L)))]⟩) (zw [(204, 204), (201, 201), (202, 202), (203, 203), (200, _), (101, _), (102, _)] hC) ?_
  have hK := pick_spec d 4 (by decide) (by omega)
  obtain ⟨p, hpp⟩ : ∃ p, p = d.pick 4 := ⟨_, rfl⟩
  rw [← hpp] at hK
  have hM1 := tsX_get hM0
  have hw := hG.cl _ (List.getElem_mem hM0)
  obtain ⟨w, hww⟩ : ∃ w, w = M[0] := ⟨_, rfl⟩
  rw [← hww] at hM1 hw
  have hset := tsX_set0 (l := M) (w ++ [48])
  rw [← bstr_append] at hset
  clear hpp
  refine AC.region ?_
  refine AL.p (by exact mv3 rfl) rfl ?_
  refine AL.q (by exact h_fun (cs := [204]) en_pick rfl rfl (by repeat (first | exact rfl | exact DLead.same | refine ⟨_, _, rfl, ?_, ?_⟩ | refine ⟨_, rfl, ?_⟩)) (by repeat (first | exact True.intro | refine And.intro ?_ ?_ | exact DLead.same | exact rfl | refine ⟨_, _, rfl, rfl, ?_⟩ | refine ⟨_, rfl, ?_⟩ | refine ⟨_, _, rfl, ?_, ?_⟩)) hK rfl rfl rfl rfl) rfl ?_
  refine AL.nil (th_n (AC.block (AC.seq (AC.region ?_))))
  refine zc ?_
  refine za ?_
  refine AL.nil (th_n ?_)
  refine AC.condD rfl (fun h0 => ?_) (fun h0 => ?_)
  ·refine AC.region ?_
   refine zF ?_
   refine zl ?_
   refine AL.p (by exact g_ia_own (i := 0) (l := M.length) rfl rfl rfl rfl rfl rfl hM0 rfl) rfl ?_
   refine AL.p (by exact g_load_arr1 rfl rfl rfl rfl (by rw [Nat.mul_one]; exact hM1)) rfl ?_
   refine AL.p (by exact g_sadd (b := bstr [48]) rfl rfl (by simp only [ByteArray.size_append, bstr_size, List.length_cons, List.length_nil]; omega)) rfl ?_
   refine AL.p (by exact g_ia_own (i := 0) (l := M.length) rfl rfl rfl rfl rfl rfl hM0 rfl) rfl ?_
   refine AL.q (by exact h_store_arr (i := 0) (j := 0) (d := dS (bstr w ++ bstr [48])) rfl rfl rfl rfl .same rfl hM1 (by decide)) rfl ?_
   refine AL.nil (ib_n (th_n ?_))
   (have hg := ‹p.1 = 0›; exact ⟨⟨sg, M.set 0 (w ++ [48]), L⟩, ⟨hG.sg, hG.sn, by dsimp only; rw [List.length_set]; exact hG.n0, by dsimp only; rw [List.length_set]; omega, fun x hx => by rcases List.mem_or_eq_of_mem_set hx with q | rfl; (have := hG.cl x q; omega); (rw [List.length_append, List.length_singleton]; omega), by dsimp only; omega⟩, ((Weak.freezeP (els' := tsX (M.set 0 (w ++ [48]))) 6 1 rfl rfl rfl rfl (by rw [List.length_set, tsX_len]; exact Nat.le_refl _) ((List.take_of_length_le (by rw [List.length_set, tsX_len]; exact Nat.le_refl _)).trans hset) rfl).trans (Weak.freezeP (els' := arL (L)) 6 2 rfl rfl rfl rfl (by rw [arL_len]; exact Nat.le_refl _) (List.take_of_length_le (by rw [arL_len]; exact Nat.le_refl _)) rfl)).trans (zw [(201, 201), (202, 202), (203, 203), (200, 200)] hC)⟩)
  ·refine AC.seq (AC.region ?_)
   refine zc ?_
   refine za ?_
   refine AL.nil (th_n ?_)
   refine AC.condD rfl (fun h1 => ?_) (fun h1 => ?_)
   ·refine AC.region ?_
    refine zF ?_
    refine zl ?_
    refine AL.p (by exact g_build rfl rfl rfl) rfl ?_
    refine AL.q (by exact h_litF rfl rfl rfl rfl rfl rfl rfl rfl) rfl ?_
    refine AL.q (by exact h_appendAr L [⟨0, 0, false, 0⟩] (.own rfl rfl (arL_len _).symm) (.view rfl) (by rw [List.length_append]; simp only [List.length_cons, List.length_nil]; omega) (by simp)) rfl ?_
    refine zF ?_
    refine zs ?_
    refine AL.nil (ib_n (th_n ?_))
    (have hg := ‹p.1 = 1›; exact ⟨⟨sg, M, L ++ [⟨0, 0, false, 0⟩]⟩, ⟨hG.sg, hG.sn, hG.n0, by dsimp only; omega, fun w hw => by have := hG.cl w hw; omega, by dsimp only; rw [List.length_append, List.length_singleton]; omega⟩, ((Weak.freezeP (els' := tsX (M)) 6 1 rfl rfl rfl rfl (by rw [tsX_len]; exact Nat.le_refl _) (List.take_of_length_le (by rw [tsX_len]; exact Nat.le_refl _)) rfl).trans (Weak.freezeP (els' := arL (L ++ [⟨0, 0, false, 0⟩])) 6 2 rfl rfl rfl rfl (by rw [arL_len]; exact Nat.le_refl _) (List.take_of_length_le (by rw [arL_len]; exact Nat.le_refl _)) rfl)).trans (zw [(201, 201), (202, 202), (203, 203), (200, 200)] hC)⟩)
   ·refine AC.skip (ib_n (th_n ?_))
    exact ⟨⟨sg, M, L⟩, ⟨hG.sg, hG.sn, hG.n0, by dsimp only; omega, fun w hw => by have := hG.cl w hw; omega, by dsimp only; omega⟩, ((Weak.freezeP (els' := tsX (M)) 6 1 rfl rfl rfl rfl (by rw [tsX_len]; exact Nat.le_refl _) (List.take_of_length_le (by rw [tsX_len]; exact Nat.le_refl _)) rfl).trans (Weak.freezeP (els' := arL (L)) 6 2 rfl rfl rfl rfl (by rw [arL_len]; exact Nat.le_refl _) (List.take_of_length_le (by rw [arL_len]; exact Nat.le_refl _)) rfl)).trans (zw [(201, 201), (202, 202), (203, 203), (200, 200)] hC)⟩
 ·rintro g hg
  refine AC.seq ?_
  refine AC.drawn' mixed_ok [[], [], [0], [0,1,2]] (by decide) ?_
  refine DF.op 0 [] 4 rfl rfl rfl (.free rfl (NOp.of (by exact g_load_ptrN rfl rfl rfl rfl rfl))) rfl ?_
  refine DF.op 1 [] 4 rfl rfl rfl (.free rfl (NOp.of (by exact g_load_ptrN rfl rfl rfl rfl rfl))) rfl ?_
  refine DF.op 2 [0] 4 rfl rfl rfl (.free rfl (by exact h_store rfl rfl rfl rfl rfl rfl)) rfl ?_
  refine DF.op 3 [0,1,2] 4 rfl rfl rfl (.free rfl (by exact h_store rfl rfl rfl rfl rfl rfl)) rfl ?_
  refine DF.fin (ps := [(0,1),(1,0),(1,2),(2,1)]) 4 rfl (by decide +kernel) (by decide +kernel) (by rfl) ?_
  refine th_n (AC.ret (bq_r ?_))
  exact retX [] rfl ⟨⟨sg, M, L⟩, g, ⟨hG.mono (by omega), hg⟩, rfl, rfl⟩ (by repeat (first | exact DLead.same | exact rfl | refine ⟨_, rfl, ?_⟩ | refine ⟨_, _, rfl, ?_, ?_⟩)) (by repeat (exact True.intro)) rfl rfl
theorem en_sDrawEqSg : Enters Tryz.prog 51 := enters_of Tryz.func51 rfl rfl
theorem Ups.anti {V W : List (Option Bool)} (h : Ups V W) (k : Ups W V) : W = V := by
 rcases h.2.2 with q | q
 ·exact q
 ·rcases k.2.2 with r | r
  ·exact r.symm
  ·omega
theorem joinV_stable {V : List (Option Bool)} {i j : Nat} (hi : i < V.length) (hj : j < V.length) (h : joinV V i j = some V) : vAt V i = vAt V j := by
 unfold joinV at h
 split at h
 ·rename_i h1 h2; rw [h1, h2]
 ·rename_i y h1 h2
  have e := Option.some.inj h
  have := vAt_set (V := V) (i := i) (j := i) (x := some y)
  rw [e, if_pos ⟨rfl, hi⟩, h1] at this
  cases this
 ·rename_i y h1 h2
  have e := Option.some.inj h
  have := vAt_set (V := V) (i := j) (j := j) (x := some y)
  rw [e, if_pos ⟨rfl, hj⟩, h2] at this
  cases this
 ·rename_i a b h1 h2
  split at h
  ·rename_i e; rw [h1, h2, e]
  ·cases h
theorem putV_stable {V : List (Option Bool)} {i : Nat} {b : Bool} (hi : i < V.length) (h : putV V i b = some V) : vAt V i = some b := by
 unfold putV at h
 split at h
 ·rename_i h1
  have e := Option.some.inj h
  have := vAt_set (V := V) (i := i) (j := i) (x := some b)
  rw [e, if_pos ⟨rfl, hi⟩] at this
  exact this
 ·rename_i a h1
  split at h
  ·rename_i e; rw [h1, e]
  ·cases h
theorem passV_stable {sg : Int} {n : Nat} : ∀ {L : List Ar} {V : List (Option Bool)}, V.length = n → (∀ a, a ∈ L → ArIn n a) → passV sg L V = some V → ∀ a, a ∈ L → stepV sg a V = some V
 | [], V, _, _, _ => fun a ha => by cases ha
 | a :: L, V, hl, hL, h => by
  rw [passV] at h
  cases hs : stepV sg a V with
  | none => rw [hs] at h; cases h
  | some Z =>
   rw [hs, Option.bind_some] at h
   have k1 := stepV_ups (by rw [hl]; exact hL a (List.mem_cons_self ..)) hs
   have k2 := passV_ups (k1.1.trans hl) (fun b hb => hL b (List.mem_cons_of_mem _ hb)) h
   have e := k1.anti k2
   subst e
   intro b hb
   rcases List.mem_cons.1 hb with rfl | hb
   ·exact hs
   ·exact passV_stable hl (fun b hb => hL b (List.mem_cons_of_mem _ hb)) h b hb
theorem iterV_fix {sg : Int} {n : Nat} {L : List Ar} (hL : ∀ a, a ∈ L → ArIn n a) : ∀ (k : Nat) {V W : List (Option Bool)}, V.length = n → cnN V < k → iterV sg L k V = some W → passV sg L W = some W
 | 0, V, W, _, hk, _ => absurd hk (Nat.not_lt_zero _)
 | k + 1, V, W, hl, hk, h => by
  rw [iterV] at h
  cases hp : passV sg L V with
  | none => rw [hp] at h; cases h
  | some U =>
   rw [hp, Option.bind_some] at h
   have hu := passV_ups hl hL hp
   rcases hu.2.2 with q | q
   ·subst q
    rw [iterV_stable hp k] at h
    cases h; exact hp
   ·exact iterV_fix hL k (hu.1.trans hl) (by omega) h
theorem valF_fix {sg : Int} {n : Nat} {L : List Ar} {V : List (Option Bool)} (hL : ∀ a, a ∈ L → ArIn n a) (h : valF sg L n = some V) : passV sg L V = some V := by
 refine iterV_fix hL (n + 1) (by simp) ?_ h
 unfold cnN
 have : (List.replicate n (none : Option Bool)).countP Option.isNone ≤ n := Nat.le_trans List.countP_le_length (by simp)
 omega
theorem bit_chB (v : Option Bool) : bit (chB v) = true := by cases v with | none => decide | some b => cases b <;> decide
theorem col_law {s : Stg} {x : Ex} {j : Nat} (hI : CodI s x) (h : clB s x j = false) {a : Ar} (ha : a ∈ arcsOf s x) : (a.sig = (j : Int) → colC s x j a.from_.toNat = bitLb (!a.up) ∧ colC s x j a.to_.toNat = bitLb a.up) ∧ (¬ a.sig = (j : Int) → colC s x j a.from_.toNat = colC s x j a.to_.toNat) := by
 unfold clB at h
 unfold colC
 cases hv : valF (j : Int) (arcsOf s x) x.marks.length with
 | none => rw [hv] at h; cases h
 | some V =>
  have hl := valF_len hI.a hv
  have hst := passV_stable hl hI.a (valF_fix hI.a hv) a ha
  have hin := hI.a a ha
  show (a.sig = (j : Int) → chB (vAt V a.from_.toNat) = bitLb (!a.up) ∧ chB (vAt V a.to_.toNat) = bitLb a.up) ∧ (¬ a.sig = (j : Int) → chB (vAt V a.from_.toNat) = chB (vAt V a.to_.toNat))
  have hi : a.from_.toNat < V.length := by have := hin.1; omega
  have hj : a.to_.toNat < V.length := by have := hin.2; omega
  unfold stepV at hst
  refine ⟨fun e => ?_, fun e => ?_⟩
  ·rw [if_pos e] at hst
   cases hp : putV V a.from_.toNat (!a.up) with
   | none => rw [hp] at hst; cases hst
   | some Z =>
    rw [hp, Option.bind_some] at hst
    have k1 := putV_ups hi hp
    have k2 := putV_ups (by rw [k1.1]; exact hj) hst
    have e2 := k1.anti k2
    subst e2
    rw [putV_stable hi hp, putV_stable hj hst]
    exact ⟨rfl, rfl⟩
  ·rw [if_neg e] at hst
   rw [joinV_stable hi hj hst]
theorem codeC_getD {s : Stg} {x : Ex} {m i j : Nat} (h : j < m) : (codeC s x m i).getD j 0 = colC s x j i := by
 unfold codeC
 rw [List.getD_eq_getElem?_getD, List.getElem?_map, List.getElem?_range h]; rfl
theorem codeC_bits (s : Stg) (x : Ex) (m i : Nat) : bitsB (codeC s x m i) m = true := by
 unfold bitsB
 rw [codeC_len, Bool.and_eq_true]
 refine ⟨List.all_eq_true.2 fun b hb => ?_, decide_eq_true rfl⟩
 unfold codeC at hb
 obtain ⟨j, _, rfl⟩ := List.mem_map.1 hb
 exact bit_chB _
theorem mixC_at {s : Stg} {x : Ex} {m i : Nat} (h : i < x.marks.length) : (mixC s x m 0).getD i [] = codeC s x m i := by
 unfold mixC
 rw [List.getD_eq_getElem?_getD, List.getElem?_map, List.getElem?_range h]; rfl
theorem arcE_edges (s : Stg) (x : Ex) : arcE (arcsOf s x) = edgesR x := by
 unfold arcE arcsOf edgesR
 rw [List.map_map]; rfl
theorem codeS_at {s : Stg} (h : (codeS s).2 = true) : codeS s = (⟨s.sigs, mixC s (explS s).1 s.sigs.length 0, arcsOf s (explS s).1⟩, true) ∧ (explS s).2 = true ∧ (clL s (explS s).1 s.sigs.length).length = 0 ∧ (explS s).1.moves.length ≤ 4000 := by
 unfold codeS at h ⊢
 split
 ·rename_i q; exact ⟨rfl, q⟩
 ·rename_i q; rw [if_neg q] at h; cases h
theorem code_valid {s : Stg} (h : (codeS s).2 = true) : validC (codeS s).1 = true := by
 obtain ⟨hc, q1, q2, q3⟩ := codeS_at h
 rw [hc]
 have hI := codI q1
 obtain ⟨hg, hE⟩ := explS_Expl q1
 have hfine := clL_zero.1 q2
 obtain ⟨x, hx⟩ : ∃ x, x = (explS s).1 := ⟨_, rfl⟩
 rw [← hx] at hI hE hfine q3 ⊢
 have hg2 := hg
 simp only [goodS, Bool.and_eq_true, decide_eq_true_eq] at hg2
 obtain ⟨_, h1, h4, h5⟩ := hg2
 have hlab := goodS_sigs hg
 rw [validC_yes]
 ·show allU (distF (arcE (arcsOf s x)) (mixC s x s.sigs.length 0).length 0) (mixC s x s.sigs.length 0).length = true
  rw [mixC_len, arcE_edges]
  exact allU_yes fun v hv => decide_eq_true (hE.far hv)
 ·exact h1
 ·show (decide ((1 : Int) ≤ (mixC s x s.sigs.length 0).length) && decide (((mixC s x s.sigs.length 0).length : Int) ≤ 300)) = true
  have := hE.n
  rw [mixC_len, Bool.and_eq_true, decide_eq_true_eq, decide_eq_true_eq]; omega
 ·show (arcsOf s x).length ≤ 4000
  rw [arcsOf_len]; exact q3
 ·intro k hk
  have hm : (mixC s x s.sigs.length 0)[k] ∈ mixC s x s.sigs.length 0 := List.getElem_mem hk
  show bitsB (mixC s x s.sigs.length 0)[k] s.sigs.length = true
  obtain ⟨w, hw⟩ : ∃ w, w = (mixC s x s.sigs.length 0)[k] := ⟨_, rfl⟩
  rw [← hw] at hm ⊢
  unfold mixC at hm
  obtain ⟨a, _, rfl⟩ := List.mem_map.1 hm
  rw [if_neg (Nat.not_lt_zero _)]
  exact codeC_bits ..
 ·intro k hk
  have hm : (arcsOf s x)[k] ∈ arcsOf s x := List.getElem_mem hk
  show arcG ⟨s.sigs, mixC s x s.sigs.length 0, arcsOf s x⟩ (arcsOf s x)[k] = true
  obtain ⟨a, ha⟩ : ∃ a, a = (arcsOf s x)[k] := ⟨_, rfl⟩
  rw [← ha] at hm ⊢
  clear ha hk
  have hin := hI.a a hm
  have hcl := fun (j : Nat) (hj : j < s.sigs.length) => col_law hI (hfine j hj) hm
  have hlo : labOk ⟨a.sig, a.up⟩ s.sigs.length = true := by
   unfold arcsOf at hm
   obtain ⟨v, hv, rfl⟩ := List.mem_map.1 hm
   have hb := hI.b v hv
   have hn : v.by_.toNat < s.labs.length := by omega
   have hl := List.all_eq_true.1 h5 _ (List.getElem_mem hn)
   rw [← lAt_nat hn] at hl
   exact hl
  have hf : a.from_.toNat < x.marks.length := by have := hin.1; omega
  have ht : a.to_.toNat < x.marks.length := by have := hin.2; omega
  have i1 : inS (mixC s x s.sigs.length 0).length a.from_ = true := by
   unfold inS; rw [mixC_len, Bool.and_eq_true, decide_eq_true_eq, decide_eq_true_eq]; have := hin.1; omega
  have i2 : inS (mixC s x s.sigs.length 0).length a.to_ = true := by
   unfold inS; rw [mixC_len, Bool.and_eq_true, decide_eq_true_eq, decide_eq_true_eq]; have := hin.2; omega
  have e1 : cAtS ⟨s.sigs, mixC s x s.sigs.length 0, arcsOf s x⟩ a.from_.toNat = codeC s x s.sigs.length a.from_.toNat := mixC_at hf
  have e2 : cAtS ⟨s.sigs, mixC s x s.sigs.length 0, arcsOf s x⟩ a.to_.toNat = codeC s x s.sigs.length a.to_.toNat := mixC_at ht
  have hfit : fitS a (codeC s x s.sigs.length a.from_.toNat) (codeC s x s.sigs.length a.to_.toNat) = true := by
   rw [← fit_eq (codeC_bits ..) (codeC_bits ..) hlo]
   refine fitI_yes fun j hj => ?_
   rw [codeC_len] at hj
   obtain ⟨c1, c2⟩ := hcl j hj
   rw [codeC_getD hj, codeC_getD hj]
   unfold fitB
   by_cases e : a.sig = (j : Int)
   ·rw [if_pos e.symm, (c1 e).1, (c1 e).2]
    cases a.up <;> decide
   ·rw [if_neg (Ne.symm e), c2 e]
    exact decide_eq_true rfl
  unfold arcG
  rw [e1, e2, hfit]
  show ((inS (mixC s x s.sigs.length 0).length a.from_ && inS (mixC s x s.sigs.length 0).length a.to_) && labOk ⟨a.sig, a.up⟩ s.sigs.length && true) = true
  rw [i1, i2, hlo]; rfl
theorem inc_no {s : Stg} (h : (codeS s).2 = true) : (incR s).2 = false := by
 obtain ⟨_, _, q2, _⟩ := codeS_at h
 unfold incR
 rw [if_neg fun g => by have := g.2; omega]
theorem incR_len {s : Stg} (hs : StgS s) : (incR s).1.length ≤ 8 := by
 have := hs.sl
 unfold incR
 split
 ·have := clL_len s (explS s).1 s.sigs.length
  show (clL _ _ _).length ≤ _
  omega
 ·exact Nat.zero_le _
theorem code_facts {s : Stg} (h : (codeS s).2 = true) : (explS s).2 = true ∧ (codeS s).1.codes.length = (explS s).1.marks.length ∧ (codeS s).1.arcs.length = (explS s).1.moves.length ∧ (∀ k (hk : k < (explS s).1.moves.length), (arL (codeS s).1.arcs)[k]? = some [dI (explS s).1.moves[k].from_, dI (lAt s.labs (explS s).1.moves[k].by_.toNat).sig, dT (lAt s.labs (explS s).1.moves[k].by_.toNat).up, dI (explS s).1.moves[k].to_]) ∧ 1 ≤ (codeS s).1.codes.length ∧ initR s = ((codeS s).1.codes.getD 0 [], true) := by
 obtain ⟨hc, q1, q2, q3⟩ := codeS_at h
 have hp := codeS_pos h
 refine ⟨q1, ?_, ?_, fun k hk => ?_, hp, if_pos h⟩
 ·rw [hc]; exact mixC_len ..
 ·rw [hc]; exact arcsOf_len ..
 ·rw [hc]
  show (arL (arcsOf s (explS s).1))[k]? = _
  unfold arcsOf
  rw [List.getElem?_map, List.getElem?_map, List.getElem?_eq_getElem hk]; rfl
end Go.Proofs.YthafkkgmekgmoaaGreat
