/- Contracts of the functions of the program and of the reference, each proved by a walk through its code. -/
import Derived.WalkKit
import Derived.WalkSpells
import Derived.WalkLawsBesides
import Derived.Deep.Draws
import Derived.Lib.Hide
import Derived.Maps.AppendAt
import Derived.OwnWalk
import Derived.Deep.MidRow
import Derived.Laws.ResultCell
import Derived.Deep.Upon
import Derived.Great.FillDense
import Derived.Laws.Tables
import Derived.Laws.BytesArg
import Derived.Laws.MakeOwn
import Derived.Great.BuildSlice
import Derived.ArgAppend
import Derived.Deep.AppendSrc
import Derived.Test.YthafkkgmekgmoaaGreatProg
import Derived.KernelRfl
import Derived.Orders
import Derived.Laws.IdiomStrings
import Derived.Lib.AppendZerosOnto
import Derived.ProofKit
import Derived.OpenShut
import Derived.Lib.SliceRun
import Derived.Laws.StructEq
import Derived.ChangeKeysEq
import Derived.Sort.Grow
import Derived.Laws.RangeString
import Derived.Below
import Derived.Laws.Small
import Derived.MapKept
import Derived.WideMake
import Derived.Laws.IdiomCopy
import Derived.Shelf.Strings.Builder1
import Derived.Shelf.Strings.Builder2
import Derived.Shelf.Strings.OnBuilder
import Derived.Shelf.Bits.Mul64
import Derived.Test.YthafkkgmekgmoaaGreatRows
import Derived.Test.YthafkkgmekgmoaaGreatGBk9
set_option linter.all false
set_option maxRecDepth 20000
namespace Go.Proofs.YthafkkgmekgmoaaGreat
open Go.RowKit
def okS (s : Stg) : Bool := decide (1 ≤ s.net.ts.length) && decide (0 ≤ s.net.places) && decide (s.net.places ≤ 40) && decide (s.net.ts.length ≤ 13) && s.net.ts.all (fun t => decide (t.pre.length ≤ 4) && decide (t.post.length ≤ 4)) && decide (1 ≤ s.sigs.length) && decide (s.sigs.length ≤ 8) && s.sigs.all (fun x => decide (x.name.length ≤ 10)) && decide (1 ≤ s.labs.length) && decide (s.labs.length ≤ 20) && s.labs.all (fun x => decide (-10 ≤ x.sig) && decide (x.sig ≤ 10)) && decide (s.start.length ≤ 40)
structure StgS (s : Stg) : Prop where
 p : 0 ≤ s.net.places ∧ s.net.places ≤ 40
 tl : s.net.ts.length ≤ 13
 t : ∀ t, t ∈ s.net.ts → t.pre.length ≤ 4 ∧ t.post.length ≤ 4
 s0 : 1 ≤ s.sigs.length
 sl : s.sigs.length ≤ 8
 sn : ∀ x, x ∈ s.sigs → x.name.length ≤ 10
 ll : s.labs.length ≤ 20
 lb : ∀ x, x ∈ s.labs → -10 ≤ x.sig ∧ x.sig ≤ 10
 st : s.start.length ≤ 60
theorem okS_S {s : Stg} (h : okS s = true) : StgS s ∧ 1 ≤ s.labs.length ∧ s.start.length ≤ 40 := by
 simp only [okS, Bool.and_eq_true, decide_eq_true_eq, List.all_eq_true] at h;obtain ⟨⟨⟨⟨⟨⟨⟨⟨⟨⟨⟨h0, h1⟩, h2⟩, h3⟩, h4⟩, h5⟩, h6⟩, h7⟩, h8⟩, h9⟩, h10⟩, h11⟩ := h;exact ⟨⟨⟨h1, h2⟩, h3, h4, h5, h6, h7, h9, h10, by omega⟩, h8, h11⟩
theorem StgS.B {s : Stg} (h : StgS s) : StgB s := ⟨⟨by have := h.p; omega, by have := h.tl; omega, fun t ht => by have := h.t t ht; omega⟩, by have := h.sl; omega, fun t ht => by have := h.sn t ht; omega, by have := h.ll; omega, fun x hx => by have := h.lb x hx; omega, by have := h.st; omega⟩
def plS0 : Stg := buildS [97, 98] [99] [] [97, 43, 62, 99, 43, 32, 98, 43, 62, 99, 43, 32, 99, 43, 62, 97, 45, 32, 99, 43, 62, 98, 45, 32, 97, 45, 62, 99, 45, 32, 98, 45, 62, 99, 45, 32, 42, 99, 45, 62, 97, 43, 32, 42, 99, 45, 62, 98, 43]
theorem plS0_ok : okS plS0 = true := by decide +kernel
def plS1 : Stg := buildS [97] [98] [] [97, 43, 62, 98, 43, 32, 98, 43, 62, 97, 45, 32, 97, 45, 62, 98, 45, 32, 42, 98, 45, 62, 97, 43]
theorem plS1_ok : okS plS1 = true := by decide +kernel
def plS2 : Stg := buildS [114] [120, 121] [] [114, 43, 62, 120, 43, 32, 114, 43, 62, 121, 43, 32, 120, 43, 62, 114, 45, 32, 121, 43, 62, 114, 45, 32, 114, 45, 62, 120, 45, 32, 114, 45, 62, 121, 45, 32, 42, 120, 45, 62, 114, 43, 32, 42, 121, 45, 62, 114, 43]
theorem plS2_ok : okS plS2 = true := by decide +kernel
def plS3 : Stg := buildS [97, 100] [98, 99] [] [97, 43, 62, 98, 43, 32, 98, 43, 62, 100, 43, 32, 100, 43, 62, 99, 43, 32, 99, 43, 62, 97, 45, 32, 97, 45, 62, 98, 45, 32, 98, 45, 62, 100, 45, 32, 100, 45, 62, 99, 45, 32, 42, 99, 45, 62, 97, 43]
theorem plS3_ok : okS plS3 = true := by decide +kernel
def plS4 : Stg := buildS [97] [98] [120] [97, 43, 62, 120, 43, 32, 120, 43, 62, 98, 43, 32, 98, 43, 62, 97, 45, 32, 97, 45, 62, 120, 45, 32, 120, 45, 62, 98, 45, 32, 42, 98, 45, 62, 97, 43]
theorem plS4_ok : okS plS4 = true := by decide +kernel
def plS5 : Stg := buildS [97, 98] [99] [] [42, 95, 112, 62, 97, 43, 32, 95, 112, 62, 98, 43, 32, 97, 43, 62, 99, 43, 47, 49, 32, 99, 43, 47, 49, 62, 97, 45, 32, 97, 45, 62, 99, 45, 47, 49, 32, 99, 45, 47, 49, 62, 95, 112, 32, 98, 43, 62, 99, 43, 47, 50, 32, 99, 43, 47, 50, 62, 98, 45, 32, 98, 45, 62, 99, 45, 47, 50, 32, 99, 45, 47, 50, 62, 95, 112]
theorem plS5_ok : okS plS5 = true := by decide +kernel
def plS6 : Stg := buildS [97] [98] [] [97, 43, 62, 126, 32, 126, 62, 98, 43, 32, 98, 43, 62, 97, 45, 32, 97, 45, 62, 98, 45, 32, 42, 98, 45, 62, 97, 43]
theorem plS6_ok : okS plS6 = true := by decide +kernel
def grS0 : Stg := buildS [114] [120, 121] [] [42, 121, 45, 62, 114, 43, 32, 114, 43, 62, 120, 43, 32, 120, 43, 62, 120, 45, 32, 120, 45, 62, 121, 43, 32, 121, 43, 62, 114, 45, 32, 114, 45, 62, 121, 45]
theorem grS0_ok : okS grS0 = true := by decide +kernel
def grS1 : Stg := buildS [97] [98, 99] [] [42, 97, 45, 62, 97, 43, 32, 97, 43, 62, 95, 112, 32, 95, 112, 62, 98, 43, 32, 95, 112, 62, 99, 43, 32, 98, 43, 62, 98, 45, 32, 99, 43, 62, 99, 45, 32, 98, 45, 62, 95, 113, 32, 99, 45, 62, 95, 113, 32, 95, 113, 62, 97, 45]
theorem grS1_ok : okS grS1 = true := by decide +kernel
def grS2 : Stg := buildS [97] [98] [] [97, 43, 47, 49, 62, 98, 43, 32, 98, 43, 62, 97, 43, 47, 50, 32, 97, 43, 47, 50, 62, 98, 45, 32, 42, 98, 45, 62, 97, 43, 47, 49]
theorem grS2_ok : okS grS2 = true := by decide +kernel
def grS4 : Stg := buildS [97] [98] [] [42, 95, 112, 62, 97, 43, 32, 97, 43, 62, 98, 43, 32, 98, 43, 62, 95, 113]
theorem grS4_ok : okS grS4 = true := by decide +kernel
def twS0 : Stg := buildS [112] [113] [] [112, 43, 62, 113, 43, 32, 113, 43, 62, 112, 45, 32, 112, 45, 62, 113, 45, 32, 42, 113, 45, 62, 112, 43]
theorem twS0_ok : okS twS0 = true := by decide +kernel
def twS1 : Stg := buildS [97] [98] [] [97, 43, 62, 98, 43, 32, 98, 43, 62, 97, 45, 32, 97, 45, 62, 98, 45, 32, 42, 98, 45, 62, 97, 43]
theorem twS1_ok : okS twS1 = true := by decide +kernel
def grS3 : Stg := unionT twS0 twS1
theorem grS3_ok : okS grS3 = true := by decide +kernel
theorem twS_ok : (unionS twS0 twS1).2 = true := by decide +kernel
theorem twS_net : okS ⟨(unionR twS0.net twS1.net).1, twS0.sigs, twS0.labs, []⟩ = true := by decide +kernel
def plS (i : Int) : Stg := if i = 0 then plS0 else if i = 1 then plS1 else if i = 2 then plS2 else if i = 3 then plS3 else if i = 4 then plS4 else if i = 5 then plS5 else plS6
theorem plS_ok (i : Int) : okS (plS i) = true := by
 unfold plS
 split
 ·exact plS0_ok
 split
 ·exact plS1_ok
 split
 ·exact plS2_ok
 split
 ·exact plS3_ok
 split
 ·exact plS4_ok
 split
 ·exact plS5_ok
 exact plS6_ok
def stgI (c : Cur) : Stg × Cur := if (c.pick 9).1 = 0 then (grS0, (c.pick 9).2) else if (c.pick 9).1 = 1 then (grS1, (c.pick 9).2) else if (c.pick 9).1 = 2 then (grS2, (c.pick 9).2) else if (c.pick 9).1 = 3 then (grS3, (c.pick 9).2) else if (c.pick 9).1 = 4 then (grS4, (c.pick 9).2) else (plS ((c.pick 9).2.pick 7).1, ((c.pick 9).2.pick 7).2)
theorem stgI_in (c : Cur) : okS (stgI c).1 = true ∧ (stgI c).2.pos ≤ c.pos + 4 ∧ (stgI c).2.code = c.code := by
 have h1 := c.pick_pos 9;have h2 := (c.pick 9).2.pick_pos 7;have k1 := c.pick_code 9;have k2 := (c.pick 9).2.pick_code 7;unfold stgI
 split
 ·exact ⟨grS0_ok, by dsimp only; omega, k1⟩
 split
 ·exact ⟨grS1_ok, by dsimp only; omega, k1⟩
 split
 ·exact ⟨grS2_ok, by dsimp only; omega, k1⟩
 split
 ·exact ⟨grS3_ok, by dsimp only; omega, k1⟩
 split
 ·exact ⟨grS4_ok, by dsimp only; omega, k1⟩
 exact ⟨plS_ok _, by dsimp only; omega, k2.trans k1⟩
theorem plS0_spec : ASpec Tryz.prog 145 [aS (bstr [97, 98]), aS (bstr [99]), aS (bstr []), aS (bstr [97, 43, 62, 99, 43, 32, 98, 43, 62, 99, 43, 32, 99, 43, 62, 97, 45, 32, 99, 43, 62, 98, 45, 32, 97, 45, 62, 99, 45, 32, 98, 45, 62, 99, 45, 32, 42, 99, 45, 62, 97, 43, 32, 42, 99, 45, 62, 98, 43])] [] (Fun1 (stgO plS0 0 1 2) (stgChs plS0 0 1 2)) := l2Build_spec _ _ _ _ (by decide) (by decide) (by decide) (by decide) (by decide +kernel)
theorem plS1_spec : ASpec Tryz.prog 145 [aS (bstr [97]), aS (bstr [98]), aS (bstr []), aS (bstr [97, 43, 62, 98, 43, 32, 98, 43, 62, 97, 45, 32, 97, 45, 62, 98, 45, 32, 42, 98, 45, 62, 97, 43])] [] (Fun1 (stgO plS1 0 1 2) (stgChs plS1 0 1 2)) := l2Build_spec _ _ _ _ (by decide) (by decide) (by decide) (by decide) (by decide +kernel)
theorem plS2_spec : ASpec Tryz.prog 145 [aS (bstr [114]), aS (bstr [120, 121]), aS (bstr []), aS (bstr [114, 43, 62, 120, 43, 32, 114, 43, 62, 121, 43, 32, 120, 43, 62, 114, 45, 32, 121, 43, 62, 114, 45, 32, 114, 45, 62, 120, 45, 32, 114, 45, 62, 121, 45, 32, 42, 120, 45, 62, 114, 43, 32, 42, 121, 45, 62, 114, 43])] [] (Fun1 (stgO plS2 0 1 2) (stgChs plS2 0 1 2)) := l2Build_spec _ _ _ _ (by decide) (by decide) (by decide) (by decide) (by decide +kernel)
theorem plS3_spec : ASpec Tryz.prog 145 [aS (bstr [97, 100]), aS (bstr [98, 99]), aS (bstr []), aS (bstr [97, 43, 62, 98, 43, 32, 98, 43, 62, 100, 43, 32, 100, 43, 62, 99, 43, 32, 99, 43, 62, 97, 45, 32, 97, 45, 62, 98, 45, 32, 98, 45, 62, 100, 45, 32, 100, 45, 62, 99, 45, 32, 42, 99, 45, 62, 97, 43])] [] (Fun1 (stgO plS3 0 1 2) (stgChs plS3 0 1 2)) := l2Build_spec _ _ _ _ (by decide) (by decide) (by decide) (by decide) (by decide +kernel)
theorem plS4_spec : ASpec Tryz.prog 145 [aS (bstr [97]), aS (bstr [98]), aS (bstr [120]), aS (bstr [97, 43, 62, 120, 43, 32, 120, 43, 62, 98, 43, 32, 98, 43, 62, 97, 45, 32, 97, 45, 62, 120, 45, 32, 120, 45, 62, 98, 45, 32, 42, 98, 45, 62, 97, 43])] [] (Fun1 (stgO plS4 0 1 2) (stgChs plS4 0 1 2)) := l2Build_spec _ _ _ _ (by decide) (by decide) (by decide) (by decide) (by decide +kernel)
theorem plS5_spec : ASpec Tryz.prog 145 [aS (bstr [97, 98]), aS (bstr [99]), aS (bstr []), aS (bstr [42, 95, 112, 62, 97, 43, 32, 95, 112, 62, 98, 43, 32, 97, 43, 62, 99, 43, 47, 49, 32, 99, 43, 47, 49, 62, 97, 45, 32, 97, 45, 62, 99, 45, 47, 49, 32, 99, 45, 47, 49, 62, 95, 112, 32, 98, 43, 62, 99, 43, 47, 50, 32, 99, 43, 47, 50, 62, 98, 45, 32, 98, 45, 62, 99, 45, 47, 50, 32, 99, 45, 47, 50, 62, 95, 112])] [] (Fun1 (stgO plS5 0 1 2) (stgChs plS5 0 1 2)) := l2Build_spec _ _ _ _ (by decide) (by decide) (by decide) (by decide) (by decide +kernel)
theorem plS6_spec : ASpec Tryz.prog 145 [aS (bstr [97]), aS (bstr [98]), aS (bstr []), aS (bstr [97, 43, 62, 126, 32, 126, 62, 98, 43, 32, 98, 43, 62, 97, 45, 32, 97, 45, 62, 98, 45, 32, 42, 98, 45, 62, 97, 43])] [] (Fun1 (stgO plS6 0 1 2) (stgChs plS6 0 1 2)) := l2Build_spec _ _ _ _ (by decide) (by decide) (by decide) (by decide) (by decide +kernel)
theorem grS0_spec : ASpec Tryz.prog 145 [aS (bstr [114]), aS (bstr [120, 121]), aS (bstr []), aS (bstr [42, 121, 45, 62, 114, 43, 32, 114, 43, 62, 120, 43, 32, 120, 43, 62, 120, 45, 32, 120, 45, 62, 121, 43, 32, 121, 43, 62, 114, 45, 32, 114, 45, 62, 121, 45])] [] (Fun1 (stgO grS0 0 1 2) (stgChs grS0 0 1 2)) := l2Build_spec _ _ _ _ (by decide) (by decide) (by decide) (by decide) (by decide +kernel)
theorem grS1_spec : ASpec Tryz.prog 145 [aS (bstr [97]), aS (bstr [98, 99]), aS (bstr []), aS (bstr [42, 97, 45, 62, 97, 43, 32, 97, 43, 62, 95, 112, 32, 95, 112, 62, 98, 43, 32, 95, 112, 62, 99, 43, 32, 98, 43, 62, 98, 45, 32, 99, 43, 62, 99, 45, 32, 98, 45, 62, 95, 113, 32, 99, 45, 62, 95, 113, 32, 95, 113, 62, 97, 45])] [] (Fun1 (stgO grS1 0 1 2) (stgChs grS1 0 1 2)) := l2Build_spec _ _ _ _ (by decide) (by decide) (by decide) (by decide) (by decide +kernel)
theorem grS2_spec : ASpec Tryz.prog 145 [aS (bstr [97]), aS (bstr [98]), aS (bstr []), aS (bstr [97, 43, 47, 49, 62, 98, 43, 32, 98, 43, 62, 97, 43, 47, 50, 32, 97, 43, 47, 50, 62, 98, 45, 32, 42, 98, 45, 62, 97, 43, 47, 49])] [] (Fun1 (stgO grS2 0 1 2) (stgChs grS2 0 1 2)) := l2Build_spec _ _ _ _ (by decide) (by decide) (by decide) (by decide) (by decide +kernel)
theorem grS4_spec : ASpec Tryz.prog 145 [aS (bstr [97]), aS (bstr [98]), aS (bstr []), aS (bstr [42, 95, 112, 62, 97, 43, 32, 97, 43, 62, 98, 43, 32, 98, 43, 62, 95, 113])] [] (Fun1 (stgO grS4 0 1 2) (stgChs grS4 0 1 2)) := l2Build_spec _ _ _ _ (by decide) (by decide) (by decide) (by decide) (by decide +kernel)
theorem twS0_spec : ASpec Tryz.prog 145 [aS (bstr [112]), aS (bstr [113]), aS (bstr []), aS (bstr [112, 43, 62, 113, 43, 32, 113, 43, 62, 112, 45, 32, 112, 45, 62, 113, 45, 32, 42, 113, 45, 62, 112, 43])] [] (Fun1 (stgO twS0 0 1 2) (stgChs twS0 0 1 2)) := l2Build_spec _ _ _ _ (by decide) (by decide) (by decide) (by decide) (by decide +kernel)
theorem twS1_spec : ASpec Tryz.prog 145 [aS (bstr [97]), aS (bstr [98]), aS (bstr []), aS (bstr [97, 43, 62, 98, 43, 32, 98, 43, 62, 97, 45, 32, 97, 45, 62, 98, 45, 32, 42, 98, 45, 62, 97, 43])] [] (Fun1 (stgO twS1 0 1 2) (stgChs twS1 0 1 2)) := l2Build_spec _ _ _ _ (by decide) (by decide) (by decide) (by decide) (by decide +kernel)
set_option maxHeartbeats 4000000 in
theorem l2Plain_spec (c : Cur) (hp : c.pos ≤ 100000000) : ASpec Tryz.prog 241 [.ptr 0 0] [(0, curC c)] (Fun1 (stgO (plS (c.pick 7).1) 1 2 3) ((0, curC (c.pick 7).2) :: stgChs (plS (c.pick 7).1) 1 2 3)) := by
 have hK := pick_spec c 7 (by decide) (by omega);obtain ⟨p, hpp⟩ : ∃ p, p = c.pick 7 := ⟨_, rfl⟩;rw [← hpp] at hK ⊢;have hS : plS p.1 = if p.1 = 0 then plS0 else if p.1 = 1 then plS1 else if p.1 = 2 then plS2 else if p.1 = 3 then plS3 else if p.1 = 4 then plS4 else if p.1 = 5 then plS5 else plS6 := rfl
 obtain ⟨s, hs⟩ : ∃ s, s = plS p.1 := ⟨_, rfl⟩;rw [← hs] at hS ⊢;refine ASpec.of Tryz.func241 rfl rfl fun C hC => ?_
 refine AC.seq (AC.region ?_);refine AL.q (by exact h_alloc rfl) rfl ?_;refine AL.nil (th_n (AC.seq (AC.seq (AC.region ?_))));refine AL.p (by exact mv3 rfl) rfl ?_;refine AL.q (by exact h_fun (cs := [0]) en_pick rfl rfl (by repeat (first | exact rfl | exact DLead.same | refine ⟨_, _, rfl, ?_, ?_⟩ | refine ⟨_, rfl, ?_⟩)) (by repeat (first | exact True.intro | refine And.intro ?_ ?_ | exact DLead.same | exact rfl | refine ⟨_, _, rfl, rfl, ?_⟩ | refine ⟨_, rfl, ?_⟩ | refine ⟨_, _, rfl, ?_, ?_⟩)) hK rfl rfl rfl rfl) rfl ?_;refine AL.nil (th_n (AC.block (AC.seq (AC.region ?_))));refine zc ?_;refine za ?_;refine AL.nil (th_n ?_);refine AC.condD rfl (fun h0 => ?_) (fun h0 => ?_)
 ·refine AC.seq (AC.region ?_);refine AL.q (by exact h_fun (cs := []) en_l2Build rfl rfl (by repeat (first | exact rfl | exact DLead.same | refine ⟨_, _, rfl, ?_, ?_⟩)) (by repeat (exact True.intro)) plS0_spec rfl rfl rfl rfl) rfl ?_;refine zs ?_;refine AL.nil (th_n (AC.ret (ib_r (th_r (bq_r ?_)))));have e : s = plS0 := by rw [hS, if_pos h0]
  exact retN [(1, _), (2, _), (3, _)] rfl (by rw [e]; repeat (first | exact rfl | exact DLead.same | refine ⟨_, _, rfl, ?_, ?_⟩ | refine ⟨_, rfl, ?_⟩)) (by rw [e]; repeat (first | exact True.intro | refine And.intro ?_ ?_ | exact DLead.same | exact rfl | refine ⟨_, _, rfl, rfl, ?_⟩ | refine ⟨_, rfl, ?_⟩ | refine ⟨_, _, rfl, ?_, ?_⟩)) rfl rfl
 refine AC.seq (AC.region ?_);refine zc ?_;refine za ?_;refine AL.nil (th_n ?_);refine AC.condD rfl (fun h1 => ?_) (fun h1 => ?_)
 ·refine AC.seq (AC.region ?_);refine AL.q (by exact h_fun (cs := []) en_l2Build rfl rfl (by repeat (first | exact rfl | exact DLead.same | refine ⟨_, _, rfl, ?_, ?_⟩)) (by repeat (exact True.intro)) plS1_spec rfl rfl rfl rfl) rfl ?_;refine zs ?_;refine AL.nil (th_n (AC.ret (ib_r (th_r (bq_r ?_)))));have e : s = plS1 := by rw [hS, if_neg h0, if_pos h1]
  exact retN [(1, _), (2, _), (3, _)] rfl (by rw [e]; repeat (first | exact rfl | exact DLead.same | refine ⟨_, _, rfl, ?_, ?_⟩ | refine ⟨_, rfl, ?_⟩)) (by rw [e]; repeat (first | exact True.intro | refine And.intro ?_ ?_ | exact DLead.same | exact rfl | refine ⟨_, _, rfl, rfl, ?_⟩ | refine ⟨_, rfl, ?_⟩ | refine ⟨_, _, rfl, ?_, ?_⟩)) rfl rfl
 refine AC.seq (AC.region ?_);refine zc ?_;refine za ?_;refine AL.nil (th_n ?_);refine AC.condD rfl (fun h2 => ?_) (fun h2 => ?_)
 ·refine AC.seq (AC.region ?_);refine AL.q (by exact h_fun (cs := []) en_l2Build rfl rfl (by repeat (first | exact rfl | exact DLead.same | refine ⟨_, _, rfl, ?_, ?_⟩)) (by repeat (exact True.intro)) plS2_spec rfl rfl rfl rfl) rfl ?_;refine zs ?_;refine AL.nil (th_n (AC.ret (ib_r (th_r (bq_r ?_)))));have e : s = plS2 := by rw [hS, if_neg h0, if_neg h1, if_pos h2]
  exact retN [(1, _), (2, _), (3, _)] rfl (by rw [e]; repeat (first | exact rfl | exact DLead.same | refine ⟨_, _, rfl, ?_, ?_⟩ | refine ⟨_, rfl, ?_⟩)) (by rw [e]; repeat (first | exact True.intro | refine And.intro ?_ ?_ | exact DLead.same | exact rfl | refine ⟨_, _, rfl, rfl, ?_⟩ | refine ⟨_, rfl, ?_⟩ | refine ⟨_, _, rfl, ?_, ?_⟩)) rfl rfl
 refine AC.seq (AC.region ?_);refine zc ?_;refine za ?_;refine AL.nil (th_n ?_);refine AC.condD rfl (fun h3 => ?_) (fun h3 => ?_)
 ·refine AC.seq (AC.region ?_);refine AL.q (by exact h_fun (cs := []) en_l2Build rfl rfl (by repeat (first | exact rfl | exact DLead.same | refine ⟨_, _, rfl, ?_, ?_⟩)) (by repeat (exact True.intro)) plS3_spec rfl rfl rfl rfl) rfl ?_;refine zs ?_;refine AL.nil (th_n (AC.ret (ib_r (th_r (bq_r ?_)))));have e : s = plS3 := by rw [hS, if_neg h0, if_neg h1, if_neg h2, if_pos h3]
  exact retN [(1, _), (2, _), (3, _)] rfl (by rw [e]; repeat (first | exact rfl | exact DLead.same | refine ⟨_, _, rfl, ?_, ?_⟩ | refine ⟨_, rfl, ?_⟩)) (by rw [e]; repeat (first | exact True.intro | refine And.intro ?_ ?_ | exact DLead.same | exact rfl | refine ⟨_, _, rfl, rfl, ?_⟩ | refine ⟨_, rfl, ?_⟩ | refine ⟨_, _, rfl, ?_, ?_⟩)) rfl rfl
 refine AC.seq (AC.region ?_);refine zc ?_;refine za ?_;refine AL.nil (th_n ?_);refine AC.condD rfl (fun h4 => ?_) (fun h4 => ?_)
 ·refine AC.seq (AC.region ?_);refine AL.q (by exact h_fun (cs := []) en_l2Build rfl rfl (by repeat (first | exact rfl | exact DLead.same | refine ⟨_, _, rfl, ?_, ?_⟩)) (by repeat (exact True.intro)) plS4_spec rfl rfl rfl rfl) rfl ?_;refine zs ?_;refine AL.nil (th_n (AC.ret (ib_r (th_r (bq_r ?_)))));have e : s = plS4 := by rw [hS, if_neg h0, if_neg h1, if_neg h2, if_neg h3, if_pos h4]
  exact retN [(1, _), (2, _), (3, _)] rfl (by rw [e]; repeat (first | exact rfl | exact DLead.same | refine ⟨_, _, rfl, ?_, ?_⟩ | refine ⟨_, rfl, ?_⟩)) (by rw [e]; repeat (first | exact True.intro | refine And.intro ?_ ?_ | exact DLead.same | exact rfl | refine ⟨_, _, rfl, rfl, ?_⟩ | refine ⟨_, rfl, ?_⟩ | refine ⟨_, _, rfl, ?_, ?_⟩)) rfl rfl
 refine AC.seq (AC.region ?_);refine zc ?_;refine za ?_;refine AL.nil (th_n ?_);refine AC.condD rfl (fun h5 => ?_) (fun h5 => ?_)
 ·refine AC.seq (AC.region ?_);refine AL.q (by exact h_fun (cs := []) en_l2Build rfl rfl (by repeat (first | exact rfl | exact DLead.same | refine ⟨_, _, rfl, ?_, ?_⟩)) (by repeat (exact True.intro)) plS5_spec rfl rfl rfl rfl) rfl ?_;refine zs ?_;refine AL.nil (th_n (AC.ret (ib_r (th_r (bq_r ?_)))));have e : s = plS5 := by rw [hS, if_neg h0, if_neg h1, if_neg h2, if_neg h3, if_neg h4, if_pos h5]
  exact retN [(1, _), (2, _), (3, _)] rfl (by rw [e]; repeat (first | exact rfl | exact DLead.same | refine ⟨_, _, rfl, ?_, ?_⟩ | refine ⟨_, rfl, ?_⟩)) (by rw [e]; repeat (first | exact True.intro | refine And.intro ?_ ?_ | exact DLead.same | exact rfl | refine ⟨_, _, rfl, rfl, ?_⟩ | refine ⟨_, rfl, ?_⟩ | refine ⟨_, _, rfl, ?_, ?_⟩)) rfl rfl
 refine AC.skip (ib_n (th_n (AC.seq (AC.region ?_))));refine AL.q (by exact h_fun (cs := []) en_l2Build rfl rfl (by repeat (first | exact rfl | exact DLead.same | refine ⟨_, _, rfl, ?_, ?_⟩)) (by repeat (exact True.intro)) plS6_spec rfl rfl rfl rfl) rfl ?_;refine zs ?_;refine AL.nil (th_n (AC.ret (bq_r ?_)));have e : s = plS6 := by rw [hS, if_neg h0, if_neg h1, if_neg h2, if_neg h3, if_neg h4, if_neg h5]
 exact retN [(1, _), (2, _), (3, _)] rfl (by rw [e]; repeat (first | exact rfl | exact DLead.same | refine ⟨_, _, rfl, ?_, ?_⟩ | refine ⟨_, rfl, ?_⟩)) (by rw [e]; repeat (first | exact True.intro | refine And.intro ?_ ?_ | exact DLead.same | exact rfl | refine ⟨_, _, rfl, rfl, ?_⟩ | refine ⟨_, rfl, ?_⟩ | refine ⟨_, _, rfl, ?_, ?_⟩)) rfl rfl
theorem en_l2Plain : Enters Tryz.prog 241 := enters_of Tryz.func241 rfl rfl
theorem twS_L : NetL (unionR twS0.net twS1.net).1 := ((okS_S twS_net).1.B.n).L
set_option maxHeartbeats 4000000 in
theorem stg_spec (c : Cur) (hp : c.pos ≤ 10000000) : ASpec Tryz.prog 191 [.ptr 0 0] [(0, curC c)] (Fun1 (stgQ (stgI c).1 1 2) [(0, curC (stgI c).2), (1, .arr 149 2 (sigsL (stgI c).1.sigs)), (2, .arr 156 2 (labsL (stgI c).1.labs))]) := by
 have hK := pick_spec c 9 (by decide) (by omega);have hpos := c.pick_pos 9;have hS : stgI c = if (c.pick 9).1 = 0 then (grS0, (c.pick 9).2) else if (c.pick 9).1 = 1 then (grS1, (c.pick 9).2) else if (c.pick 9).1 = 2 then (grS2, (c.pick 9).2) else if (c.pick 9).1 = 3 then (grS3, (c.pick 9).2) else if (c.pick 9).1 = 4 then (grS4, (c.pick 9).2) else (plS ((c.pick 9).2.pick 7).1, ((c.pick 9).2.pick 7).2) := rfl
 obtain ⟨p, hpp⟩ : ∃ p, p = c.pick 9 := ⟨_, rfl⟩;rw [← hpp] at hK hS hpos;have hP := l2Plain_spec p.2 (by omega);obtain ⟨pp, hpq⟩ : ∃ pp, pp = plS (p.2.pick 7).1 := ⟨_, rfl⟩;rw [← hpq] at hP hS;obtain ⟨s, hs⟩ : ∃ s, s = stgI c := ⟨_, rfl⟩;rw [← hs] at hS ⊢;have hU := sUnionSTGs_own twS0 twS1 (okS_S twS0_ok).1.B (okS_S twS1_ok).1.B twS_L twS_ok;rw [show unionT twS0 twS1 = grS3 from rfl] at hU;refine ASpec.of Tryz.func191 rfl rfl fun C hC => ?_
 refine AC.seq (AC.region ?_);refine AL.q (by exact h_alloc rfl) rfl ?_;refine AL.nil (th_n (AC.seq (AC.seq (AC.region ?_))));refine AL.p (by exact mv3 rfl) rfl ?_;refine AL.q (by exact h_fun (cs := [0]) en_pick rfl rfl (by repeat (first | exact rfl | exact DLead.same | refine ⟨_, _, rfl, ?_, ?_⟩ | refine ⟨_, rfl, ?_⟩)) (by repeat (first | exact True.intro | refine And.intro ?_ ?_ | exact DLead.same | exact rfl | refine ⟨_, _, rfl, rfl, ?_⟩ | refine ⟨_, rfl, ?_⟩ | refine ⟨_, _, rfl, ?_, ?_⟩)) hK rfl rfl rfl rfl) rfl ?_;refine AL.nil (th_n (AC.block (AC.seq (AC.region ?_))));refine zc ?_;refine za ?_;refine AL.nil (th_n ?_);refine AC.condD rfl (fun h0 => ?_) (fun h0 => ?_)
 ·refine AC.seq (AC.region ?_);refine AL.q (by exact h_fun (cs := []) en_l2Build rfl rfl (by repeat (first | exact rfl | exact DLead.same | refine ⟨_, _, rfl, ?_, ?_⟩)) (by repeat (exact True.intro)) grS0_spec rfl rfl rfl rfl) rfl ?_;refine AL.weak (Weak.freezeA (i := 9) (k := 1) rfl rfl rfl (ownl _ _) (ownt _ _)) ?_;refine zs ?_;refine AL.nil (th_n (AC.ret (ib_r (th_r (bq_r ?_)))));have e : s = (grS0, p.2) := by rw [hS, if_pos h0]
  exact retN [(1, _), (2, _)] rfl (by rw [e]; repeat (first | exact rfl | exact DLead.same | refine ⟨_, _, rfl, ?_, ?_⟩ | refine ⟨_, rfl, ?_⟩)) (by rw [e]; repeat (first | exact True.intro | refine And.intro ?_ ?_ | exact DLead.same | exact rfl | refine ⟨_, _, rfl, rfl, ?_⟩ | refine ⟨_, rfl, ?_⟩ | refine ⟨_, _, rfl, ?_, ?_⟩)) rfl rfl
 refine AC.seq (AC.region ?_);refine zc ?_;refine za ?_;refine AL.nil (th_n ?_);refine AC.condD rfl (fun h1 => ?_) (fun h1 => ?_)
 ·refine AC.seq (AC.region ?_);refine AL.q (by exact h_fun (cs := []) en_l2Build rfl rfl (by repeat (first | exact rfl | exact DLead.same | refine ⟨_, _, rfl, ?_, ?_⟩)) (by repeat (exact True.intro)) grS1_spec rfl rfl rfl rfl) rfl ?_;refine AL.weak (Weak.freezeA (i := 12) (k := 1) rfl rfl rfl (ownl _ _) (ownt _ _)) ?_;refine zs ?_;refine AL.nil (th_n (AC.ret (ib_r (th_r (bq_r ?_)))));have e : s = (grS1, p.2) := by rw [hS, if_neg h0, if_pos h1]
  exact retN [(1, _), (2, _)] rfl (by rw [e]; repeat (first | exact rfl | exact DLead.same | refine ⟨_, _, rfl, ?_, ?_⟩ | refine ⟨_, rfl, ?_⟩)) (by rw [e]; repeat (first | exact True.intro | refine And.intro ?_ ?_ | exact DLead.same | exact rfl | refine ⟨_, _, rfl, rfl, ?_⟩ | refine ⟨_, rfl, ?_⟩ | refine ⟨_, _, rfl, ?_, ?_⟩)) rfl rfl
 refine AC.seq (AC.region ?_);refine zc ?_;refine za ?_;refine AL.nil (th_n ?_);refine AC.condD rfl (fun h2 => ?_) (fun h2 => ?_)
 ·refine AC.seq (AC.region ?_);refine AL.q (by exact h_fun (cs := []) en_l2Build rfl rfl (by repeat (first | exact rfl | exact DLead.same | refine ⟨_, _, rfl, ?_, ?_⟩)) (by repeat (exact True.intro)) grS2_spec rfl rfl rfl rfl) rfl ?_;refine AL.weak (Weak.freezeA (i := 15) (k := 1) rfl rfl rfl (ownl _ _) (ownt _ _)) ?_;refine zs ?_;refine AL.nil (th_n (AC.ret (ib_r (th_r (bq_r ?_)))));have e : s = (grS2, p.2) := by rw [hS, if_neg h0, if_neg h1, if_pos h2]
  exact retN [(1, _), (2, _)] rfl (by rw [e]; repeat (first | exact rfl | exact DLead.same | refine ⟨_, _, rfl, ?_, ?_⟩ | refine ⟨_, rfl, ?_⟩)) (by rw [e]; repeat (first | exact True.intro | refine And.intro ?_ ?_ | exact DLead.same | exact rfl | refine ⟨_, _, rfl, rfl, ?_⟩ | refine ⟨_, rfl, ?_⟩ | refine ⟨_, _, rfl, ?_, ?_⟩)) rfl rfl
 refine AC.seq (AC.region ?_);refine zc ?_;refine za ?_;refine AL.nil (th_n ?_);refine AC.condD rfl (fun h3 => ?_) (fun h3 => ?_)
 ·refine AC.seq (AC.region ?_);refine AL.q (by exact h_fun (cs := []) en_l2Build rfl rfl (by repeat (first | exact rfl | exact DLead.same | refine ⟨_, _, rfl, ?_, ?_⟩)) (by repeat (exact True.intro)) twS0_spec rfl rfl rfl rfl) rfl ?_;refine AL.weak (Weak.freezeA3 19 rfl rfl rfl rfl rfl rfl rfl (ownl _ _) (ownl _ _) (ownl _ _) (ownt _ _) (ownt _ _) (ownt _ _)) ?_;refine AL.q (by exact h_fun (cs := []) en_l2Build rfl rfl (by repeat (first | exact rfl | exact DLead.same | refine ⟨_, _, rfl, ?_, ?_⟩)) (by repeat (exact True.intro)) twS1_spec rfl rfl rfl rfl) rfl ?_;refine AL.weak (Weak.freezeA3 20 rfl rfl rfl rfl rfl rfl rfl (ownl _ _) (ownl _ _) (ownl _ _) (ownt _ _) (ownt _ _) (ownt _ _)) ?_;refine AL.q (by exact h_fun (cs := []) en_sUnionSTGs rfl rfl (by repeat (first | exact rfl | exact DLead.same | refine ⟨_, _, rfl, ?_, ?_⟩ | refine ⟨_, rfl, ?_⟩)) (by repeat (exact True.intro)) hU rfl rfl rfl rfl) rfl ?_;refine AL.p (by exact mv5 rfl) rfl ?_;refine AL.p (by exact g_extract (r := .agg _) rfl rfl) rfl ?_;refine AL.p (by exact g_extract (r := .d _) rfl rfl) rfl ?_;refine AL.q (by exact h_alloc rfl) rfl ?_;refine zs ?_;refine za ?_;refine AL.nil (th_n (AC.seq (AC.region ?_)));refine zm ?_;refine AL.nil (th_n ?_);refine AC.condT rfl ?_;refine AC.seq (AC.region ?_);refine AL.p (by exact g_load_ptrN rfl rfl rfl rfl rfl) rfl ?_;refine zs ?_;refine AL.nil (th_n (AC.ret (ib_r (th_r (bq_r ?_)))));have e : s = (grS3, p.2) := by rw [hS, if_neg h0, if_neg h1, if_neg h2, if_pos h3]
  exact retN [(1, _), (2, _)] rfl (by rw [e]; repeat (first | exact rfl | exact DLead.same | refine ⟨_, _, rfl, ?_, ?_⟩ | refine ⟨_, rfl, ?_⟩)) (by rw [e]; repeat (first | exact True.intro | refine And.intro ?_ ?_ | exact DLead.same | exact rfl | refine ⟨_, _, rfl, rfl, ?_⟩ | refine ⟨_, rfl, ?_⟩ | refine ⟨_, _, rfl, ?_, ?_⟩)) rfl rfl
 refine AC.seq (AC.region ?_);refine zc ?_;refine za ?_;refine AL.nil (th_n ?_);refine AC.condD rfl (fun h4 => ?_) (fun h4 => ?_)
 ·refine AC.seq (AC.region ?_);refine AL.q (by exact h_fun (cs := []) en_l2Build rfl rfl (by repeat (first | exact rfl | exact DLead.same | refine ⟨_, _, rfl, ?_, ?_⟩)) (by repeat (exact True.intro)) grS4_spec rfl rfl rfl rfl) rfl ?_;refine AL.weak (Weak.freezeA (i := 28) (k := 1) rfl rfl rfl (ownl _ _) (ownt _ _)) ?_;refine zs ?_;refine AL.nil (th_n (AC.ret (ib_r (th_r (bq_r ?_)))));have e : s = (grS4, p.2) := by rw [hS, if_neg h0, if_neg h1, if_neg h2, if_neg h3, if_pos h4]
  exact retN [(1, _), (2, _)] rfl (by rw [e]; repeat (first | exact rfl | exact DLead.same | refine ⟨_, _, rfl, ?_, ?_⟩ | refine ⟨_, rfl, ?_⟩)) (by rw [e]; repeat (first | exact True.intro | refine And.intro ?_ ?_ | exact DLead.same | exact rfl | refine ⟨_, _, rfl, rfl, ?_⟩ | refine ⟨_, rfl, ?_⟩ | refine ⟨_, _, rfl, ?_, ?_⟩)) rfl rfl
 refine AC.skip (ib_n (th_n (AC.seq (AC.region ?_))));refine AL.p (by exact mv3 rfl) rfl ?_;refine AL.q (by exact h_fun (cs := [0]) en_l2Plain rfl rfl (by repeat (first | exact rfl | refine ⟨_, _, rfl, ?_, ?_⟩ | refine ⟨_, rfl, ?_⟩)) (by repeat (first | exact True.intro | refine And.intro ?_ ?_ | exact DLead.same | exact rfl | refine ⟨_, _, rfl, rfl, ?_⟩ | refine ⟨_, rfl, ?_⟩ | refine ⟨_, _, rfl, ?_, ?_⟩)) hP rfl rfl rfl rfl) rfl ?_;refine AL.weak (Weak.freezeA (i := 30) (k := 1) rfl rfl rfl (ownl _ _) (ownt _ _)) ?_;refine zs ?_;refine AL.nil (th_n (AC.ret (bq_r ?_)));have e : s = (pp, (p.2.pick 7).2) := by rw [hS, if_neg h0, if_neg h1, if_neg h2, if_neg h3, if_neg h4]
 exact retN [(1, _), (2, _)] rfl (by rw [e]; repeat (first | exact rfl | exact DLead.same | refine ⟨_, _, rfl, ?_, ?_⟩ | refine ⟨_, rfl, ?_⟩)) (by rw [e]; repeat (first | exact True.intro | refine And.intro ?_ ?_ | exact DLead.same | exact rfl | refine ⟨_, _, rfl, rfl, ?_⟩ | refine ⟨_, rfl, ?_⟩ | refine ⟨_, _, rfl, ?_, ?_⟩)) rfl rfl
theorem en_stg : Enters Tryz.prog 191 := enters_of Tryz.func191 rfl rfl
structure SgS (k : Nat) (c : SG) : Prop where
 sg : c.sigs.length ≤ 8
 sn : ∀ x, x ∈ c.sigs → x.name.length ≤ 10
 n0 : 1 ≤ c.codes.length
 n : c.codes.length ≤ 300 + k
 cl : ∀ w, w ∈ c.codes → w.length ≤ 8 + 10 * k
 a : c.arcs.length ≤ 4000 + k
theorem SgS.L {k : Nat} {c : SG} (h : SgS k c) (hk : k ≤ 10) : SgL c := ⟨by have := h.sg; omega, fun t ht => by have := h.sn t ht; omega, by have := h.n; omega, fun w hw => by have := h.cl w hw; omega, by have := h.a; omega⟩
theorem SgS.mono {k j : Nat} {c : SG} (h : SgS k c) (hk : k ≤ j) : SgS j c := ⟨h.sg, h.sn, h.n0, by have := h.n; omega, fun w hw => by have := h.cl w hw; omega, by have := h.a; omega⟩
theorem codeS_S {s : Stg} (hs : StgS s) (h : (codeS s).2 = true) : SgS 0 (codeS s).1 := by
 have hp := codeS_pos h;have hin := explS_in s;unfold codeS at h hp ⊢
 split
 ·rename_i q;rw [if_pos q] at hp;refine ⟨hs.sl, hs.sn, hp, ?_, fun w hw => ?_, ?_⟩
  ·show (mixC _ _ _ _).length ≤ _;rw [mixC_len]; omega
  ·have hw : w ∈ mixC s (explS s).1 s.sigs.length 0 := hw;unfold mixC at hw;obtain ⟨a, _, rfl⟩ := List.mem_map.1 hw;rw [if_neg (Nat.not_lt_zero _), codeC_len];have := hs.sl; omega
  show (arcsOf _ _).length ≤ _;rw [arcsOf_len]; exact q.2.2
 rename_i q; rw [if_neg q] at h; cases h
theorem plS1_code : (codeS plS1).2 = true := by decide +kernel
def SgO (k pos : Nat) : AV → List (Nat × Chunk) → Prop := fun r chs => ∃ (g : SG) (c : Cur), (SgS k g ∧ c.pos ≤ pos) ∧ r = .agg [.d (vSigs g.sigs), .own 1 g.codes.length, .own 2 g.arcs.length] ∧ chs = [(0, curC c), (1, .arr 9 1 (tsX g.codes)), (2, .arr 75 4 (arL g.arcs))]
def SgE (k pos : Nat) : AV → List (Nat × Chunk) → Prop := fun r chs => ∃ (g : SG) (c : Cur), (SgS k g ∧ c.pos ≤ pos) ∧ r = sgA g ∧ chs = [(0, curC c)]
def SgE0 (k : Nat) : AV → List (Nat × Chunk) → Prop := fun r chs => ∃ (g : SG), SgS k g ∧ r = sgA g ∧ chs = []
set_option maxHeartbeats 8000000 in
theorem coded_spec (c : Cur) (hp : c.pos ≤ 100000) : ASpec Tryz.prog 202 [.ptr 0 0] [(0, curC c)] (SgO 0 (c.pos + 20)) := by
 have hB1 := sBuild_spec plS1 (okS_S plS1_ok).1.B;have hS1 := codeS_S (okS_S plS1_ok).1 plS1_code;obtain ⟨P, hP⟩ : ∃ P, P = codeS plS1 := ⟨_, rfl⟩;rw [← hP] at hB1 hS1;clear hP;refine ASpec.of Tryz.func202 rfl rfl fun C hC => ?_
 refine AC.seq (AC.region ?_);refine AL.q (by exact h_alloc rfl) rfl ?_;refine AL.nil (th_n (AC.seq (AC.seq (AC.region ?_))));refine za ?_;refine AL.nil (th_n (AC.block ?_));refine AC.loop (ι := Nat × Cur) (fun y => ⟨26, 300, [(0, .ptr 0 0), (2, .ptr 201 0), (3, aI y.1)], [(0, some (curC y.2)), (201, some (.cells 68 zSG))]⟩) (fun y => y.1 ≤ 4 ∧ y.2.pos ≤ c.pos + 4 * y.1) (fun y => 4 - y.1) ((0, c)) ?_ (⟨Nat.zero_le _, Nat.le_refl _⟩) ?_
 ·exact zw [(201, _)] hC
 rintro ⟨k, e⟩ ⟨hk, he⟩;dsimp only at hk he ⊢;refine AC.seq (AC.seq (AC.region ?_));refine zm ?_;refine zc ?_;refine AL.nil (th_n ?_);refine AC.condD rfl (fun h0 => ?_) (fun h0 => ?_)
 ·refine AC.skip (th_n (AC.seq (AC.block (AC.seq ?_))));have hk1 : k < 4 := by omega
  have hS := stg_spec e (by omega);have hSi := stgI_in e;obtain ⟨A, hAA⟩ : ∃ A, A = stgI e := ⟨_, rfl⟩;rw [← hAA] at hS hSi;have hBd := sBuild_spec A.1 (okS_S hSi.1).1.B;have hCS := fun h : (codeS A.1).2 = true => codeS_S (okS_S hSi.1).1 h
  obtain ⟨⟨G, ok⟩, hG⟩ : ∃ G, G = codeS A.1 := ⟨_, rfl⟩;rw [← hG] at hBd hCS;dsimp only at hBd hCS;clear hG hAA;refine AC.region ?_;refine AL.p (by exact mv3 rfl) rfl ?_;refine AL.q (by exact h_fun (cs := [0]) en_stg rfl rfl (by repeat (first | exact rfl | refine ⟨_, _, rfl, ?_, ?_⟩ | refine ⟨_, rfl, ?_⟩)) (by repeat (first | exact True.intro | refine And.intro ?_ ?_ | exact DLead.same | exact rfl | refine ⟨_, _, rfl, rfl, ?_⟩ | refine ⟨_, rfl, ?_⟩ | refine ⟨_, _, rfl, ?_, ?_⟩)) hS rfl rfl rfl rfl) rfl ?_;refine AL.weak (Weak.freezeA (i := 14) (k := 2) rfl rfl rfl (ownl _ _) (ownt _ _)) ?_;refine AL.weak (Weak.freezeA (i := 14) (k := 3) rfl rfl rfl (ownl _ _) (ownt _ _)) ?_;refine AL.weak (t := ⟨26, 308, [(0, .ptr 0 0), (2, .ptr 201 0), (3, aI k), (14, stgA A.1)], [(0, some (curC A.2)), (201, some (.cells 68 zSG))]⟩) (zw [(201, 201)] hC) ?_;refine AL.q (by exact h_fun (cs := []) en_sBuild rfl rfl (by repeat (first | exact rfl | exact DLead.same | refine ⟨_, _, rfl, ?_, ?_⟩ | refine ⟨_, rfl, ?_⟩)) (by repeat (exact True.intro)) hBd rfl rfl rfl rfl) rfl ?_;refine AL.p (by exact mv5 rfl) rfl ?_;refine AL.p (by exact g_extract (r := .agg _) rfl rfl) rfl ?_;refine AL.p (by exact g_extract (r := .d _) rfl rfl) rfl ?_;refine AL.q (by exact h_alloc rfl) rfl ?_;refine zs ?_;refine za ?_;refine AL.nil (th_n (AC.seq ?_));refine AC.weak (t := ⟨26, 500, [(0, .ptr 0 0), (2, .ptr 201 0), (3, aI k), (4, .ptr 200 0), (5, aT ok)], [(0, some (curC A.2)), (201, some (.cells 68 zSG)), (200, some (.cells 68 [.d (vSigs G.sigs), .own 101 G.codes.length, .own 102 G.arcs.length])), (101, some (.arr 9 1 (tsX G.codes))), (102, some (.arr 75 4 (arL G.arcs)))]⟩) (zw [(201, 201), (200, _), (101, _), (102, _)] hC) ?_;refine AC.region ?_;refine zm ?_;refine AL.nil (th_n ?_);refine AC.condB rfl (fun h1 => ?_) (fun h1 => ?_)
  ·refine AC.seq (AC.region ?_);refine AL.p (by exact g_load_ptrN rfl rfl rfl rfl rfl) rfl ?_;refine zs ?_;refine AL.nil (th_n (AC.ret (ib_r (th_r (th_r (ib_r (th_r (bq_r ?_))))))));have hok : ok = true := ‹ok = true›;exact retX [(1, 101), (2, 102)] rfl ⟨G, A.2, ⟨hCS hok, by omega⟩, rfl, rfl⟩ (by repeat (first | exact DLead.same | exact rfl | refine ⟨_, rfl, ?_⟩ | refine ⟨_, _, rfl, ?_, ?_⟩)) (by repeat (first | exact True.intro | refine And.intro ?_ ?_ | exact DLead.same | exact rfl | refine ⟨_, _, rfl, rfl, ?_⟩ | refine ⟨_, rfl, ?_⟩ | refine ⟨_, _, rfl, ?_, ?_⟩)) rfl rfl
  refine AC.skip (ib_n (th_n (AC.region ?_)));refine zm ?_;refine zA ?_;refine za ?_;refine AL.nil (th_n ?_);exact ⟨(k + 1, A.2), ⟨by dsimp only; omega, by dsimp only; omega⟩, by dsimp only; omega, zw [(201, 201)] hC⟩
 refine AC.exit (th_e (th_e (ib_y (th_n (AC.seq (AC.region ?_))))));refine AL.q (by exact h_fun (cs := []) en_l2Build rfl rfl (by repeat (first | exact rfl | exact DLead.same | refine ⟨_, _, rfl, ?_, ?_⟩)) (by repeat (exact True.intro)) plS1_spec rfl rfl rfl rfl) rfl ?_;refine AL.weak (Weak.freezeA3 21 rfl rfl rfl rfl rfl rfl rfl (ownl _ _) (ownl _ _) (ownl _ _) (ownt _ _) (ownt _ _) (ownt _ _)) ?_;refine AL.weak (t := ⟨26, 400, [(0, .ptr 0 0), (2, .ptr 201 0), (21, stgA plS1)], [(0, some (curC e)), (201, some (.cells 68 zSG))]⟩) (zw [(201, 201)] hC) ?_;refine AL.q (by exact h_fun (cs := []) en_sBuild rfl rfl (by repeat (first | exact rfl | exact DLead.same | refine ⟨_, _, rfl, ?_, ?_⟩ | refine ⟨_, rfl, ?_⟩)) (by repeat (exact True.intro)) hB1 rfl rfl rfl rfl) rfl ?_;refine AL.p (by exact mv5 rfl) rfl ?_;refine AL.p (by exact g_extract (r := .agg _) rfl rfl) rfl ?_;refine AL.p (by exact g_extract (r := .d _) rfl rfl) rfl ?_;refine AL.q (by exact h_alloc rfl) rfl ?_;refine zs ?_;refine za ?_;refine AL.nil (th_n (AC.seq ?_));refine AC.weak (t := ⟨26, 500, [(2, .ptr 201 0), (6, .ptr 200 0)], [(0, some (curC e)), (201, some (.cells 68 zSG)), (200, some (.cells 68 [.d (vSigs P.1.sigs), .own 101 P.1.codes.length, .own 102 P.1.arcs.length])), (101, some (.arr 9 1 (tsX P.1.codes))), (102, some (.arr 75 4 (arL P.1.arcs)))]⟩) (zw [(201, 201), (200, _), (101, _), (102, _)] hC) ?_;refine AC.region ?_;refine AL.p (by exact g_load_ptrN rfl rfl rfl rfl rfl) rfl ?_;refine zs ?_;refine AL.nil (th_n (AC.ret (bq_r ?_)));exact retX [(1, 101), (2, 102)] rfl ⟨P.1, e, ⟨hS1, by omega⟩, rfl, rfl⟩ (by repeat (first | exact DLead.same | exact rfl | refine ⟨_, rfl, ?_⟩ | refine ⟨_, _, rfl, ?_, ?_⟩)) (by repeat (first | exact True.intro | refine And.intro ?_ ?_ | exact DLead.same | exact rfl | refine ⟨_, _, rfl, rfl, ?_⟩ | refine ⟨_, rfl, ?_⟩ | refine ⟨_, _, rfl, ?_, ?_⟩)) rfl rfl
theorem en_coded : Enters Tryz.prog 202 := enters_of Tryz.func202 rfl rfl
theorem arL_set0 {l : List Ar} (h : 0 < l.length) (a : Ar) : (arL l).set 0 (arD a) = arL (l.set 0 a) := by unfold arL; rw [List.map_set]
theorem tsX_set0 {l : List (List UInt8)} (w : List UInt8) : (tsX l).set 0 [dS (bstr w)] = tsX (l.set 0 w) := by unfold tsX; rw [List.map_set]
set_option maxHeartbeats 8000000 in
theorem anyCoded_spec (c : Cur) (hp : c.pos ≤ 100000) : ASpec Tryz.prog 143 [.ptr 0 0] [(0, curC c)] (SgE 1 (c.pos + 60)) := by
 have hCo := coded_spec c hp;refine ASpec.of Tryz.func143 rfl rfl fun C hC => ?_
 refine AC.seq (AC.region ?_);refine AL.q (by exact h_alloc rfl) rfl ?_;refine AL.nil (th_n (AC.seq (AC.region ?_)));refine AL.p (by exact mv3 rfl) rfl ?_;refine AL.r (by exact h_funR (cs := [0]) en_coded rfl rfl (by repeat (first | exact rfl | refine ⟨_, _, rfl, ?_, ?_⟩ | refine ⟨_, rfl, ?_⟩)) (by repeat (first | exact True.intro | refine And.intro ?_ ?_ | exact DLead.same | exact rfl | refine ⟨_, _, rfl, rfl, ?_⟩ | refine ⟨_, rfl, ?_⟩ | refine ⟨_, _, rfl, ?_, ?_⟩)) hCo rfl rfl rfl) rfl ?_;rintro _ ⟨_, _, ⟨G, d, ⟨hG, hd⟩, rfl, rfl⟩, rfl⟩;obtain ⟨sg, M, L⟩ := G;have hM0 : 0 < M.length := hG.n0;have hMn : M.length ≤ 300 + 0 := hG.n;have hLn : L.length ≤ 4000 + 0 := hG.a;refine AL.q (by exact h_alloc rfl) rfl ?_;refine zs ?_;refine AL.nil (th_n ?_);refine AC.cut (fun (z : SG × Cur) => ⟨60, 1500, [(2, .ptr 201 0), (3, .ptr 200 0)], [(0, some (curC z.2)), (201, some (.cells 68 zSG)), (200, some (.cells 68 (sgC z.1)))]⟩) (fun z => SgS 1 z.1 ∧ z.2.pos ≤ c.pos + 60) ?_ ?_
 ·refine AC.seq ?_;refine AC.weak (t := ⟨60, 300, [(0, .ptr 0 0), (2, .ptr 201 0), (3, .ptr 200 0)], [(0, some (curC d)), (201, some (.cells 68 zSG)), (200, some (.cells 68 [.d (vSigs sg), .own 101 M.length, .own 102 L.length])), (101, some (.arr 9 1 (tsX M))), (102, some (.arr 75 4 (arL L)))]⟩) (zw [(201, _), (200, _), (101, _), (102, _)] hC) ?_;have hK := pick_spec d 20 (by decide) (by omega);have hKp := d.pick_pos 20;obtain ⟨p, hpp⟩ : ∃ p, p = d.pick 20 := ⟨_, rfl⟩;rw [← hpp] at hK hKp;have hM1 := tsX_get hM0;have hw := hG.cl _ (List.getElem_mem hM0);obtain ⟨w, hww⟩ : ∃ w, w = M[0] := ⟨_, rfl⟩;rw [← hww] at hM1 hw;have hSp := spoilt_spec p.2 w [48, 49, 50] (by omega) (by decide) (by decide) (by omega);have hSi := p.2.spoilt_in w [48, 49, 50];obtain ⟨z, hz⟩ : ∃ z, z = p.2.spoilt w [48, 49, 50] := ⟨_, rfl⟩;rw [← hz] at hSp hSi;have hK2 := pick_spec p.2 9 (by decide) (by omega);have hK2i := p.2.pick_in 9 (by decide);have hK2p := p.2.pick_pos 9;obtain ⟨u, hu⟩ : ∃ u, u = p.2.pick 9 := ⟨_, rfl⟩;rw [← hu] at hK2 hK2i hK2p;have hset := tsX_set0 (l := M) z.1;clear hpp hz hu;refine AC.region ?_;refine AL.p (by exact mv3 rfl) rfl ?_;refine AL.q (by exact h_fun (cs := [0]) en_pick rfl rfl (by repeat (first | exact rfl | exact DLead.same | refine ⟨_, _, rfl, ?_, ?_⟩ | refine ⟨_, rfl, ?_⟩)) (by repeat (first | exact True.intro | refine And.intro ?_ ?_ | exact DLead.same | exact rfl | refine ⟨_, _, rfl, rfl, ?_⟩ | refine ⟨_, rfl, ?_⟩ | refine ⟨_, _, rfl, ?_, ?_⟩)) hK rfl rfl rfl rfl) rfl ?_;refine AL.nil (th_n (AC.block (AC.seq (AC.region ?_))));refine zc ?_;refine za ?_;refine AL.nil (th_n ?_);refine AC.condD rfl (fun h0 => ?_) (fun h0 => ?_)
  ·refine AC.drawn' mixed_ok [[], [0], [], [], [3], [3,4], [3,4,5], [2,3,4,5,6], [0,1,2,3,4,5,6,7], [0,1,2,3,4,5,6,7,8]] (by decide) ?_;refine zd 0 [] 10 (by exact g_fa_ptr rfl rfl rfl rfl rfl) ?_;refine zd 1 [0] 10 (by exact g_load_ptr rfl rfl rfl rfl rfl) ?_;refine zd 2 [] 10 (by exact mv3 rfl) ?_;refine zd 3 [] 10 (by exact g_fa_ptr rfl rfl rfl rfl rfl) ?_;refine zd 4 [3] 10 (by exact g_load_ptr rfl rfl rfl rfl rfl) ?_;refine zd 5 [3,4] 10 (by exact g_ia_own (i := 0) (l := M.length) rfl rfl rfl rfl rfl rfl hM0 rfl) ?_;refine zd 6 [3,4,5] 10 (by exact g_load_arr1 rfl rfl rfl rfl (by rw [Nat.mul_one]; exact hM1)) ?_;refine zh 7 [2,3,4,5,6] 10 (by exact h_fun (cs := [0]) en_spoilt rfl rfl (by repeat (first | exact rfl | exact DLead.same | refine ⟨_, _, rfl, ?_, ?_⟩ | refine ⟨_, rfl, ?_⟩)) (by repeat (first | exact True.intro | refine And.intro ?_ ?_ | exact DLead.same | exact rfl | refine ⟨_, _, rfl, rfl, ?_⟩ | refine ⟨_, rfl, ?_⟩ | refine ⟨_, _, rfl, ?_, ?_⟩)) hSp rfl rfl rfl rfl) ?_;refine zd 8 [0,1,2,3,4,5,6,7] 10 (by exact g_ia_own (i := 0) (l := M.length) rfl rfl rfl rfl rfl rfl hM0 rfl) ?_;refine zh 9 (List.range 9) 10 (by exact h_store_arr (i := 0) (j := 0) (d := dS (bstr z.1)) rfl rfl rfl rfl .same rfl hM1 (by decide)) ?_;refine zj 10 ?_;refine ib_n (th_n ?_)
   (have hg := ‹p.1 = 0›; exact ⟨(⟨sg, M.set 0 z.1, L⟩, z.2), ⟨⟨hG.sg, hG.sn, by dsimp only; rw [List.length_set]; exact hG.n0, by dsimp only; rw [List.length_set]; omega, fun x hx => by rcases List.mem_or_eq_of_mem_set hx with q | rfl; (have := hG.cl x q; omega); omega, by have := hG.a; dsimp only at this ⊢; omega⟩, by dsimp only; omega⟩, ((Weak.freezeP (els' := tsX (M.set 0 z.1)) 3 1 rfl rfl rfl rfl (by rw [List.length_set, tsX_len]; exact Nat.le_refl _) ((List.take_of_length_le (by rw [List.length_set, tsX_len]; exact Nat.le_refl _)).trans hset) rfl).trans (Weak.freezeP (els' := arL (L)) 3 2 rfl rfl rfl rfl (by rw [arL_len]; exact Nat.le_refl _) (List.take_of_length_le (by rw [arL_len]; exact Nat.le_refl _)) rfl)).trans (zw [(201, 201), (200, 200)] hC)⟩)
  refine AC.seq (AC.region ?_);refine zc ?_;refine za ?_;refine AL.nil (th_n ?_);refine AC.condD rfl (fun h1 => ?_) (fun h1 => ?_)
  ·refine AC.seq (AC.region ?_);refine zF ?_;refine zl ?_;refine AL.p (by exact g_len_own (sz := 1) (els := []) (e' := 0) rfl rfl (by simp only [maxLen]; omega)) rfl ?_;refine zc ?_;refine AL.nil (th_n ?_);refine AC.condD rfl (fun h2 => ?_) (fun h2 => ?_)
   ·have hL0 : 0 < L.length := by omega
    have hrow := arL_get hL0;refine AC.drawn' mixed_ok [[], [0], [], [2], [2,3], [0,1,2,3,4], [0,1,2,3,4,5], [0,1,2,3,4,5,6]] (by decide) ?_;refine zd 0 [] 8 (by exact g_fa_ptr rfl rfl rfl rfl rfl) ?_;refine zd 1 [0] 8 (by exact g_load_ptr rfl rfl rfl rfl rfl) ?_;refine zd 2 [] 8 (by exact mv3 rfl) ?_;refine zh 3 [2] 8 (by exact h_fun (cs := [0]) en_pick rfl rfl (by repeat (first | exact rfl | exact DLead.same | refine ⟨_, _, rfl, ?_, ?_⟩ | refine ⟨_, rfl, ?_⟩)) (by repeat (first | exact True.intro | refine And.intro ?_ ?_ | exact DLead.same | exact rfl | refine ⟨_, _, rfl, rfl, ?_⟩ | refine ⟨_, rfl, ?_⟩ | refine ⟨_, _, rfl, ?_, ?_⟩)) hK2 rfl rfl rfl rfl) ?_;refine zd 4 [2,3] 8 (by exact g_arith rfl rfl rfl (by exact wrap_i64 (by omega))) ?_;refine zd 5 [0,1,2,3,4] 8 (by exact g_ia_own (i := 0) (l := L.length) rfl rfl rfl rfl rfl rfl hL0 rfl) ?_;refine zd 6 [0,1,2,3,4,5] 8 (by exact g_fa_ptr rfl rfl rfl rfl rfl) ?_;refine zh 7 [0,1,2,3,4,5,6] 8 (by exact h_store_arr (i := 0) (j := 3) (d := dI (u.1 - 1)) rfl rfl rfl rfl .same rfl hrow (by decide)) ?_;refine zj 8 ?_;refine ib_n (th_n ?_)
    (have hg := ‹p.1 = 1›; have hg2 := ‹(L.length : Int) > 0›; have hL0 : 0 < L.length := (by omega); exact ⟨(⟨sg, M, L.set 0 ⟨L[0].from_, L[0].sig, L[0].up, u.1 - 1⟩⟩, u.2), ⟨⟨hG.sg, hG.sn, hG.n0, by have := hG.n; dsimp only at this ⊢; omega, fun w hw => by have := hG.cl w hw; omega, by dsimp only; rw [List.length_set]; omega⟩, by dsimp only; omega⟩, ((Weak.freezeP (els' := tsX (M)) 3 1 rfl rfl rfl rfl (by rw [tsX_len]; exact Nat.le_refl _) (List.take_of_length_le (by rw [tsX_len]; exact Nat.le_refl _)) rfl).trans (Weak.freezeP (els' := arL (L.set 0 ⟨L[0].from_, L[0].sig, L[0].up, u.1 - 1⟩)) 3 2 rfl rfl rfl rfl (by rw [List.length_set, arL_len]; exact Nat.le_refl _) ((List.take_of_length_le (by rw [List.length_set, arL_len]; exact Nat.le_refl _)).trans (arL_set0 hL0 ⟨L[0].from_, L[0].sig, L[0].up, u.1 - 1⟩)) rfl)).trans (zw [(201, 201), (200, 200)] hC)⟩)
   refine AC.skip (ib_n (th_n ?_));exact ⟨(⟨sg, M, L⟩, p.2), ⟨⟨hG.sg, hG.sn, hG.n0, by have := hG.n; dsimp only at this ⊢; omega, fun w hw => by have := hG.cl w hw; omega, by have := hG.a; dsimp only at this ⊢; omega⟩, by dsimp only; omega⟩, ((Weak.freezeP (els' := tsX (M)) 3 1 rfl rfl rfl rfl (by rw [tsX_len]; exact Nat.le_refl _) (List.take_of_length_le (by rw [tsX_len]; exact Nat.le_refl _)) rfl).trans (Weak.freezeP (els' := arL (L)) 3 2 rfl rfl rfl rfl (by rw [arL_len]; exact Nat.le_refl _) (List.take_of_length_le (by rw [arL_len]; exact Nat.le_refl _)) rfl)).trans (zw [(201, 201), (200, 200)] hC)⟩
  refine AC.seq (AC.region ?_);refine zc ?_;refine za ?_;refine AL.nil (th_n ?_);refine AC.condD rfl (fun h2 => ?_) (fun h2 => ?_)
  ·refine AC.drawn' mixed_ok [[], [0], [], [2], [2,3], [2,3,4], [2,3,4,5], [0,1,2,3,4,5,6], [0,1,2,3,4,5,6,7], [0,1,2,3,4,5,6,7,8]] (by decide) ?_;refine zd 0 [] 10 (by exact g_fa_ptr rfl rfl rfl rfl rfl) ?_;refine zd 1 [0] 10 (by exact g_load_ptr rfl rfl rfl rfl rfl) ?_;refine zd 2 [] 10 (by exact g_fa_ptr rfl rfl rfl rfl rfl) ?_;refine zd 3 [2] 10 (by exact g_load_ptr rfl rfl rfl rfl rfl) ?_;refine zd 4 [2,3] 10 (by exact g_ia_own (i := 0) (l := M.length) rfl rfl rfl rfl rfl rfl hM0 rfl) ?_;refine zd 5 [2,3,4] 10 (by exact g_load_arr1 rfl rfl rfl rfl (by rw [Nat.mul_one]; exact hM1)) ?_;refine zh 6 [2,3,4,5] 10 (by exact h_litF rfl rfl rfl rfl rfl rfl rfl rfl) ?_;refine zh 7 [0,1,2,3,4,5,6] 10 (by exact h_appendX M [w] (.own rfl rfl (tsX_len _).symm) (.view rfl) (by rw [List.length_append]; simp only [List.length_cons, List.length_nil]; omega) (by simp)) ?_;refine zd 8 [0,1,2,3,4,5,6,7] 10 (by exact g_fa_ptr rfl rfl rfl rfl rfl) ?_;refine zh 9 (List.range 9) 10 (by exact h_store rfl rfl rfl rfl rfl rfl) ?_;refine zj 10 ?_;refine ib_n (th_n ?_)
   (have hg := ‹p.1 = 2›; exact ⟨(⟨sg, M ++ [w], L⟩, p.2), ⟨⟨hG.sg, hG.sn, by dsimp only; rw [List.length_append]; omega, by dsimp only; rw [List.length_append, List.length_singleton]; omega, fun x hx => by rcases List.mem_append.1 hx with q | q; (have := hG.cl x q; omega); (rw [List.mem_singleton.1 q]; omega), by have := hG.a; dsimp only at this ⊢; omega⟩, by dsimp only; omega⟩, ((Weak.freezeP (els' := tsX (M ++ [w])) 3 1 rfl rfl rfl rfl (by rw [tsX_len]; exact Nat.le_refl _) (List.take_of_length_le (by rw [tsX_len]; exact Nat.le_refl _)) rfl).trans (Weak.freezeP (els' := arL (L)) 3 2 rfl rfl rfl rfl (by rw [arL_len]; exact Nat.le_refl _) (List.take_of_length_le (by rw [arL_len]; exact Nat.le_refl _)) rfl)).trans (zw [(201, 201), (200, 200)] hC)⟩)
  refine AC.seq (AC.region ?_);refine zc ?_;refine za ?_;refine AL.nil (th_n ?_);refine AC.condD rfl (fun h3 => ?_) (fun h3 => ?_)
  ·refine AC.seq (AC.region ?_);refine zF ?_;refine zl ?_;refine AL.p (by exact g_len_own (sz := 1) (els := []) (e' := 0) rfl rfl (by simp only [maxLen]; omega)) rfl ?_;refine zc ?_;refine AL.nil (th_n ?_);refine AC.condD rfl (fun h4 => ?_) (fun h4 => ?_)
   ·have hL0 : 0 < L.length := by omega
    have hrow := arL_get hL0;refine AC.drawn' mixed_ok [[], [0], [], [2], [2,3], [2,3,4], [2,3,4,5], [2,3,4,5,6], [0,1,2,3,4,5,6,7], [0,1,2,3,4,5,6,7,8], [0,1,2,3,4,5,6,7,8,9]] (by decide) ?_;refine zd 0 [] 11 (by exact g_fa_ptr rfl rfl rfl rfl rfl) ?_;refine zd 1 [0] 11 (by exact g_load_ptr rfl rfl rfl rfl rfl) ?_;refine zd 2 [] 11 (by exact g_fa_ptr rfl rfl rfl rfl rfl) ?_;refine zd 3 [2] 11 (by exact g_load_ptr rfl rfl rfl rfl rfl) ?_;refine zd 4 [2,3] 11 (by exact g_ia_own (i := 0) (l := L.length) rfl rfl rfl rfl rfl rfl hL0 rfl) ?_;refine zd 5 [2,3,4] 11 (by exact g_fa_ptr rfl rfl rfl rfl rfl) ?_;refine zd 6 [2,3,4,5] 11 (by exact g_load_arr (i := 0) (j := 2) rfl rfl rfl rfl rfl hrow rfl) ?_;refine zd 7 [2,3,4,5,6] 11 (by exact g_not rfl) ?_;refine zd 8 [0,1,2,3,4,5,6,7] 11 (by exact g_ia_own (i := 0) (l := L.length) rfl rfl rfl rfl rfl rfl hL0 rfl) ?_;refine zd 9 (List.range 9) 11 (by exact g_fa_ptr rfl rfl rfl rfl rfl) ?_;refine zh 10 (List.range 10) 11 (by exact h_store_arr (i := 0) (j := 2) (d := dT (!L[0].up)) rfl rfl rfl rfl .same rfl hrow (by decide)) ?_;refine zj 11 ?_;refine ib_n (th_n ?_)
    (have hg := ‹p.1 = 3›; have hg2 := ‹(L.length : Int) > 0›; have hL0 : 0 < L.length := (by omega); exact ⟨(⟨sg, M, L.set 0 ⟨L[0].from_, L[0].sig, !L[0].up, L[0].to_⟩⟩, p.2), ⟨⟨hG.sg, hG.sn, hG.n0, by have := hG.n; dsimp only at this ⊢; omega, fun w hw => by have := hG.cl w hw; omega, by dsimp only; rw [List.length_set]; omega⟩, by dsimp only; omega⟩, ((Weak.freezeP (els' := tsX (M)) 3 1 rfl rfl rfl rfl (by rw [tsX_len]; exact Nat.le_refl _) (List.take_of_length_le (by rw [tsX_len]; exact Nat.le_refl _)) rfl).trans (Weak.freezeP (els' := arL (L.set 0 ⟨L[0].from_, L[0].sig, !L[0].up, L[0].to_⟩)) 3 2 rfl rfl rfl rfl (by rw [List.length_set, arL_len]; exact Nat.le_refl _) ((List.take_of_length_le (by rw [List.length_set, arL_len]; exact Nat.le_refl _)).trans (arL_set0 hL0 ⟨L[0].from_, L[0].sig, !L[0].up, L[0].to_⟩)) rfl)).trans (zw [(201, 201), (200, 200)] hC)⟩)
   refine AC.skip (ib_n (th_n ?_));exact ⟨(⟨sg, M, L⟩, p.2), ⟨⟨hG.sg, hG.sn, hG.n0, by have := hG.n; dsimp only at this ⊢; omega, fun w hw => by have := hG.cl w hw; omega, by have := hG.a; dsimp only at this ⊢; omega⟩, by dsimp only; omega⟩, ((Weak.freezeP (els' := tsX (M)) 3 1 rfl rfl rfl rfl (by rw [tsX_len]; exact Nat.le_refl _) (List.take_of_length_le (by rw [tsX_len]; exact Nat.le_refl _)) rfl).trans (Weak.freezeP (els' := arL (L)) 3 2 rfl rfl rfl rfl (by rw [arL_len]; exact Nat.le_refl _) (List.take_of_length_le (by rw [arL_len]; exact Nat.le_refl _)) rfl)).trans (zw [(201, 201), (200, 200)] hC)⟩
  refine AC.skip (ib_n (th_n ?_));exact ⟨(⟨sg, M, L⟩, p.2), ⟨⟨hG.sg, hG.sn, hG.n0, by have := hG.n; dsimp only at this ⊢; omega, fun w hw => by have := hG.cl w hw; omega, by have := hG.a; dsimp only at this ⊢; omega⟩, by dsimp only; omega⟩, ((Weak.freezeP (els' := tsX (M)) 3 1 rfl rfl rfl rfl (by rw [tsX_len]; exact Nat.le_refl _) (List.take_of_length_le (by rw [tsX_len]; exact Nat.le_refl _)) rfl).trans (Weak.freezeP (els' := arL (L)) 3 2 rfl rfl rfl rfl (by rw [arL_len]; exact Nat.le_refl _) (List.take_of_length_le (by rw [arL_len]; exact Nat.le_refl _)) rfl)).trans (zw [(201, 201), (200, 200)] hC)⟩
 rintro ⟨g, e⟩ ⟨hg, he⟩;dsimp only at hg he ⊢;refine AC.seq (AC.region ?_);refine AL.p (by exact g_load_ptrN rfl rfl rfl rfl rfl) rfl ?_;refine zs ?_;refine AL.nil (th_n (AC.ret (bq_r ?_)));exact retX [] rfl ⟨g, e, ⟨hg, he⟩, rfl, rfl⟩ (by repeat (first | exact DLead.same | exact rfl | refine ⟨_, rfl, ?_⟩ | refine ⟨_, _, rfl, ?_, ?_⟩)) (by repeat (first | exact True.intro | refine And.intro ?_ ?_ | exact DLead.same | exact rfl | refine ⟨_, _, rfl, rfl, ?_⟩ | refine ⟨_, rfl, ?_⟩ | refine ⟨_, _, rfl, ?_, ?_⟩)) rfl rfl
theorem en_anyCoded : Enters Tryz.prog 143 := enters_of Tryz.func143 rfl rfl
set_option maxHeartbeats 1000000 in
theorem ifAr_spec (l : List Ar) (hl : l.length ≤ 1000000) (g : FuncId) (ds : List DV) (hen : Enters Tryz.prog g) (p : Ar → Bool) (hp : ∀ t, t ∈ l → ASpec Tryz.prog g (arA t :: ds.map .d) [] (Pure1 (aT (p t)))) : ASpec Tryz.prog 251 [.d (vArs l), .clo g (ds.map .d)] [] (Pure1 (aI (findI p l))) := by
 refine ASpec.of Tryz.func251 rfl rfl fun C hC => ?_
 refine AC.seq (AC.region ?_);refine za ?_;refine AL.nil (th_n (AC.seq (AC.seq (AC.region ?_))));refine zm ?_;refine AL.p (by exact g_len_view rfl rfl (by exact List.length_map _)) rfl ?_;refine zm ?_;refine AL.nil (th_n (AC.block ?_));refine AC.loop (ι := Nat) (fun k => ⟨19, 0, [(0, .d (vArs l)), (1, .clo g (ds.map .d)), (6, .d (vArs l)), (7, aI l.length), (8, aI k)], []⟩) (fun k => k ≤ l.length ∧ ∀ j (hj : j < l.length), j < k → p l[j] = false) (fun k => l.length - k) (0) ?_ (⟨Nat.zero_le _, fun j _ hj => by omega⟩) ?_
 ·refine Weak.ren _ [] hC rfl ⟨.same, ⟨_, rfl, leadsL_data _ ds⟩, ?_⟩ trivial rfl rfl rfl; repeat (first | exact True.intro | refine And.intro ?_ ?_ | exact DLead.same)
 intro k ⟨hk, hall⟩;refine AC.seq (AC.region ?_);refine zc ?_;refine AL.nil (th_n (AC.seq ?_));refine AC.condD rfl (fun h0 => ?_) (fun h0 => ?_)
 ·refine AC.skip (th_n (AC.seq (AC.block (AC.seq ?_))));have hk1 : k < l.length := by omega
  have hget := arL_get hk1;refine AC.region ?_;refine zm ?_;refine za ?_;refine AL.nil (th_n (AC.seq (AC.region ?_)));refine AL.p (by exact mv6 rfl) rfl ?_;refine zm ?_;refine zm ?_;refine AL.p (by exact g_ia_view rfl rfl rfl rfl rfl (by rfl) (by assumption)) rfl ?_;refine AL.p (by exact g_load_refN rfl rfl rfl rfl) rfl ?_;refine AL.q (by exact h_pure hen rfl rfl (by exact ⟨_, _, rfl, ⟨_, rfl, _, _, rfl, .same, _, _, rfl, .same, _, _, rfl, .same, _, _, rfl, .same, rfl⟩, leadsL_data _ ds⟩) (hp l[k] (List.getElem_mem hk1)) rfl) rfl ?_;refine AL.nil (th_n ?_);refine AC.condB rfl (fun h1 => ?_) (fun h1 => ?_)
  ·refine AC.seq (AC.region ?_);refine zm ?_;refine za ?_;refine AL.nil (th_n (AC.ret (ib_r (th_r (th_r (ib_r (th_r (bq_r ?_))))))));exact ret1 rfl (by rw [findI_at hk1 h1 (fun j hj => hall j (by omega) hj)])
  refine AC.skip (ib_n (th_n (AC.region ?_)));refine zA ?_;refine zm ?_;refine AL.nil (th_n ?_);exact ⟨k + 1, ⟨by omega, fun j hj hj2 => by rcases Nat.lt_succ_iff_lt_or_eq.1 hj2 with h | rfl; exact hall j hj h; exact h1⟩, by omega, Weak.ren _ [] hC rfl ⟨.same, ⟨_, rfl, leadsL_data _ ds⟩, by repeat (first | exact True.intro | refine And.intro ?_ ?_ | exact DLead.same)⟩ trivial rfl rfl rfl⟩
 refine AC.exit (th_e (th_e (ib_y (th_n (AC.seq (AC.region ?_))))));refine za ?_;refine AL.nil (th_n (AC.ret (bq_r ?_)));exact ret1 rfl (by rw [findI_none (fun j hj => hall j hj (by omega))])
theorem en_ifAr : Enters Tryz.prog 251 := enters_of Tryz.func251 rfl rfl
set_option maxHeartbeats 1000000 in
theorem cfAr_spec (l : List Ar) (hl : l.length ≤ 1000000) (g : FuncId) (ds : List DV) (hen : Enters Tryz.prog g) (p : Ar → Bool) (hp : ∀ t, t ∈ l → ASpec Tryz.prog g (arA t :: ds.map .d) [] (Pure1 (aT (p t)))) : ASpec Tryz.prog 214 [.d (vArs l), .clo g (ds.map .d)] [] (Pure1 (aT (l.any p))) := by
 refine ASpec.of Tryz.func214 rfl rfl fun C hC => ?_
 refine AC.seq (AC.region ?_);refine za ?_;refine AL.nil (th_n (AC.seq (AC.region ?_)));refine zm ?_;refine AL.p (by exact mv6 rfl) rfl ?_;refine AL.q (by exact h_pure en_ifAr rfl rfl (by exact ⟨_, _, rfl, .same, _, _, rfl, ⟨_, rfl, leadsL_data _ ds⟩, rfl⟩) (ifAr_spec l hl g ds hen p hp) rfl) rfl ?_;refine zc ?_;refine za ?_;refine AL.nil (th_n (AC.ret (bq_r ?_)));exact ret1 rfl (by rw [findI_any])
theorem en_cfAr : Enters Tryz.prog 214 := enters_of Tryz.func214 rfl rfl
def leaveL (c : SG) (k : Int) : List Ar := c.arcs.filter fun v => decide (v.from_ = k)
theorem leave_no {l : List Ar} {k : Int} {j : Nat} (hj : j < l.length) (h : ¬ l[j].from_ = k) : (l.take (j + 1)).filter (fun v => decide (v.from_ = k)) = (l.take j).filter (fun v => decide (v.from_ = k)) := by
 rw [List.take_add_one, List.getElem?_eq_getElem hj, List.filter_append];simp [h]
theorem leave_yes {l : List Ar} {k : Int} {j : Nat} (hj : j < l.length) (h : l[j].from_ = k) : (l.take (j + 1)).filter (fun v => decide (v.from_ = k)) = (l.take j).filter (fun v => decide (v.from_ = k)) ++ [l[j]] := by
 rw [List.take_add_one, List.getElem?_eq_getElem hj, List.filter_append];simp [h]
set_option maxHeartbeats 2000000 in
theorem l5From_spec (c : SG) (k : Int) (hl : c.arcs.length ≤ 1000000) : ASpec Tryz.prog 168 [sgA c, aI k] [] (Pure1 (.d (vArs (leaveL c k)))) := by
 refine ASpec.of Tryz.func168 rfl rfl fun C hC => ?_
 refine AC.seq (AC.region ?_);refine AL.q (by exact h_boxF rfl rfl) rfl ?_;refine za ?_;refine AL.nil (th_n (AC.seq (AC.region ?_)));refine za ?_;refine AL.nil (th_n (AC.seq (AC.seq (AC.region ?_))));refine zf ?_;refine zr ?_;refine AL.p (by exact g_len_view (k := c.arcs.length) rfl rfl (arL_len _)) rfl ?_;refine zm ?_;refine AL.nil (th_n (AC.block ?_));refine AC.loop (ι := Nat) (fun j => ⟨25, 300, [(1, aI k), (2, .d (.ref (sgD c))), (5, .own 100 ((c.arcs.take j).filter (fun v => decide (v.from_ = k))).length), (9, .d (vArs c.arcs)), (10, aI c.arcs.length), (11, aI j)], [(100, some (.arr 75 4 (arL ((c.arcs.take j).filter (fun v => decide (v.from_ = k))))))]⟩) (fun j => j ≤ c.arcs.length) (fun j => c.arcs.length - j) (0) ?_ (Nat.zero_le _) ?_
 ·exact (Weak.nilOwn (i := 5) (e := 75) (sz := 4) rfl (by decide)).trans (zw [(100, _)] hC)
 intro j hj;refine AC.seq (AC.region ?_);refine zc ?_;refine AL.nil (th_n (AC.seq ?_));refine AC.condD rfl (fun h0 => ?_) (fun h0 => ?_)
 ·refine AC.skip (th_n (AC.seq (AC.block (AC.seq ?_))));have hj1 : j < c.arcs.length := by omega
  have hget := arL_get hj1;have hfn := leave_no (k := k) hj1;have hfy := leave_yes (k := k) hj1;have hfl := List.length_filter_le (fun v : Ar => decide (v.from_ = k)) (c.arcs.take j);rw [List.length_take] at hfl;obtain ⟨v, hv⟩ : ∃ v, v = c.arcs[j] := ⟨_, rfl⟩;rw [← hv] at hget hfn hfy;clear hv;obtain ⟨F, hF⟩ : ∃ F, F = (c.arcs.take j).filter (fun v => decide (v.from_ = k)) := ⟨_, rfl⟩;rw [← hF] at hfn hfy hfl ⊢;clear hF;refine AC.region ?_;refine AL.p (by exact g_ia_view rfl rfl rfl rfl rfl (by rfl) (by assumption)) rfl ?_;refine AL.p (by exact g_load_refN rfl rfl rfl rfl) rfl ?_;refine AL.q (by exact h_alloc rfl) rfl ?_;refine zs ?_;refine AL.nil (th_n (AC.seq (AC.region ?_)));refine zF ?_;refine zl ?_;refine zm ?_;refine zc ?_;refine AL.nil (th_n ?_);refine AC.condD rfl (fun h1 => ?_) (fun h1 => ?_)
  ·refine AC.region ?_;refine AL.p (by exact mv2 rfl) rfl ?_;refine AL.p (by exact g_load_ptrN rfl rfl rfl rfl rfl) rfl ?_;refine AL.q (by exact h_litF rfl rfl rfl rfl rfl rfl rfl rfl) rfl ?_;refine AL.q (by exact h_appendAr F [v] (.own rfl rfl (arL_len _).symm) (.view rfl) (by rw [List.length_append]; simp only [List.length_cons, List.length_nil]; omega) (by simp)) rfl ?_;refine AL.p (by exact as2 rfl) rfl ?_;refine AL.nil (ib_n (th_n (AC.region ?_)));refine zA ?_;refine zm ?_;refine AL.nil (th_n ?_)
   (have e := hfy (by assumption); exact ⟨j + 1, by omega, by omega, zw [(100, _)] hC (by rw [e]; repeat (first | exact True.intro | refine And.intro ?_ ?_ | exact DLead.same | exact rfl | refine ⟨_, rfl, ?_⟩)) (by rw [e]; repeat (first | exact True.intro | refine And.intro ?_ ?_ | exact rfl | refine ⟨_, _, rfl, rfl, ?_⟩))⟩)
  refine AC.skip (ib_n (th_n (AC.region ?_)));refine zA ?_;refine zm ?_;refine AL.nil (th_n ?_)
  (have e := hfn (by assumption); exact ⟨j + 1, by omega, by omega, zw [(100, 100)] hC (by rw [e]; repeat (first | exact True.intro | refine And.intro ?_ ?_ | exact DLead.same | exact rfl | refine ⟨_, rfl, ?_⟩)) (by rw [e]; repeat (first | exact True.intro | refine And.intro ?_ ?_ | exact rfl | refine ⟨_, _, rfl, rfl, ?_⟩))⟩)
 refine AC.exit (th_e (th_e (ib_y (th_n (AC.seq ?_)))));have hjj : j = c.arcs.length := by omega
 rw [hjj, List.take_length];obtain ⟨L, hL⟩ : ∃ L, L = c.arcs.filter (fun v => decide (v.from_ = k)) := ⟨_, rfl⟩;have hL2 : leaveL c k = L := hL.symm;rw [← hL, hL2];refine AC.weak (Weak.freeze (i := 5) rfl rfl (Nat.le_of_eq (arL_len _).symm) (List.take_of_length_le (Nat.le_of_eq (arL_len _)))) ?_;refine AC.region ?_;refine zm ?_;refine za ?_;refine AL.nil (th_n (AC.ret (bq_r ?_)));exact ret1 rfl rfl
theorem en_l5From : Enters Tryz.prog 168 := enters_of Tryz.func168 rfl rfl
noncomputable def stateB (c : SG) (k : Int) : Bool := validC c && (decide (0 ≤ k) && decide (k ≤ (c.codes.length : Int) - 1))
theorem isExc1_spec (v : Ar) (k g : Int) : ASpec Tryz.prog 225 [arA v, .d (.ref [dI k]), .d (.ref [dI g])] [] (Pure1 (aT (decide (v.from_ = k) && decide (v.sig = g)))) := by
 refine ASpec.of Tryz.func225 rfl rfl fun C hC => ?_
 refine AC.seq (AC.region ?_);refine AL.q (by exact h_boxF rfl rfl) rfl ?_;refine za ?_;refine AL.nil (th_n (AC.seq (AC.region ?_)));refine zf ?_;refine zr ?_;refine zr ?_;refine zc ?_;refine zm ?_;refine AL.caseG rfl rfl (fun h0 => ?_) (fun h0 => ?_)
 ·refine zy ?_;refine zf ?_;refine zy ?_;refine zr ?_;refine zy ?_;refine zr ?_;refine zy ?_;refine zc ?_;refine zQ ?_;refine za ?_;refine AL.nil (th_n (AC.ret (bq_r ?_)))
  (have q := ‹v.from_ = k›; exact ret1 rfl (by rw [decide_eq_true q, Bool.true_and]))
 refine zn ?_;refine zn ?_;refine zn ?_;refine zn ?_;refine zP ?_;refine za ?_;refine AL.nil (th_n (AC.ret (bq_r ?_)))
 (have q := ‹¬ v.from_ = k›; exact ret1 rfl (by rw [decide_eq_false q]; rfl))
theorem en_isExc1 : Enters Tryz.prog 225 := enters_of Tryz.func225 rfl rfl
def excB (c : SG) (k g : Int) : Bool := c.arcs.any fun v => decide (v.from_ = k) && decide (v.sig = g)
theorem isExc_spec (c : SG) (k g : Int) (hl : c.arcs.length ≤ 1000000) : ASpec Tryz.prog 169 [sgA c, aI k, aI g] [] (Pure1 (aT (excB c k g))) := by
 have hCf := cfAr_spec c.arcs hl 225 [.ref [dI k], .ref [dI g]] en_isExc1 (fun v => decide (v.from_ = k) && decide (v.sig = g)) (fun v _ => isExc1_spec v k g);have hR : excB c k g = c.arcs.any fun v => decide (v.from_ = k) && decide (v.sig = g) := rfl
 rw [← hR] at hCf;refine ASpec.of Tryz.func169 rfl rfl fun C hC => ?_
 refine AC.seq (AC.region ?_);refine AL.q (by exact h_boxF rfl rfl) rfl ?_;refine AL.q (by exact h_boxF rfl rfl) rfl ?_;refine AL.q (by exact h_boxF rfl rfl) rfl ?_;refine za ?_;refine AL.nil (th_n (AC.seq (AC.region ?_)));refine zf ?_;refine zr ?_;refine AL.p (by exact g_fn rfl) rfl ?_;refine AL.q (by exact h_pure en_cfAr rfl rfl (by exact ⟨_, _, rfl, .same, _, _, rfl, ⟨_, rfl, leadsL_data _ [.ref [dI k], .ref [dI g]]⟩, rfl⟩) hCf rfl) rfl ?_;refine za ?_;refine AL.nil (th_n (AC.ret (bq_r ?_)));exact ret1 rfl rfl
theorem en_isExc : Enters Tryz.prog 169 := enters_of Tryz.func169 rfl rfl
theorem exc_no {c : SG} {k g : Int} (h : ∀ j (hj : j < c.arcs.length), ¬ (c.arcs[j].from_ = k ∧ c.arcs[j].sig = g)) : excB c k g = false := by
 refine List.any_eq_false.2 fun a ha => ?_
 obtain ⟨j, hj, rfl⟩ := List.getElem_of_mem ha;rw [Bool.and_eq_true, decide_eq_true_eq, decide_eq_true_eq]; exact h j hj
theorem exc_yes {c : SG} {k g : Int} {j : Nat} (hj : j < c.arcs.length) (h : c.arcs[j].from_ = k ∧ c.arcs[j].sig = g) : excB c k g = true := List.any_eq_true.2 ⟨_, List.getElem_mem hj, by rw [Bool.and_eq_true, decide_eq_true_eq, decide_eq_true_eq]; exact h⟩
set_option maxHeartbeats 2000000 in
theorem l5Exc_spec (c : SG) (k g : Int) (hl : c.arcs.length ≤ 1000000) : ASpec Tryz.prog 170 [sgA c, aI k, aI g] [] (Pure1 (aT (excB c k g))) := by
 refine ASpec.of Tryz.func170 rfl rfl fun C hC => ?_
 refine AC.seq (AC.region ?_);refine AL.q (by exact h_boxF rfl rfl) rfl ?_;refine za ?_;refine AL.nil (th_n (AC.seq (AC.seq (AC.region ?_))));refine zf ?_;refine zr ?_;refine AL.p (by exact g_len_view (k := c.arcs.length) rfl rfl (arL_len _)) rfl ?_;refine zm ?_;refine AL.nil (th_n (AC.block ?_));refine AC.loop (ι := Nat) (fun j => ⟨27, 300, [(1, aI k), (2, aI g), (10, .d (vArs c.arcs)), (11, aI c.arcs.length), (12, aI j)], []⟩) (fun j => j ≤ c.arcs.length ∧ ∀ i (hi : i < c.arcs.length), i < j → ¬ (c.arcs[i].from_ = k ∧ c.arcs[i].sig = g)) (fun j => c.arcs.length - j) (0) ?_ (⟨Nat.zero_le _, fun i _ hi => absurd hi (Nat.not_lt_zero _)⟩) ?_
 ·exact Weak.ren _ [] hC rfl (by repeat (first | exact True.intro | refine And.intro ?_ ?_ | exact DLead.same)) (by repeat (exact True.intro)) rfl rfl rfl
 rintro j ⟨hj, hall⟩;refine AC.seq (AC.region ?_);refine zc ?_;refine AL.nil (th_n (AC.seq ?_));refine AC.condD rfl (fun h0 => ?_) (fun h0 => ?_)
 ·refine AC.skip (th_n (AC.seq (AC.block (AC.seq ?_))));have hj1 : j < c.arcs.length := by omega
  have hget := arL_get hj1;have hy := exc_yes (k := k) (g := g) hj1;have hnx : ¬ (c.arcs[j].from_ = k ∧ c.arcs[j].sig = g) → ∀ i (hi : i < c.arcs.length), i < j + 1 → ¬ (c.arcs[i].from_ = k ∧ c.arcs[i].sig = g) := fun q i hi h2 => by rcases Nat.lt_succ_iff_lt_or_eq.1 h2 with h | rfl; exact hall i hi h; exact q
  obtain ⟨v, hv⟩ : ∃ v, v = c.arcs[j] := ⟨_, rfl⟩;rw [← hv] at hget hy hnx;clear hv;refine AC.region ?_;refine AL.p (by exact g_ia_view rfl rfl rfl rfl rfl (by rfl) (by assumption)) rfl ?_;refine AL.p (by exact g_load_refN rfl rfl rfl rfl) rfl ?_;refine AL.q (by exact h_alloc rfl) rfl ?_;refine zs ?_;refine AL.nil (th_n (AC.seq (AC.region ?_)));refine zF ?_;refine zl ?_;refine zm ?_;refine zc ?_;refine zm ?_;refine AL.caseG rfl rfl (fun h1 => ?_) (fun h1 => ?_)
  ·refine zy ?_;refine zF ?_;refine zy ?_;refine zl ?_;refine zy ?_;refine zm ?_;refine zy ?_;refine zc ?_;refine zQ ?_;refine AL.nil (th_n ?_);refine AC.condD rfl (fun h2 => ?_) (fun h2 => ?_)
   ·refine AC.seq (AC.region ?_);refine za ?_;refine AL.nil (th_n (AC.ret (ib_r (th_r (th_r (ib_r (th_r (bq_r ?_))))))));exact ret1 rfl (by rw [hy ⟨‹v.from_ = k›, ‹v.sig = g›⟩])
   refine AC.skip (ib_n (th_n (AC.region ?_)));refine zA ?_;refine zm ?_;refine AL.nil (th_n ?_);exact ⟨j + 1, ⟨by omega, hnx (by rintro ⟨q1, q2⟩; exact absurd q2 (by assumption))⟩, by omega, Weak.ren _ [] hC rfl (by repeat (first | exact True.intro | refine And.intro ?_ ?_ | exact DLead.same)) (by repeat (exact True.intro)) rfl rfl rfl⟩
  refine zn ?_;refine zn ?_;refine zn ?_;refine zn ?_;refine zP ?_;refine AL.nil (th_n ?_);refine AC.condF rfl ?_;refine AC.skip (ib_n (th_n (AC.region ?_)));refine zA ?_;refine zm ?_;refine AL.nil (th_n ?_);exact ⟨j + 1, ⟨by omega, hnx (by rintro ⟨q1, q2⟩; exact absurd q1 (by assumption))⟩, by omega, Weak.ren _ [] hC rfl (by repeat (first | exact True.intro | refine And.intro ?_ ?_ | exact DLead.same)) (by repeat (exact True.intro)) rfl rfl rfl⟩
 refine AC.exit (th_e (th_e (ib_y (th_n (AC.seq (AC.region ?_))))));refine za ?_;refine AL.nil (th_n (AC.ret (bq_r ?_)));exact ret1 rfl (by rw [exc_no fun i hi => hall i hi (by omega)])
theorem en_l5Exc : Enters Tryz.prog 170 := enters_of Tryz.func170 rfl rfl
noncomputable def excR (c : SG) (k g : Int) : Bool × Bool := if (stateB c k && (decide (0 ≤ g) && decide (g ≤ (c.sigs.length : Int) - 1))) = true then (excB c k g, true) else (false, false)
set_option maxHeartbeats 2000000 in
theorem iIsExc_spec (c : SG) (k g : Int) (hc : SgL c) : ASpec Tryz.prog 80 [sgA c, aI k, aI g] [] (Pure1 (.tup [aT (excR c k g).1, aT (excR c k g).2])) := by
 have hV := iValidSg_spec c hc;have hW := within_spec k 0 ((c.codes.length : Int) - 1);have hW2 := within_spec g 0 ((c.sigs.length : Int) - 1);have hA := isExc_spec c k g hc.a;have hn := hc.n;have hsg := hc.sg;have hR : excR c k g = if ((validC c && (decide (0 ≤ k) && decide (k ≤ (c.codes.length : Int) - 1))) && (decide (0 ≤ g) && decide (g ≤ (c.sigs.length : Int) - 1))) = true then (excB c k g, true) else (false, false) := rfl
 obtain ⟨b, hb⟩ : ∃ b, b = validC c := ⟨_, rfl⟩;rw [← hb] at hV hR;obtain ⟨d, hd⟩ : ∃ d, d = (decide (0 ≤ k) && decide (k ≤ (c.codes.length : Int) - 1)) := ⟨_, rfl⟩;rw [← hd] at hW hR;obtain ⟨d2, hd2⟩ : ∃ d, d = (decide (0 ≤ g) && decide (g ≤ (c.sigs.length : Int) - 1)) := ⟨_, rfl⟩;rw [← hd2] at hW2 hR;obtain ⟨R, hRR⟩ : ∃ R, R = excR c k g := ⟨_, rfl⟩;rw [← hRR] at hR ⊢;clear hb hd hd2 hRR;have hN : b = false ∨ d = false ∨ d2 = false → R = (false, false) := fun h => hR.trans (if_neg (by rcases h with h | h | h <;> rw [h] <;> simp))
 have hY : b = true → d = true → d2 = true → R = (excB c k g, true) := fun h1 h2 h3 => hR.trans (if_pos (by rw [h1, h2, h3]; rfl))
 refine ASpec.of Tryz.func80 rfl rfl fun C hC => ?_
 refine AC.seq (AC.region ?_);refine AL.q (by exact h_boxF rfl rfl) rfl ?_;refine za ?_;refine za ?_;refine AL.nil (th_n (AC.seq (AC.seq (AC.region ?_))));refine AL.p (by exact g_load_refN rfl rfl rfl rfl) rfl ?_;refine AL.q (by exact h_pure en_iValidSg rfl rfl (by repeat (first | exact rfl | exact DLead.same | refine ⟨_, _, rfl, ?_, ?_⟩ | refine ⟨_, rfl, ?_⟩)) hV rfl) rfl ?_;refine AL.p (by exact g_not rfl) rfl ?_;refine zm ?_;refine AL.caseGB rfl rfl (fun h0 => ?_) (fun h0 => ?_)
 ·refine zn ?_;refine zn ?_;refine zn ?_;refine zn ?_;refine zn ?_;refine zn ?_;refine zn ?_;refine zQ ?_;refine zm ?_;refine zn ?_;refine zn ?_;refine zn ?_;refine zn ?_;refine zn ?_;refine zn ?_;refine zn ?_;refine zQ ?_;refine AL.nil (th_n ?_);refine AC.condT rfl ?_;refine AC.seq (AC.region ?_);refine za ?_;refine za ?_;refine AL.nil (th_n (AC.ret (th_r (bq_r ?_))));have e : R = (false, false) := hN (by exact .inl (by simpa using ‹(!b) = true›));exact ret2 rfl (by rw [e]) (by rw [e])
 refine zy ?_;refine zm ?_;refine zy ?_;refine zf ?_;refine zy ?_;refine zr ?_;refine zy ?_;refine AL.p (by exact g_len_view (k := c.codes.length) rfl rfl (tsX_len _)) rfl ?_;refine zy ?_;refine zA ?_;refine zy ?_;refine AL.q (by exact h_pure en_within rfl rfl (by repeat (first | exact rfl | exact DLead.same | refine ⟨_, _, rfl, ?_, ?_⟩)) hW rfl) rfl ?_;refine zy ?_;refine AL.p (by exact g_not rfl) rfl ?_;refine zP ?_;refine zm ?_;refine AL.caseGB rfl rfl (fun h1 => ?_) (fun h1 => ?_)
 ·refine zn ?_;refine zn ?_;refine zn ?_;refine zn ?_;refine zn ?_;refine zn ?_;refine zn ?_;refine zQ ?_;refine AL.nil (th_n ?_);refine AC.condT rfl ?_;refine AC.seq (AC.region ?_);refine za ?_;refine za ?_;refine AL.nil (th_n (AC.ret (th_r (bq_r ?_))));have e : R = (false, false) := hN (by exact .inr (.inl (by simpa using ‹(!d) = true›)));exact ret2 rfl (by rw [e]) (by rw [e])
 refine zy ?_;refine zm ?_;refine zy ?_;refine zf ?_;refine zy ?_;refine zr ?_;refine zy ?_;refine AL.p (by exact g_len_view (k := c.sigs.length) rfl rfl (sigsL_len _)) rfl ?_;refine zy ?_;refine zA ?_;refine zy ?_;refine AL.q (by exact h_pure en_within rfl rfl (by repeat (first | exact rfl | exact DLead.same | refine ⟨_, _, rfl, ?_, ?_⟩)) hW2 rfl) rfl ?_;refine zy ?_;refine AL.p (by exact g_not rfl) rfl ?_;refine zP ?_;refine AL.nil (th_n ?_);refine AC.condB rfl (fun h2 => ?_) (fun h2 => ?_)
 ·refine AC.seq (AC.region ?_);refine za ?_;refine za ?_;refine AL.nil (th_n (AC.ret (th_r (bq_r ?_))));have e : R = (false, false) := hN (by exact .inr (.inr (by simpa using ‹(!d2) = true›)));exact ret2 rfl (by rw [e]) (by rw [e])
 refine AC.skip (th_n (AC.seq (AC.region ?_)));refine AL.p (by exact g_load_refN rfl rfl rfl rfl) rfl ?_;refine zm ?_;refine zm ?_;refine AL.q (by exact h_pure en_isExc rfl rfl (by repeat (first | exact rfl | exact DLead.same | refine ⟨_, _, rfl, ?_, ?_⟩ | refine ⟨_, rfl, ?_⟩)) hA rfl) rfl ?_;refine za ?_;refine za ?_;refine AL.nil (th_n (AC.ret (bq_r ?_)));have e := hY (by simpa using ‹(!b) = false›) (by simpa using ‹(!d) = false›) (by simpa using ‹(!d2) = false›);exact ret2 rfl (by rw [e]) (by rw [e])
theorem en_iIsExc : Enters Tryz.prog 80 := enters_of Tryz.func80 rfl rfl
theorem ofI64 {a : Nat} (ha : a < 1048576) : (BitVec.ofInt IntKind.i64.bits (a : Int)).toNat = a := by
 show (BitVec.ofInt 64 (a : Int)).toNat = a;rw [BitVec.ofInt_natCast, BitVec.toNat_ofNat];exact Nat.mod_eq_of_lt (by omega)
theorem bits_or {a b : Nat} (ha : a < 1048576) (hb : b < 1048576) : bitsOf .i64 .or (a : Int) (b : Int) = some ((a ||| b : Nat) : Int) := by
 have h : a ||| b < 2 ^ 20 := Nat.or_lt_two_pow ha hb
 simp only [bitsOf, BitVec.toNat_or, ofI64 ha, ofI64 hb];exact congrArg some (wrap_i64 (by omega))
theorem bits_and {a b : Nat} (ha : a < 1048576) (hb : b < 1048576) : bitsOf .i64 .and (a : Int) (b : Int) = some ((a &&& b : Nat) : Int) := by
 have h : a &&& b < 2 ^ 20 := Nat.and_lt_two_pow a hb;simp only [bitsOf, BitVec.toNat_and, ofI64 ha, ofI64 hb];exact congrArg some (wrap_i64 (by omega))
theorem shr_nat {a e : Nat} (he : e < 64) : Int.fdiv (a : Int) (2 ^ (min ((e : Nat) : Int).toNat IntKind.i64.bits)) = ((a >>> e : Nat) : Int) := by
 rw [Int.toNat_natCast, show IntKind.i64.bits = 64 from rfl, Nat.min_eq_left (by omega), Nat.shiftRight_eq_div_pow, Int.natCast_ediv];have : ((2 ^ e : Nat) : Int) = (2 : Int) ^ e := by simp
 rw [this, Int.fdiv_eq_ediv_of_nonneg _ (Int.le_of_lt (Int.pow_pos (by decide)))]
theorem shl_nat {a e : Nat} (ha : a ≤ 2) (he : e ≤ 18) : IntKind.i64.wrap ((a : Int) * 2 ^ (min ((e : Nat) : Int).toNat IntKind.i64.bits)) = ((a * 2 ^ e : Nat) : Int) := by
 rw [Int.toNat_natCast, show IntKind.i64.bits = 64 from rfl, Nat.min_eq_left (by omega)];have h2 : 2 ^ e ≤ 2 ^ 18 := Nat.pow_le_pow_right (by decide) he;have h3 : a * 2 ^ e ≤ 2 * 2 ^ 18 := Nat.mul_le_mul ha h2;have : ((2 ^ e : Nat) : Int) = (2 : Int) ^ e := by simp
 rw [← this, ← Int.natCast_mul];exact wrap_i64 (by omega)
theorem low2 {m g : Nat} : ((m >>> g) &&& 3 = 0) ↔ (m.testBit g = false ∧ m.testBit (g + 1) = false) := by
 have h1 : (m >>> g) &&& 3 = (m >>> g) % 4 := Nat.and_two_pow_sub_one_eq_mod (m >>> g) 2;have h2 : m.testBit g = (m >>> g).testBit 0 := by rw [Nat.testBit_shiftRight]; rfl
 have h3 : m.testBit (g + 1) = (m >>> g).testBit 1 := by rw [Nat.testBit_shiftRight]
 rw [h1, h2, h3, Nat.testBit_succ, Nat.testBit_zero, Nat.testBit_zero];simp only [decide_eq_false_iff_not];omega
def labM (a : Ar) : Nat := 2 ^ (2 * a.sig.toNat + bif a.up then 1 else 0)
def mskS (k : Int) (m : Nat) (a : Ar) : Nat := if 0 ≤ a.sig ∧ a.from_ = k then m ||| labM a else m
def mskN (L : List Ar) (k : Int) : Nat := L.foldl (mskS k) 0
theorem mskN_snoc (L : List Ar) (a : Ar) (k : Int) : mskN (L ++ [a]) k = mskS k (mskN L k) a := by unfold mskN; rw [List.foldl_append]; rfl
theorem msk_bit (k : Int) (i : Nat) : ∀ (L : List Ar) (m : Nat), (L.foldl (mskS k) m).testBit i = (m.testBit i || L.any fun a => (decide (0 ≤ a.sig) && decide (a.from_ = k)) && decide (2 * a.sig.toNat + (bif a.up then 1 else 0) = i))
 | [], m => by simp
 | a :: L, m => by
  rw [List.foldl_cons, msk_bit k i L, List.any_cons, ← Bool.or_assoc];congr 1;unfold mskS labM
  split
  ·rename_i q;rw [Nat.testBit_or, Nat.testBit_two_pow]; simp [q.1, q.2]
  rename_i q
  by_cases h1 : 0 ≤ a.sig
  ·have h2 : ¬ a.from_ = k := fun h => q ⟨h1, h⟩
   simp [h2]
  simp [h1]
theorem labM_lt {a : Ar} (h : a.sig < 8) : labM a < 65536 := by
 unfold labM;have h1 : 2 * a.sig.toNat + (bif a.up then 1 else 0) ≤ 15 := by cases a.up <;> simp <;> omega
 have h2 : 2 ^ (2 * a.sig.toNat + (bif a.up then 1 else 0)) ≤ 2 ^ 15 := Nat.pow_le_pow_right (by decide) h1;omega
theorem mskS_lt {a : Ar} {k : Int} {m : Nat} (h : a.sig < 8) (hm : m < 65536) : mskS k m a < 65536 := by
 unfold mskS
 split
 ·exact Nat.or_lt_two_pow (n := 16) hm (labM_lt h)
 exact hm
theorem msk_lt (k : Int) : ∀ (L : List Ar) (m : Nat), (∀ a, a ∈ L → a.sig < 8) → m < 65536 → L.foldl (mskS k) m < 65536
 | [], m, _, hm => hm
 | a :: L, m, h, hm => by
  rw [List.foldl_cons];exact msk_lt k L _ (fun b hb => h b (List.mem_cons_of_mem _ hb)) (mskS_lt (h a (List.mem_cons_self ..)) hm)
theorem mskN_lt {L : List Ar} (h : ∀ a, a ∈ L → a.sig < 8) (k : Int) : mskN L k < 65536 := msk_lt k L 0 h (by decide)
theorem msk_exc (c : SG) (k : Int) (g : Nat) : ((mskN c.arcs k >>> (2 * g)) &&& 3 = 0) ↔ excB c k g = false := by
 rw [low2];unfold mskN;rw [msk_bit, msk_bit, Nat.zero_testBit, Nat.zero_testBit, Bool.false_or, Bool.false_or];unfold excB;simp only [List.any_eq_false, Bool.and_eq_true, decide_eq_true_eq];constructor
 ·rintro ⟨h1, h2⟩ a ha ⟨e1, e2⟩;cases hu : a.up with
  | false => exact h1 a ha ⟨⟨by omega, e1⟩, by rw [hu]; show 2 * a.sig.toNat + 0 = _; omega⟩
  | true => exact h2 a ha ⟨⟨by omega, e1⟩, by rw [hu]; show 2 * a.sig.toNat + 1 = _; omega⟩
 intro h;constructor
 ·rintro a ha ⟨⟨e0, e1⟩, e2⟩;refine h a ha ⟨e1, ?_⟩;cases hu : a.up with
  | false => rw [hu] at e2; simp only [cond_false] at e2; omega
  | true => rw [hu] at e2; simp only [cond_true] at e2; omega
 rintro a ha ⟨⟨e0, e1⟩, e2⟩;refine h a ha ⟨e1, ?_⟩;cases hu : a.up with
 | false => rw [hu] at e2; simp only [cond_false] at e2; omega
 | true => rw [hu] at e2; simp only [cond_true] at e2; omega
def arAt (L : List Ar) (i : Nat) : Ar := L.getD i ⟨0, 0, false, 0⟩
theorem arAt_nat {L : List Ar} {i : Nat} (h : i < L.length) : arAt L i = L[i] := by unfold arAt; rw [List.getD_eq_getElem?_getD, List.getElem?_eq_getElem h]; rfl
theorem arAt_get {L : List Ar} {i : Nat} (h : i < L.length) : (arL L)[i]? = some (arD (arAt L i)) := by rw [arAt_nat h]; exact arL_get h
def movesC (L : List Ar) : List Mv := (List.range L.length).map fun j => ⟨(arAt L j).from_, j, (arAt L j).to_⟩
def exC (c : SG) : Ex := ⟨List.replicate c.codes.length [], movesC c.arcs⟩
theorem movesC_len (L : List Ar) : (movesC L).length = L.length := by unfold movesC; simp
theorem movesC_get {L : List Ar} {j : Nat} (h : j < L.length) : (movesC L)[j]'(by rw [movesC_len]; exact h) = ⟨L[j].from_, j, L[j].to_⟩ := by
 unfold movesC;rw [List.getElem_map, List.getElem_range, arAt_nat h]
theorem movesC_take {L : List Ar} {j : Nat} (h : j < L.length) : (movesC L).take (j + 1) = (movesC L).take j ++ [⟨L[j].from_, j, L[j].to_⟩] := by
 rw [List.take_add_one, List.getElem?_eq_getElem (by rw [movesC_len]; exact h), movesC_get h]; rfl
theorem movesC_edges (c : SG) : edgesR (exC c) = arcE c.arcs := by
 unfold edgesR exC arcE;refine List.ext_getElem (by simp [movesC_len]) fun i h1 h2 => ?_
 rw [List.getElem_map, List.getElem_map];have hi : i < c.arcs.length := by simpa using h2
 have hm : i < (movesC c.arcs).length := by rw [movesC_len]; exact hi
 show ((movesC c.arcs)[i].from_.toNat, (movesC c.arcs)[i].to_.toNat) = _;rw [movesC_get hi]
theorem repS (n : Nat) : List.replicate n (([ZK.str] : List ZK).map fun z => DV.val z.val) = tsX (List.replicate n []) := by unfold tsX; rw [List.map_replicate]; rfl
set_option maxHeartbeats 4000000 in
theorem l5Moves_spec (c : SG) (hn : c.codes.length ≤ 100000) (hl : c.arcs.length ≤ 1000000) : ASpec Tryz.prog 217 [sgA c] [] (Pure1 (rgA (exC c))) := by
 have hml := movesC_len c.arcs;have hmt := fun j (hj : j < c.arcs.length) => movesC_take hj
 have hex : exC c = ⟨List.replicate c.codes.length [], movesC c.arcs⟩ := rfl;obtain ⟨M, hM⟩ : ∃ M, M = movesC c.arcs := ⟨_, rfl⟩;simp only [← hM] at hml hmt hex;clear hM;obtain ⟨n, hnn⟩ : ∃ n, n = c.codes.length := ⟨_, rfl⟩;rw [← hnn] at hn hex;rw [hex];refine ASpec.of Tryz.func217 rfl rfl fun C hC => ?_
 refine AC.seq (AC.region ?_);refine AL.q (by exact h_boxF rfl rfl) rfl ?_;refine AL.q (by exact h_alloc rfl) rfl ?_;refine AL.nil (th_n (AC.seq (AC.region ?_)));refine zf ?_;refine zr ?_;refine AL.p (by exact g_len_view (k := n) rfl rfl (by rw [hnn]; exact tsX_len _)) rfl ?_;refine AL.q (by exact h_make (k := n) rfl rfl rfl rfl rfl rfl rfl rfl (by show 16 * n ≤ _; omega) (by omega)) rfl ?_;refine AL.p (by exact g_build rfl rfl rfl) rfl ?_;refine AL.q (by exact h_alloc rfl) rfl ?_;refine zs ?_;refine AL.nil (th_n (AC.seq (AC.seq (AC.region ?_))));refine zf ?_;refine zr ?_;refine AL.p (by exact g_len_view (k := c.arcs.length) rfl rfl (arL_len _)) rfl ?_;refine zm ?_;refine AL.nil (th_n (AC.block ?_));refine AC.loop (ι := Nat) (fun j => ⟨32, 400, [(1, .d (.ref (sgD c))), (2, .ptr 202 0), (3, .ptr 203 0), (12, .d (vArs c.arcs)), (13, aI c.arcs.length), (14, aI j)], [(202, some (.cells 35 zRG)), (203, some (.cells 35 [.own 100 n, .own 101 j])), (100, some (.arr 9 1 (tsX (List.replicate n [])))), (101, some (.arr 52 3 (mvL (M.take j))))]⟩) (fun j => j ≤ c.arcs.length) (fun j => c.arcs.length - j) (0) ?_ (Nat.zero_le _) ?_
 ·exact (Weak.nilOwnP 3 1 (e := 52) (sz := 3) rfl rfl rfl rfl rfl).trans (zw [(202, _), (203, _), (100, _), (101, _)] hC (b := by rw [← repS]; repeat (first | exact True.intro | refine And.intro ?_ ?_ | exact DLead.same | exact rfl | refine ⟨_, _, rfl, rfl, ?_⟩ | refine ⟨_, rfl, ?_⟩ | refine ⟨_, _, rfl, ?_, ?_⟩)))
 intro j hj;refine AC.seq (AC.region ?_);refine zc ?_;refine AL.nil (th_n (AC.seq ?_));refine AC.condD rfl (fun h0 => ?_) (fun h0 => ?_)
 ·refine AC.skip (th_n (AC.seq (AC.block (AC.seq ?_))));have hj1 : j < c.arcs.length := by omega
  have hget := arL_get hj1;have hst := hmt j hj1;have htl : (M.take j).length = j := by rw [List.length_take]; omega
  obtain ⟨v, hv⟩ : ∃ v, v = c.arcs[j] := ⟨_, rfl⟩;rw [← hv] at hget hst;clear hv;refine AC.region ?_;refine zm ?_;refine AL.p (by exact g_ia_view rfl rfl rfl rfl rfl (by rfl) (by assumption)) rfl ?_;refine AL.p (by exact g_load_refN rfl rfl rfl rfl) rfl ?_;refine AL.q (by exact h_alloc rfl) rfl ?_;refine za ?_;refine zs ?_;refine AL.nil (th_n (AC.region ?_));refine zF ?_;refine zl ?_;refine zF ?_;refine zl ?_;refine zm ?_;refine zF ?_;refine zl ?_;refine AL.p (by exact g_build rfl rfl rfl) rfl ?_;refine AL.q (by exact h_litF rfl rfl rfl rfl rfl rfl rfl rfl) rfl ?_;refine AL.q (by exact h_appendMv (M.take j) [⟨v.from_, j, v.to_⟩] (.own rfl rfl (by rw [mvL_len, htl])) (.view rfl) (by rw [List.length_append, htl]; simp only [List.length_cons, List.length_nil]; omega) (by simp)) rfl ?_;refine zF ?_;refine zs ?_;refine AL.nil (ib_n (th_n (AC.region ?_)));refine zA ?_;refine zm ?_;refine AL.nil (th_n ?_);exact ⟨j + 1, by omega, by omega, zw [(202, 202), (203, 203), (100, 100), (101, _)] hC (b := by rw [List.length_append, htl, hst]; repeat (first | exact True.intro | refine And.intro ?_ ?_ | exact DLead.same | exact rfl | refine ⟨_, _, rfl, rfl, ?_⟩ | refine ⟨_, rfl, ?_⟩ | refine ⟨_, _, rfl, ?_, ?_⟩))⟩
 refine AC.exit (th_e (th_e (ib_y (th_n (AC.seq ?_)))));have hjj : j = c.arcs.length := by omega
 rw [hjj, ← hml, List.take_length];refine AC.weak (Weak.freezeP (els' := tsX (List.replicate n [])) 3 0 rfl rfl rfl rfl (by rw [tsX_len, List.length_replicate]; exact Nat.le_refl _) (List.take_of_length_le (by rw [tsX_len, List.length_replicate]; exact Nat.le_refl _)) rfl) ?_;refine AC.weak (Weak.freezeP (els' := mvL M) 3 1 rfl rfl rfl rfl (by rw [mvL_len]; exact Nat.le_refl _) (List.take_of_length_le (by rw [mvL_len]; exact Nat.le_refl _)) rfl) ?_;refine AC.region ?_;refine AL.p (by exact g_load_ptrN rfl rfl rfl rfl rfl) rfl ?_;refine zs ?_;refine AL.nil (th_n (AC.ret (bq_r ?_)));exact ret0 rfl (by repeat (first | exact DLead.same | exact rfl | refine ⟨_, rfl, ?_⟩ | refine ⟨_, _, rfl, ?_, ?_⟩))
theorem en_l5Moves : Enters Tryz.prog 217 := enters_of Tryz.func217 rfl rfl
end Go.Proofs.YthafkkgmekgmoaaGreat
