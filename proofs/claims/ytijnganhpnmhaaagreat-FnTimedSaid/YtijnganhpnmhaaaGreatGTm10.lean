
/- Contracts of the functions of the program and of the reference, each proved by a walk through its code. -/
import Derived.WalkKit
import Derived.WalkSpells
import Derived.WalkLawsBesides
import Derived.Deep.Draws
import Derived.Lib.Hide
import Derived.Maps.AppendAt
import Derived.OwnWalk
import Derived.Deep.MidRow
import Derived.Laws.ResultCell
import Derived.Deep.Upon
import Derived.Great.FillDense
import Derived.Laws.Tables
import Derived.Laws.BytesArg
import Derived.Laws.MakeOwn
import Derived.Great.BuildSlice
import Derived.ArgAppend
import Derived.Deep.AppendSrc
import Derived.Test.YtijnganhpnmhaaaGreatProg
import Derived.KernelRfl
import Derived.Orders
import Derived.Laws.IdiomStrings
import Derived.Lib.AppendZerosOnto
import Derived.ProofKit
import Derived.OpenShut
import Derived.Laws.IdiomCopy
import Derived.Shelf.Bits.Mul64
import Derived.Test.YtijnganhpnmhaaaGreatRows
import Derived.Laws.StructEq
import Derived.ChangeKeysEq
import Derived.Below
import Derived.Laws.Small
import Derived.Test.YtijnganhpnmhaaaGreatGTm9
set_option linter.all false
set_option maxRecDepth 20000
namespace Go.Proofs.YtijnganhpnmhaaaGreat
open Go.RowKit
def okS (s : Stg) : Bool := decide (0 ≤ s.net.places) && decide (s.net.places ≤ 40) && decide (s.net.ts.length ≤ 20) && s.net.ts.all (fun t => decide (t.pre.length ≤ 4) && decide (t.post.length ≤ 4)) && decide (1 ≤ s.sigs.length) && decide (s.sigs.length ≤ 8) && s.sigs.all (fun x => decide (x.name.length ≤ 10)) && decide (1 ≤ s.labs.length) && decide (s.labs.length ≤ 20) && s.labs.all (fun x => decide (-10 ≤ x.sig) && decide (x.sig ≤ 10)) && decide (s.start.length ≤ 40)
structure StgS (s : Stg) : Prop where
 p : 0 ≤ s.net.places ∧ s.net.places ≤ 40
 tl : s.net.ts.length ≤ 20
 t : ∀ t, t ∈ s.net.ts → t.pre.length ≤ 4 ∧ t.post.length ≤ 4
 s0 : 1 ≤ s.sigs.length
 sl : s.sigs.length ≤ 8
 sn : ∀ x, x ∈ s.sigs → x.name.length ≤ 10
 ll : s.labs.length ≤ 20
 lb : ∀ x, x ∈ s.labs → -10 ≤ x.sig ∧ x.sig ≤ 10
 st : s.start.length ≤ 60
theorem okS_S {s : Stg} (h : okS s = true) : StgS s ∧ 1 ≤ s.labs.length ∧ s.start.length ≤ 40 := by
 simp only [okS, Bool.and_eq_true, decide_eq_true_eq, List.all_eq_true] at h
 obtain ⟨⟨⟨⟨⟨⟨⟨⟨⟨⟨h1, h2⟩, h3⟩, h4⟩, h5⟩, h6⟩, h7⟩, h8⟩, h9⟩, h10⟩, h11⟩ := h
 exact ⟨⟨⟨h1, h2⟩, h3, h4, h5, h6, h7, h9, h10, by omega⟩, h8, h11⟩
theorem StgS.B {s : Stg} (h : StgS s) : StgB s := ⟨⟨by have := h.p; omega, by have := h.tl; omega, fun t ht => by have := h.t t ht; omega⟩, by have := h.sl; omega, fun t ht => by have := h.sn t ht; omega, by have := h.ll; omega, fun x hx => by have := h.lb x hx; omega, by have := h.st; omega⟩
def plS0 : Stg := buildS [97, 98] [99] [] [97, 43, 62, 99, 43, 32, 98, 43, 62, 99, 43, 32, 99, 43, 62, 97, 45, 32, 99, 43, 62, 98, 45, 32, 97, 45, 62, 99, 45, 32, 98, 45, 62, 99, 45, 32, 42, 99, 45, 62, 97, 43, 32, 42, 99, 45, 62, 98, 43]
theorem plS0_ok : okS plS0 = true := by decide +kernel
def plS1 : Stg := buildS [97] [98] [] [97, 43, 62, 98, 43, 32, 98, 43, 62, 97, 45, 32, 97, 45, 62, 98, 45, 32, 42, 98, 45, 62, 97, 43]
theorem plS1_ok : okS plS1 = true := by decide +kernel
def plS2 : Stg := buildS [114] [120, 121] [] [114, 43, 62, 120, 43, 32, 114, 43, 62, 121, 43, 32, 120, 43, 62, 114, 45, 32, 121, 43, 62, 114, 45, 32, 114, 45, 62, 120, 45, 32, 114, 45, 62, 121, 45, 32, 42, 120, 45, 62, 114, 43, 32, 42, 121, 45, 62, 114, 43]
theorem plS2_ok : okS plS2 = true := by decide +kernel
def plS3 : Stg := buildS [97, 100] [98, 99] [] [97, 43, 62, 98, 43, 32, 98, 43, 62, 100, 43, 32, 100, 43, 62, 99, 43, 32, 99, 43, 62, 97, 45, 32, 97, 45, 62, 98, 45, 32, 98, 45, 62, 100, 45, 32, 100, 45, 62, 99, 45, 32, 42, 99, 45, 62, 97, 43]
theorem plS3_ok : okS plS3 = true := by decide +kernel
def plS4 : Stg := buildS [97] [98] [120] [97, 43, 62, 120, 43, 32, 120, 43, 62, 98, 43, 32, 98, 43, 62, 97, 45, 32, 97, 45, 62, 120, 45, 32, 120, 45, 62, 98, 45, 32, 42, 98, 45, 62, 97, 43]
theorem plS4_ok : okS plS4 = true := by decide +kernel
def plS5 : Stg := buildS [97, 98] [99] [] [42, 95, 112, 62, 97, 43, 32, 95, 112, 62, 98, 43, 32, 97, 43, 62, 99, 43, 47, 49, 32, 99, 43, 47, 49, 62, 97, 45, 32, 97, 45, 62, 99, 45, 47, 49, 32, 99, 45, 47, 49, 62, 95, 112, 32, 98, 43, 62, 99, 43, 47, 50, 32, 99, 43, 47, 50, 62, 98, 45, 32, 98, 45, 62, 99, 45, 47, 50, 32, 99, 45, 47, 50, 62, 95, 112]
theorem plS5_ok : okS plS5 = true := by decide +kernel
def plS6 : Stg := buildS [97] [98] [] [97, 43, 62, 126, 32, 126, 62, 98, 43, 32, 98, 43, 62, 97, 45, 32, 97, 45, 62, 98, 45, 32, 42, 98, 45, 62, 97, 43]
theorem plS6_ok : okS plS6 = true := by decide +kernel
def grS0 : Stg := buildS [114] [120, 121] [] [42, 121, 45, 62, 114, 43, 32, 114, 43, 62, 120, 43, 32, 120, 43, 62, 120, 45, 32, 120, 45, 62, 121, 43, 32, 121, 43, 62, 114, 45, 32, 114, 45, 62, 121, 45]
theorem grS0_ok : okS grS0 = true := by decide +kernel
def grS1 : Stg := buildS [97] [98, 99] [] [42, 97, 45, 62, 97, 43, 32, 97, 43, 62, 95, 112, 32, 95, 112, 62, 98, 43, 32, 95, 112, 62, 99, 43, 32, 98, 43, 62, 98, 45, 32, 99, 43, 62, 99, 45, 32, 98, 45, 62, 95, 113, 32, 99, 45, 62, 95, 113, 32, 95, 113, 62, 97, 45]
theorem grS1_ok : okS grS1 = true := by decide +kernel
def grS2 : Stg := buildS [97] [98] [] [97, 43, 47, 49, 62, 98, 43, 32, 98, 43, 62, 97, 43, 47, 50, 32, 97, 43, 47, 50, 62, 98, 45, 32, 42, 98, 45, 62, 97, 43, 47, 49]
theorem grS2_ok : okS grS2 = true := by decide +kernel
def grS4 : Stg := buildS [97] [98] [] [42, 95, 112, 62, 97, 43, 32, 97, 43, 62, 98, 43, 32, 98, 43, 62, 95, 113]
theorem grS4_ok : okS grS4 = true := by decide +kernel
def twS0 : Stg := buildS [112] [113] [] [112, 43, 62, 113, 43, 32, 113, 43, 62, 112, 45, 32, 112, 45, 62, 113, 45, 32, 42, 113, 45, 62, 112, 43]
theorem twS0_ok : okS twS0 = true := by decide +kernel
def twS1 : Stg := buildS [97] [98] [] [97, 43, 62, 98, 43, 32, 98, 43, 62, 97, 45, 32, 97, 45, 62, 98, 45, 32, 42, 98, 45, 62, 97, 43]
theorem twS1_ok : okS twS1 = true := by decide +kernel
def grS3 : Stg := unionT twS0 twS1
theorem grS3_ok : okS grS3 = true := by decide +kernel
theorem twS_ok : (unionS twS0 twS1).2 = true := by decide +kernel
theorem twS_net : okS ⟨(unionR twS0.net twS1.net).1, twS0.sigs, twS0.labs, []⟩ = true := by decide +kernel
def plS (i : Int) : Stg := if i = 0 then plS0 else if i = 1 then plS1 else if i = 2 then plS2 else if i = 3 then plS3 else if i = 4 then plS4 else if i = 5 then plS5 else plS6
theorem plS_ok (i : Int) : okS (plS i) = true := by
 unfold plS
 split
 ·exact plS0_ok
 split
 ·exact plS1_ok
 split
 ·exact plS2_ok
 split
 ·exact plS3_ok
 split
 ·exact plS4_ok
 split
 ·exact plS5_ok
 exact plS6_ok
def stgI (c : Cur) : Stg × Cur := if (c.pick 9).1 = 0 then (grS0, (c.pick 9).2) else if (c.pick 9).1 = 1 then (grS1, (c.pick 9).2) else if (c.pick 9).1 = 2 then (grS2, (c.pick 9).2) else if (c.pick 9).1 = 3 then (grS3, (c.pick 9).2) else if (c.pick 9).1 = 4 then (grS4, (c.pick 9).2) else (plS ((c.pick 9).2.pick 7).1, ((c.pick 9).2.pick 7).2)
theorem stgI_in (c : Cur) : okS (stgI c).1 = true ∧ (stgI c).2.pos ≤ c.pos + 4 ∧ (stgI c).2.code = c.code := by
 have h1 := c.pick_pos 9
 have h2 := (c.pick 9).2.pick_pos 7
 have k1 := c.pick_code 9
 have k2 := (c.pick 9).2.pick_code 7
 unfold stgI
 split
 ·exact ⟨grS0_ok, by dsimp only; omega, k1⟩
 split
 ·exact ⟨grS1_ok, by dsimp only; omega, k1⟩
 split
 ·exact ⟨grS2_ok, by dsimp only; omega, k1⟩
 split
 ·exact ⟨grS3_ok, by dsimp only; omega, k1⟩
 split
 ·exact ⟨grS4_ok, by dsimp only; omega, k1⟩
 exact ⟨plS_ok _, by dsimp only; omega, k2.trans k1⟩
theorem plS0_spec : ASpec Tryz.prog 70 [aS (bstr [97, 98]), aS (bstr [99]), aS (bstr []), aS (bstr [97, 43, 62, 99, 43, 32, 98, 43, 62, 99, 43, 32, 99, 43, 62, 97, 45, 32, 99, 43, 62, 98, 45, 32, 97, 45, 62, 99, 45, 32, 98, 45, 62, 99, 45, 32, 42, 99, 45, 62, 97, 43, 32, 42, 99, 45, 62, 98, 43])] [] (Fun1 (stgO plS0 0 1 2) (stgChs plS0 0 1 2)) := l2Build_spec _ _ _ _ (by decide) (by decide) (by decide) (by decide) (by decide +kernel)
theorem plS1_spec : ASpec Tryz.prog 70 [aS (bstr [97]), aS (bstr [98]), aS (bstr []), aS (bstr [97, 43, 62, 98, 43, 32, 98, 43, 62, 97, 45, 32, 97, 45, 62, 98, 45, 32, 42, 98, 45, 62, 97, 43])] [] (Fun1 (stgO plS1 0 1 2) (stgChs plS1 0 1 2)) := l2Build_spec _ _ _ _ (by decide) (by decide) (by decide) (by decide) (by decide +kernel)
theorem plS2_spec : ASpec Tryz.prog 70 [aS (bstr [114]), aS (bstr [120, 121]), aS (bstr []), aS (bstr [114, 43, 62, 120, 43, 32, 114, 43, 62, 121, 43, 32, 120, 43, 62, 114, 45, 32, 121, 43, 62, 114, 45, 32, 114, 45, 62, 120, 45, 32, 114, 45, 62, 121, 45, 32, 42, 120, 45, 62, 114, 43, 32, 42, 121, 45, 62, 114, 43])] [] (Fun1 (stgO plS2 0 1 2) (stgChs plS2 0 1 2)) := l2Build_spec _ _ _ _ (by decide) (by decide) (by decide) (by decide) (by decide +kernel)
theorem plS3_spec : ASpec Tryz.prog 70 [aS (bstr [97, 100]), aS (bstr [98, 99]), aS (bstr []), aS (bstr [97, 43, 62, 98, 43, 32, 98, 43, 62, 100, 43, 32, 100, 43, 62, 99, 43, 32, 99, 43, 62, 97, 45, 32, 97, 45, 62, 98, 45, 32, 98, 45, 62, 100, 45, 32, 100, 45, 62, 99, 45, 32, 42, 99, 45, 62, 97, 43])] [] (Fun1 (stgO plS3 0 1 2) (stgChs plS3 0 1 2)) := l2Build_spec _ _ _ _ (by decide) (by decide) (by decide) (by decide) (by decide +kernel)
theorem plS4_spec : ASpec Tryz.prog 70 [aS (bstr [97]), aS (bstr [98]), aS (bstr [120]), aS (bstr [97, 43, 62, 120, 43, 32, 120, 43, 62, 98, 43, 32, 98, 43, 62, 97, 45, 32, 97, 45, 62, 120, 45, 32, 120, 45, 62, 98, 45, 32, 42, 98, 45, 62, 97, 43])] [] (Fun1 (stgO plS4 0 1 2) (stgChs plS4 0 1 2)) := l2Build_spec _ _ _ _ (by decide) (by decide) (by decide) (by decide) (by decide +kernel)
theorem plS5_spec : ASpec Tryz.prog 70 [aS (bstr [97, 98]), aS (bstr [99]), aS (bstr []), aS (bstr [42, 95, 112, 62, 97, 43, 32, 95, 112, 62, 98, 43, 32, 97, 43, 62, 99, 43, 47, 49, 32, 99, 43, 47, 49, 62, 97, 45, 32, 97, 45, 62, 99, 45, 47, 49, 32, 99, 45, 47, 49, 62, 95, 112, 32, 98, 43, 62, 99, 43, 47, 50, 32, 99, 43, 47, 50, 62, 98, 45, 32, 98, 45, 62, 99, 45, 47, 50, 32, 99, 45, 47, 50, 62, 95, 112])] [] (Fun1 (stgO plS5 0 1 2) (stgChs plS5 0 1 2)) := l2Build_spec _ _ _ _ (by decide) (by decide) (by decide) (by decide) (by decide +kernel)
theorem plS6_spec : ASpec Tryz.prog 70 [aS (bstr [97]), aS (bstr [98]), aS (bstr []), aS (bstr [97, 43, 62, 126, 32, 126, 62, 98, 43, 32, 98, 43, 62, 97, 45, 32, 97, 45, 62, 98, 45, 32, 42, 98, 45, 62, 97, 43])] [] (Fun1 (stgO plS6 0 1 2) (stgChs plS6 0 1 2)) := l2Build_spec _ _ _ _ (by decide) (by decide) (by decide) (by decide) (by decide +kernel)
theorem grS0_spec : ASpec Tryz.prog 70 [aS (bstr [114]), aS (bstr [120, 121]), aS (bstr []), aS (bstr [42, 121, 45, 62, 114, 43, 32, 114, 43, 62, 120, 43, 32, 120, 43, 62, 120, 45, 32, 120, 45, 62, 121, 43, 32, 121, 43, 62, 114, 45, 32, 114, 45, 62, 121, 45])] [] (Fun1 (stgO grS0 0 1 2) (stgChs grS0 0 1 2)) := l2Build_spec _ _ _ _ (by decide) (by decide) (by decide) (by decide) (by decide +kernel)
theorem grS1_spec : ASpec Tryz.prog 70 [aS (bstr [97]), aS (bstr [98, 99]), aS (bstr []), aS (bstr [42, 97, 45, 62, 97, 43, 32, 97, 43, 62, 95, 112, 32, 95, 112, 62, 98, 43, 32, 95, 112, 62, 99, 43, 32, 98, 43, 62, 98, 45, 32, 99, 43, 62, 99, 45, 32, 98, 45, 62, 95, 113, 32, 99, 45, 62, 95, 113, 32, 95, 113, 62, 97, 45])] [] (Fun1 (stgO grS1 0 1 2) (stgChs grS1 0 1 2)) := l2Build_spec _ _ _ _ (by decide) (by decide) (by decide) (by decide) (by decide +kernel)
theorem grS2_spec : ASpec Tryz.prog 70 [aS (bstr [97]), aS (bstr [98]), aS (bstr []), aS (bstr [97, 43, 47, 49, 62, 98, 43, 32, 98, 43, 62, 97, 43, 47, 50, 32, 97, 43, 47, 50, 62, 98, 45, 32, 42, 98, 45, 62, 97, 43, 47, 49])] [] (Fun1 (stgO grS2 0 1 2) (stgChs grS2 0 1 2)) := l2Build_spec _ _ _ _ (by decide) (by decide) (by decide) (by decide) (by decide +kernel)
theorem grS4_spec : ASpec Tryz.prog 70 [aS (bstr [97]), aS (bstr [98]), aS (bstr []), aS (bstr [42, 95, 112, 62, 97, 43, 32, 97, 43, 62, 98, 43, 32, 98, 43, 62, 95, 113])] [] (Fun1 (stgO grS4 0 1 2) (stgChs grS4 0 1 2)) := l2Build_spec _ _ _ _ (by decide) (by decide) (by decide) (by decide) (by decide +kernel)
theorem twS0_spec : ASpec Tryz.prog 70 [aS (bstr [112]), aS (bstr [113]), aS (bstr []), aS (bstr [112, 43, 62, 113, 43, 32, 113, 43, 62, 112, 45, 32, 112, 45, 62, 113, 45, 32, 42, 113, 45, 62, 112, 43])] [] (Fun1 (stgO twS0 0 1 2) (stgChs twS0 0 1 2)) := l2Build_spec _ _ _ _ (by decide) (by decide) (by decide) (by decide) (by decide +kernel)
theorem twS1_spec : ASpec Tryz.prog 70 [aS (bstr [97]), aS (bstr [98]), aS (bstr []), aS (bstr [97, 43, 62, 98, 43, 32, 98, 43, 62, 97, 45, 32, 97, 45, 62, 98, 45, 32, 42, 98, 45, 62, 97, 43])] [] (Fun1 (stgO twS1 0 1 2) (stgChs twS1 0 1 2)) := l2Build_spec _ _ _ _ (by decide) (by decide) (by decide) (by decide) (by decide +kernel)
set_option maxHeartbeats 4000000 in
theorem l2Plain_spec (c : Cur) (hp : c.pos ≤ 100000000) : ASpec Tryz.prog 72 [.ptr 0 0] [(0, curC c)] (Fun1 (stgO (plS (c.pick 7).1) 1 2 3) ((0, curC (c.pick 7).2) :: stgChs (plS (c.pick 7).1) 1 2 3)) := by
 have hK := pick_spec c 7 (by decide) (by omega)
 obtain ⟨p, hpp⟩ : ∃ p, p = c.pick 7 := ⟨_, rfl⟩
 rw [← hpp] at hK ⊢
 have hS : plS p.1 = if p.1 = 0 then plS0 else if p.1 = 1 then plS1 else if p.1 = 2 then plS2 else if p.1 = 3 then plS3 else if p.1 = 4 then plS4 else if p.1 = 5 then plS5 else plS6 := rfl
 obtain ⟨s, hs⟩ : ∃ s, s = plS p.1 := ⟨_, rfl⟩
 rw [← hs] at hS ⊢
 refine ASpec.of Tryz.func72 rfl rfl fun C hC => ?_
 refine AC.seq ?_
 refine AC.region ?_
 refine AL.q (by exact h_alloc rfl) rfl ?_
 refine AL.nil ?_
 refine th_n ?_
 refine AC.seq ?_
 refine AC.seq ?_
 refine AC.region ?_
 refine AL.p (by exact mv3 rfl) rfl ?_
 refine AL.q (by exact h_fun (cs := [0]) en_pick rfl rfl (by repeat (first | exact rfl | exact DLead.same | refine ⟨_, _, rfl, ?_, ?_⟩ | refine ⟨_, rfl, ?_⟩)) (by repeat (first | exact True.intro | refine And.intro ?_ ?_ | exact DLead.same | exact rfl | refine ⟨_, _, rfl, rfl, ?_⟩ | refine ⟨_, rfl, ?_⟩ | refine ⟨_, _, rfl, ?_, ?_⟩)) hK rfl rfl rfl rfl) rfl ?_
 refine AL.nil ?_
 refine th_n ?_
 refine AC.block ?_
 refine AC.seq ?_
 refine AC.region ?_
 refine AL.p (by exact g_cmp rfl rfl rfl) rfl ?_
 refine AL.p (by exact as1 rfl) rfl ?_
 refine AL.nil ?_
 refine th_n ?_
 refine AC.condD rfl (fun h0 => ?_) (fun h0 => ?_)
 ·refine AC.seq ?_
  refine AC.region ?_
  refine AL.q (by exact h_fun (cs := []) en_l2Build rfl rfl (by repeat (first | exact rfl | exact DLead.same | refine ⟨_, _, rfl, ?_, ?_⟩)) (by repeat (exact True.intro)) plS0_spec rfl rfl rfl rfl) rfl ?_
  refine AL.q (by exact h_store rfl rfl rfl rfl rfl rfl) rfl ?_
  refine AL.nil ?_
  refine th_n ?_
  refine AC.ret ?_
  refine ib_r ?_
  refine th_r ?_
  refine bq_r ?_
  have e : s = plS0 := by rw [hS, if_pos h0]
  exact retN [(1, _), (2, _), (3, _)] rfl (by rw [e]; repeat (first | exact rfl | exact DLead.same | refine ⟨_, _, rfl, ?_, ?_⟩ | refine ⟨_, rfl, ?_⟩)) (by rw [e]; repeat (first | exact True.intro | refine And.intro ?_ ?_ | exact DLead.same | exact rfl | refine ⟨_, _, rfl, rfl, ?_⟩ | refine ⟨_, rfl, ?_⟩ | refine ⟨_, _, rfl, ?_, ?_⟩)) rfl rfl
 ·refine AC.seq ?_
  refine AC.region ?_
  refine AL.p (by exact g_cmp rfl rfl rfl) rfl ?_
  refine AL.p (by exact as1 rfl) rfl ?_
  refine AL.nil ?_
  refine th_n ?_
  refine AC.condD rfl (fun h1 => ?_) (fun h1 => ?_)
  ·refine AC.seq ?_
   refine AC.region ?_
   refine AL.q (by exact h_fun (cs := []) en_l2Build rfl rfl (by repeat (first | exact rfl | exact DLead.same | refine ⟨_, _, rfl, ?_, ?_⟩)) (by repeat (exact True.intro)) plS1_spec rfl rfl rfl rfl) rfl ?_
   refine AL.q (by exact h_store rfl rfl rfl rfl rfl rfl) rfl ?_
   refine AL.nil ?_
   refine th_n ?_
   refine AC.ret ?_
   refine ib_r ?_
   refine th_r ?_
   refine bq_r ?_
   have e : s = plS1 := by rw [hS, if_neg h0, if_pos h1]
   exact retN [(1, _), (2, _), (3, _)] rfl (by rw [e]; repeat (first | exact rfl | exact DLead.same | refine ⟨_, _, rfl, ?_, ?_⟩ | refine ⟨_, rfl, ?_⟩)) (by rw [e]; repeat (first | exact True.intro | refine And.intro ?_ ?_ | exact DLead.same | exact rfl | refine ⟨_, _, rfl, rfl, ?_⟩ | refine ⟨_, rfl, ?_⟩ | refine ⟨_, _, rfl, ?_, ?_⟩)) rfl rfl
  ·refine AC.seq ?_
   refine AC.region ?_
   refine AL.p (by exact g_cmp rfl rfl rfl) rfl ?_
   refine AL.p (by exact as1 rfl) rfl ?_
   refine AL.nil ?_
   refine th_n ?_
   refine AC.condD rfl (fun h2 => ?_) (fun h2 => ?_)
   ·refine AC.seq ?_
    refine AC.region ?_
    refine AL.q (by exact h_fun (cs := []) en_l2Build rfl rfl (by repeat (first | exact rfl | exact DLead.same | refine ⟨_, _, rfl, ?_, ?_⟩)) (by repeat (exact True.intro)) plS2_spec rfl rfl rfl rfl) rfl ?_
    refine AL.q (by exact h_store rfl rfl rfl rfl rfl rfl) rfl ?_
    refine AL.nil ?_
    refine th_n ?_
    refine AC.ret ?_
    refine ib_r ?_
    refine th_r ?_
    refine bq_r ?_
    have e : s = plS2 := by rw [hS, if_neg h0, if_neg h1, if_pos h2]
    exact retN [(1, _), (2, _), (3, _)] rfl (by rw [e]; repeat (first | exact rfl | exact DLead.same | refine ⟨_, _, rfl, ?_, ?_⟩ | refine ⟨_, rfl, ?_⟩)) (by rw [e]; repeat (first | exact True.intro | refine And.intro ?_ ?_ | exact DLead.same | exact rfl | refine ⟨_, _, rfl, rfl, ?_⟩ | refine ⟨_, rfl, ?_⟩ | refine ⟨_, _, rfl, ?_, ?_⟩)) rfl rfl
   ·refine AC.seq ?_
    refine AC.region ?_
    refine AL.p (by exact g_cmp rfl rfl rfl) rfl ?_
    refine AL.p (by exact as1 rfl) rfl ?_
    refine AL.nil ?_
    refine th_n ?_
    refine AC.condD rfl (fun h3 => ?_) (fun h3 => ?_)
    ·refine AC.seq ?_
     refine AC.region ?_
     refine AL.q (by exact h_fun (cs := []) en_l2Build rfl rfl (by repeat (first | exact rfl | exact DLead.same | refine ⟨_, _, rfl, ?_, ?_⟩)) (by repeat (exact True.intro)) plS3_spec rfl rfl rfl rfl) rfl ?_
     refine AL.q (by exact h_store rfl rfl rfl rfl rfl rfl) rfl ?_
     refine AL.nil ?_
     refine th_n ?_
     refine AC.ret ?_
     refine ib_r ?_
     refine th_r ?_
     refine bq_r ?_
     have e : s = plS3 := by rw [hS, if_neg h0, if_neg h1, if_neg h2, if_pos h3]
     exact retN [(1, _), (2, _), (3, _)] rfl (by rw [e]; repeat (first | exact rfl | exact DLead.same | refine ⟨_, _, rfl, ?_, ?_⟩ | refine ⟨_, rfl, ?_⟩)) (by rw [e]; repeat (first | exact True.intro | refine And.intro ?_ ?_ | exact DLead.same | exact rfl | refine ⟨_, _, rfl, rfl, ?_⟩ | refine ⟨_, rfl, ?_⟩ | refine ⟨_, _, rfl, ?_, ?_⟩)) rfl rfl
    ·refine AC.seq ?_
     refine AC.region ?_
     refine AL.p (by exact g_cmp rfl rfl rfl) rfl ?_
     refine AL.p (by exact as1 rfl) rfl ?_
     refine AL.nil ?_
     refine th_n ?_
     refine AC.condD rfl (fun h4 => ?_) (fun h4 => ?_)
     ·refine AC.seq ?_
      refine AC.region ?_
      refine AL.q (by exact h_fun (cs := []) en_l2Build rfl rfl (by repeat (first | exact rfl | exact DLead.same | refine ⟨_, _, rfl, ?_, ?_⟩)) (by repeat (exact True.intro)) plS4_spec rfl rfl rfl rfl) rfl ?_
      refine AL.q (by exact h_store rfl rfl rfl rfl rfl rfl) rfl ?_
      refine AL.nil ?_
      refine th_n ?_
      refine AC.ret ?_
      refine ib_r ?_
      refine th_r ?_
      refine bq_r ?_
      have e : s = plS4 := by rw [hS, if_neg h0, if_neg h1, if_neg h2, if_neg h3, if_pos h4]
      exact retN [(1, _), (2, _), (3, _)] rfl (by rw [e]; repeat (first | exact rfl | exact DLead.same | refine ⟨_, _, rfl, ?_, ?_⟩ | refine ⟨_, rfl, ?_⟩)) (by rw [e]; repeat (first | exact True.intro | refine And.intro ?_ ?_ | exact DLead.same | exact rfl | refine ⟨_, _, rfl, rfl, ?_⟩ | refine ⟨_, rfl, ?_⟩ | refine ⟨_, _, rfl, ?_, ?_⟩)) rfl rfl
     ·refine AC.seq ?_
      refine AC.region ?_
      refine AL.p (by exact g_cmp rfl rfl rfl) rfl ?_
      refine AL.p (by exact as1 rfl) rfl ?_
      refine AL.nil ?_
      refine th_n ?_
      refine AC.condD rfl (fun h5 => ?_) (fun h5 => ?_)
      ·refine AC.seq ?_
       refine AC.region ?_
       refine AL.q (by exact h_fun (cs := []) en_l2Build rfl rfl (by repeat (first | exact rfl | exact DLead.same | refine ⟨_, _, rfl, ?_, ?_⟩)) (by repeat (exact True.intro)) plS5_spec rfl rfl rfl rfl) rfl ?_
       refine AL.q (by exact h_store rfl rfl rfl rfl rfl rfl) rfl ?_
       refine AL.nil ?_
       refine th_n ?_
       refine AC.ret ?_
       refine ib_r ?_
       refine th_r ?_
       refine bq_r ?_
       have e : s = plS5 := by rw [hS, if_neg h0, if_neg h1, if_neg h2, if_neg h3, if_neg h4, if_pos h5]
       exact retN [(1, _), (2, _), (3, _)] rfl (by rw [e]; repeat (first | exact rfl | exact DLead.same | refine ⟨_, _, rfl, ?_, ?_⟩ | refine ⟨_, rfl, ?_⟩)) (by rw [e]; repeat (first | exact True.intro | refine And.intro ?_ ?_ | exact DLead.same | exact rfl | refine ⟨_, _, rfl, rfl, ?_⟩ | refine ⟨_, rfl, ?_⟩ | refine ⟨_, _, rfl, ?_, ?_⟩)) rfl rfl
      ·refine AC.skip ?_
       refine ib_n ?_
       refine th_n ?_
       refine AC.seq ?_
       refine AC.region ?_
       refine AL.q (by exact h_fun (cs := []) en_l2Build rfl rfl (by repeat (first | exact rfl | exact DLead.same | refine ⟨_, _, rfl, ?_, ?_⟩)) (by repeat (exact True.intro)) plS6_spec rfl rfl rfl rfl) rfl ?_
       refine AL.q (by exact h_store rfl rfl rfl rfl rfl rfl) rfl ?_
       refine AL.nil ?_
       refine th_n ?_
       refine AC.ret ?_
       refine bq_r ?_
       have e : s = plS6 := by rw [hS, if_neg h0, if_neg h1, if_neg h2, if_neg h3, if_neg h4, if_neg h5]
       exact retN [(1, _), (2, _), (3, _)] rfl (by rw [e]; repeat (first | exact rfl | exact DLead.same | refine ⟨_, _, rfl, ?_, ?_⟩ | refine ⟨_, rfl, ?_⟩)) (by rw [e]; repeat (first | exact True.intro | refine And.intro ?_ ?_ | exact DLead.same | exact rfl | refine ⟨_, _, rfl, rfl, ?_⟩ | refine ⟨_, rfl, ?_⟩ | refine ⟨_, _, rfl, ?_, ?_⟩)) rfl rfl
theorem en_l2Plain : Enters Tryz.prog 72 := enters_of Tryz.func72 rfl rfl
theorem twS_L : NetL (unionR twS0.net twS1.net).1 := ((okS_S twS_net).1.B.n).L
set_option maxHeartbeats 4000000 in
theorem stg_spec (c : Cur) (hp : c.pos ≤ 10000000) : ASpec Tryz.prog 44 [.ptr 0 0] [(0, curC c)] (Fun1 (stgQ (stgI c).1 1 2) [(0, curC (stgI c).2), (1, .arr 101 2 (sigsL (stgI c).1.sigs)), (2, .arr 97 2 (labsL (stgI c).1.labs))]) := by
 have hK := pick_spec c 9 (by decide) (by omega)
 have hpos := c.pick_pos 9
 have hS : stgI c = if (c.pick 9).1 = 0 then (grS0, (c.pick 9).2) else if (c.pick 9).1 = 1 then (grS1, (c.pick 9).2) else if (c.pick 9).1 = 2 then (grS2, (c.pick 9).2) else if (c.pick 9).1 = 3 then (grS3, (c.pick 9).2) else if (c.pick 9).1 = 4 then (grS4, (c.pick 9).2) else (plS ((c.pick 9).2.pick 7).1, ((c.pick 9).2.pick 7).2) := rfl
 obtain ⟨p, hpp⟩ : ∃ p, p = c.pick 9 := ⟨_, rfl⟩
 rw [← hpp] at hK hS hpos
 have hP := l2Plain_spec p.2 (by omega)
 obtain ⟨pp, hpq⟩ : ∃ pp, pp = plS (p.2.pick 7).1 := ⟨_, rfl⟩
 rw [← hpq] at hP hS
 obtain ⟨s, hs⟩ : ∃ s, s = stgI c := ⟨_, rfl⟩
 rw [← hs] at hS ⊢
 have hU := sUnionSTGs_own twS0 twS1 (okS_S twS0_ok).1.B (okS_S twS1_ok).1.B twS_L twS_ok
 rw [show unionT twS0 twS1 = grS3 from rfl] at hU
 refine ASpec.of Tryz.func44 rfl rfl fun C hC => ?_
 refine AC.seq ?_
 refine AC.region ?_
 refine AL.q (by exact h_alloc rfl) rfl ?_
 refine AL.nil ?_
 refine th_n ?_
 refine AC.seq ?_
 refine AC.seq ?_
 refine AC.region ?_
 refine AL.p (by exact mv3 rfl) rfl ?_
 refine AL.q (by exact h_fun (cs := [0]) en_pick rfl rfl (by repeat (first | exact rfl | exact DLead.same | refine ⟨_, _, rfl, ?_, ?_⟩ | refine ⟨_, rfl, ?_⟩)) (by repeat (first | exact True.intro | refine And.intro ?_ ?_ | exact DLead.same | exact rfl | refine ⟨_, _, rfl, rfl, ?_⟩ | refine ⟨_, rfl, ?_⟩ | refine ⟨_, _, rfl, ?_, ?_⟩)) hK rfl rfl rfl rfl) rfl ?_
 refine AL.nil ?_
 refine th_n ?_
 refine AC.block ?_
 refine AC.seq ?_
 refine AC.region ?_
 refine AL.p (by exact g_cmp rfl rfl rfl) rfl ?_
 refine AL.p (by exact as1 rfl) rfl ?_
 refine AL.nil ?_
 refine th_n ?_
 refine AC.condD rfl (fun h0 => ?_) (fun h0 => ?_)
 ·refine AC.seq ?_
  refine AC.region ?_
  refine AL.q (by exact h_fun (cs := []) en_l2Build rfl rfl (by repeat (first | exact rfl | exact DLead.same | refine ⟨_, _, rfl, ?_, ?_⟩)) (by repeat (exact True.intro)) grS0_spec rfl rfl rfl rfl) rfl ?_
  refine AL.weak (Weak.freezeA (i := 9) (k := 1) rfl rfl rfl (ownl _ _) (ownt _ _)) ?_
  refine AL.q (by exact h_store rfl rfl rfl rfl rfl rfl) rfl ?_
  refine AL.nil ?_
  refine th_n ?_
  refine AC.ret ?_
  refine ib_r ?_
  refine th_r ?_
  refine bq_r ?_
  have e : s = (grS0, p.2) := by rw [hS, if_pos h0]
  exact retN [(1, _), (2, _)] rfl (by rw [e]; repeat (first | exact rfl | exact DLead.same | refine ⟨_, _, rfl, ?_, ?_⟩ | refine ⟨_, rfl, ?_⟩)) (by rw [e]; repeat (first | exact True.intro | refine And.intro ?_ ?_ | exact DLead.same | exact rfl | refine ⟨_, _, rfl, rfl, ?_⟩ | refine ⟨_, rfl, ?_⟩ | refine ⟨_, _, rfl, ?_, ?_⟩)) rfl rfl
 ·refine AC.seq ?_
  refine AC.region ?_
  refine AL.p (by exact g_cmp rfl rfl rfl) rfl ?_
  refine AL.p (by exact as1 rfl) rfl ?_
  refine AL.nil ?_
  refine th_n ?_
  refine AC.condD rfl (fun h1 => ?_) (fun h1 => ?_)
  ·refine AC.seq ?_
   refine AC.region ?_
   refine AL.q (by exact h_fun (cs := []) en_l2Build rfl rfl (by repeat (first | exact rfl | exact DLead.same | refine ⟨_, _, rfl, ?_, ?_⟩)) (by repeat (exact True.intro)) grS1_spec rfl rfl rfl rfl) rfl ?_
   refine AL.weak (Weak.freezeA (i := 12) (k := 1) rfl rfl rfl (ownl _ _) (ownt _ _)) ?_
   refine AL.q (by exact h_store rfl rfl rfl rfl rfl rfl) rfl ?_
   refine AL.nil ?_
   refine th_n ?_
   refine AC.ret ?_
   refine ib_r ?_
   refine th_r ?_
   refine bq_r ?_
   have e : s = (grS1, p.2) := by rw [hS, if_neg h0, if_pos h1]
   exact retN [(1, _), (2, _)] rfl (by rw [e]; repeat (first | exact rfl | exact DLead.same | refine ⟨_, _, rfl, ?_, ?_⟩ | refine ⟨_, rfl, ?_⟩)) (by rw [e]; repeat (first | exact True.intro | refine And.intro ?_ ?_ | exact DLead.same | exact rfl | refine ⟨_, _, rfl, rfl, ?_⟩ | refine ⟨_, rfl, ?_⟩ | refine ⟨_, _, rfl, ?_, ?_⟩)) rfl rfl
  ·refine AC.seq ?_
   refine AC.region ?_
   refine AL.p (by exact g_cmp rfl rfl rfl) rfl ?_
   refine AL.p (by exact as1 rfl) rfl ?_
   refine AL.nil ?_
   refine th_n ?_
   refine AC.condD rfl (fun h2 => ?_) (fun h2 => ?_)
   ·refine AC.seq ?_
    refine AC.region ?_
    refine AL.q (by exact h_fun (cs := []) en_l2Build rfl rfl (by repeat (first | exact rfl | exact DLead.same | refine ⟨_, _, rfl, ?_, ?_⟩)) (by repeat (exact True.intro)) grS2_spec rfl rfl rfl rfl) rfl ?_
    refine AL.weak (Weak.freezeA (i := 15) (k := 1) rfl rfl rfl (ownl _ _) (ownt _ _)) ?_
    refine AL.q (by exact h_store rfl rfl rfl rfl rfl rfl) rfl ?_
    refine AL.nil ?_
    refine th_n ?_
    refine AC.ret ?_
    refine ib_r ?_
    refine th_r ?_
    refine bq_r ?_
    have e : s = (grS2, p.2) := by rw [hS, if_neg h0, if_neg h1, if_pos h2]
    exact retN [(1, _), (2, _)] rfl (by rw [e]; repeat (first | exact rfl | exact DLead.same | refine ⟨_, _, rfl, ?_, ?_⟩ | refine ⟨_, rfl, ?_⟩)) (by rw [e]; repeat (first | exact True.intro | refine And.intro ?_ ?_ | exact DLead.same | exact rfl | refine ⟨_, _, rfl, rfl, ?_⟩ | refine ⟨_, rfl, ?_⟩ | refine ⟨_, _, rfl, ?_, ?_⟩)) rfl rfl
   ·refine AC.seq ?_
    refine AC.region ?_
    refine AL.p (by exact g_cmp rfl rfl rfl) rfl ?_
    refine AL.p (by exact as1 rfl) rfl ?_
    refine AL.nil ?_
    refine th_n ?_
    refine AC.condD rfl (fun h3 => ?_) (fun h3 => ?_)
    ·refine AC.seq ?_
     refine AC.region ?_
     refine AL.q (by exact h_fun (cs := []) en_l2Build rfl rfl (by repeat (first | exact rfl | exact DLead.same | refine ⟨_, _, rfl, ?_, ?_⟩)) (by repeat (exact True.intro)) twS0_spec rfl rfl rfl rfl) rfl ?_
     refine AL.weak (Weak.freezeA3 19 rfl rfl rfl rfl rfl rfl rfl (ownl _ _) (ownl _ _) (ownl _ _) (ownt _ _) (ownt _ _) (ownt _ _)) ?_
     refine AL.q (by exact h_fun (cs := []) en_l2Build rfl rfl (by repeat (first | exact rfl | exact DLead.same | refine ⟨_, _, rfl, ?_, ?_⟩)) (by repeat (exact True.intro)) twS1_spec rfl rfl rfl rfl) rfl ?_
     refine AL.weak (Weak.freezeA3 20 rfl rfl rfl rfl rfl rfl rfl (ownl _ _) (ownl _ _) (ownl _ _) (ownt _ _) (ownt _ _) (ownt _ _)) ?_
     refine AL.q (by exact h_fun (cs := []) en_sUnionSTGs rfl rfl (by repeat (first | exact rfl | exact DLead.same | refine ⟨_, _, rfl, ?_, ?_⟩ | refine ⟨_, rfl, ?_⟩)) (by repeat (exact True.intro)) hU rfl rfl rfl rfl) rfl ?_
     refine AL.p (by exact mv5 rfl) rfl ?_
     refine AL.p (by exact g_extract (r := .agg _) rfl rfl) rfl ?_
     refine AL.p (by exact g_extract (r := .d _) rfl rfl) rfl ?_
     refine AL.q (by exact h_alloc rfl) rfl ?_
     refine AL.q (by exact h_store rfl rfl rfl rfl rfl rfl) rfl ?_
     refine AL.p (by exact as1 rfl) rfl ?_
     refine AL.nil ?_
     refine th_n ?_
     refine AC.seq ?_
     refine AC.region ?_
     refine AL.p (by exact mv1 rfl) rfl ?_
     refine AL.nil ?_
     refine th_n ?_
     refine AC.condT rfl ?_
     refine AC.seq ?_
     refine AC.region ?_
     refine AL.p (by exact g_load_ptrN rfl rfl rfl rfl rfl) rfl ?_
     refine AL.q (by exact h_store rfl rfl rfl rfl rfl rfl) rfl ?_
     refine AL.nil ?_
     refine th_n ?_
     refine AC.ret ?_
     refine ib_r ?_
     refine th_r ?_
     refine bq_r ?_
     have e : s = (grS3, p.2) := by rw [hS, if_neg h0, if_neg h1, if_neg h2, if_pos h3]
     exact retN [(1, _), (2, _)] rfl (by rw [e]; repeat (first | exact rfl | exact DLead.same | refine ⟨_, _, rfl, ?_, ?_⟩ | refine ⟨_, rfl, ?_⟩)) (by rw [e]; repeat (first | exact True.intro | refine And.intro ?_ ?_ | exact DLead.same | exact rfl | refine ⟨_, _, rfl, rfl, ?_⟩ | refine ⟨_, rfl, ?_⟩ | refine ⟨_, _, rfl, ?_, ?_⟩)) rfl rfl
    ·refine AC.seq ?_
     refine AC.region ?_
     refine AL.p (by exact g_cmp rfl rfl rfl) rfl ?_
     refine AL.p (by exact as1 rfl) rfl ?_
     refine AL.nil ?_
     refine th_n ?_
     refine AC.condD rfl (fun h4 => ?_) (fun h4 => ?_)
     ·refine AC.seq ?_
      refine AC.region ?_
      refine AL.q (by exact h_fun (cs := []) en_l2Build rfl rfl (by repeat (first | exact rfl | exact DLead.same | refine ⟨_, _, rfl, ?_, ?_⟩)) (by repeat (exact True.intro)) grS4_spec rfl rfl rfl rfl) rfl ?_
      refine AL.weak (Weak.freezeA (i := 28) (k := 1) rfl rfl rfl (ownl _ _) (ownt _ _)) ?_
      refine AL.q (by exact h_store rfl rfl rfl rfl rfl rfl) rfl ?_
      refine AL.nil ?_
      refine th_n ?_
      refine AC.ret ?_
      refine ib_r ?_
      refine th_r ?_
      refine bq_r ?_
      have e : s = (grS4, p.2) := by rw [hS, if_neg h0, if_neg h1, if_neg h2, if_neg h3, if_pos h4]
      exact retN [(1, _), (2, _)] rfl (by rw [e]; repeat (first | exact rfl | exact DLead.same | refine ⟨_, _, rfl, ?_, ?_⟩ | refine ⟨_, rfl, ?_⟩)) (by rw [e]; repeat (first | exact True.intro | refine And.intro ?_ ?_ | exact DLead.same | exact rfl | refine ⟨_, _, rfl, rfl, ?_⟩ | refine ⟨_, rfl, ?_⟩ | refine ⟨_, _, rfl, ?_, ?_⟩)) rfl rfl
     ·refine AC.skip ?_
      refine ib_n ?_
      refine th_n ?_
      refine AC.seq ?_
      refine AC.region ?_
      refine AL.p (by exact mv3 rfl) rfl ?_
      refine AL.q (by exact h_fun (cs := [0]) en_l2Plain rfl rfl (by repeat (first | exact rfl | refine ⟨_, _, rfl, ?_, ?_⟩ | refine ⟨_, rfl, ?_⟩)) (by repeat (first | exact True.intro | refine And.intro ?_ ?_ | exact DLead.same | exact rfl | refine ⟨_, _, rfl, rfl, ?_⟩ | refine ⟨_, rfl, ?_⟩ | refine ⟨_, _, rfl, ?_, ?_⟩)) hP rfl rfl rfl rfl) rfl ?_
      refine AL.weak (Weak.freezeA (i := 30) (k := 1) rfl rfl rfl (ownl _ _) (ownt _ _)) ?_
      refine AL.q (by exact h_store rfl rfl rfl rfl rfl rfl) rfl ?_
      refine AL.nil ?_
      refine th_n ?_
      refine AC.ret ?_
      refine bq_r ?_
      have e : s = (pp, (p.2.pick 7).2) := by rw [hS, if_neg h0, if_neg h1, if_neg h2, if_neg h3, if_neg h4]
      exact retN [(1, _), (2, _)] rfl (by rw [e]; repeat (first | exact rfl | exact DLead.same | refine ⟨_, _, rfl, ?_, ?_⟩ | refine ⟨_, rfl, ?_⟩)) (by rw [e]; repeat (first | exact True.intro | refine And.intro ?_ ?_ | exact DLead.same | exact rfl | refine ⟨_, _, rfl, rfl, ?_⟩ | refine ⟨_, rfl, ?_⟩ | refine ⟨_, _, rfl, ?_, ?_⟩)) rfl rfl
theorem en_stg : Enters Tryz.prog 44 := enters_of Tryz.func44 rfl rfl
def sig0 (s : Stg) : Sig := s.sigs.getD 0 ⟨[], 0⟩
def lab0 (s : Stg) : Lab := s.labs.getD 0 ⟨0, false⟩
def badSig (i : Int) : Int := if i = 0 then -1 else if i = 1 then -2 else 8
def badName (i : Int) : List UInt8 := if i = 0 then [] else if i = 1 then [65] else if i = 2 then [97, 98, 99, 100, 101, 102, 103] else [49, 97]
def badKind (i : Int) : Int := if i = 0 then 0 else if i = 1 then 4 else 3
def turnS (g : Stg) (p : Int × Cur) : Stg × Cur :=
 if p.1 = 0 then ({ g with start := (p.2.spoilt g.start [48, 49, 50]).1 }, (p.2.spoilt g.start [48, 49, 50]).2)
 else if p.1 = 1 then ({ g with labs := g.labs.set 0 ⟨badSig (p.2.pick 3).1, (lab0 g).up⟩ }, (p.2.pick 3).2)
 else if p.1 = 2 then ({ g with sigs := g.sigs.set 0 ⟨badName (p.2.pick 4).1, (sig0 g).kind⟩ }, (p.2.pick 4).2)
 else if p.1 = 3 then ({ g with sigs := g.sigs.set 0 ⟨(sig0 g).name, badKind (p.2.pick 3).1⟩ }, (p.2.pick 3).2)
 else if p.1 = 4 then ({ g with labs := g.labs.drop 1 }, p.2)
 else (g, p.2)
def anyI (c : Cur) : Stg × Cur := turnS (stgI c).1 ((stgI c).2.pick 30)
theorem bad3 (c : Cur) (f : Int → Int) (a b d : Int) (hf : ∀ i, f i = if i = 0 then a else if i = 1 then b else d) : ([[dI a], [dI b], [dI d]] : List (List DV))[(c.pick 3).1.toNat]? = some [dI (f (c.pick 3).1)] := by
 have hc := c.pick_in 3 (by decide)
 rw [hf]
 have h : (c.pick 3).1 = 0 ∨ (c.pick 3).1 = 1 ∨ (c.pick 3).1 = 2 := by omega
 rcases h with h | h | h <;> rw [h] <;> rfl
theorem badN (c : Cur) : ([[dS (bstr [])], [dS (bstr [65])], [dS (bstr [97, 98, 99, 100, 101, 102, 103])], [dS (bstr [49, 97])]] : List (List DV))[(c.pick 4).1.toNat]? = some [dS (bstr (badName (c.pick 4).1))] := by
 have hc := c.pick_in 4 (by decide)
 unfold badName
 have h : (c.pick 4).1 = 0 ∨ (c.pick 4).1 = 1 ∨ (c.pick 4).1 = 2 ∨ (c.pick 4).1 = 3 := by omega
 rcases h with h | h | h | h <;> rw [h] <;> rfl
theorem mem_set0 {α : Type} {l : List α} {x y : α} (h : y ∈ l.set 0 x) : y ∈ l ∨ y = x := List.mem_or_eq_of_mem_set h
theorem turnS_in (g : Stg) (hg : okS g = true) (p : Int × Cur) : StgS (turnS g p).1 ∧ (turnS g p).2.pos ≤ p.2.pos + 20 ∧ (turnS g p).2.code = p.2.code := by
 obtain ⟨h, h1, h2⟩ := okS_S hg
 have s1 := p.2.spoilt_in g.start [48, 49, 50]
 have p3 := p.2.pick_pos 3
 have p4 := p.2.pick_pos 4
 have k3 := p.2.pick_code 3
 have k4 := p.2.pick_code 4
 have hbs : ∀ i, -10 ≤ badSig i ∧ badSig i ≤ 10 := fun i => by unfold badSig; split; omega; split <;> omega
 have hbn : ∀ i, (badName i).length ≤ 10 := fun i => by unfold badName; split; decide; split; decide; split <;> decide
 have hs0 : (sig0 g).name.length ≤ 10 := by
  unfold sig0
  rw [List.getD_eq_getElem?_getD, List.getElem?_eq_getElem (show 0 < g.sigs.length from h.s0)]
  exact h.sn _ (List.getElem_mem _)
 unfold turnS
 split
 ·exact ⟨⟨h.p, h.tl, h.t, h.s0, h.sl, h.sn, h.ll, h.lb, by dsimp only; omega⟩, by dsimp only; omega, s1.2.2⟩
 split
 ·exact ⟨⟨h.p, h.tl, h.t, h.s0, h.sl, h.sn, by rw [List.length_set]; exact h.ll, (fun x hx => by
   rcases mem_set0 hx with hx | rfl
   ·exact h.lb x hx
   ·exact hbs _), h.st⟩, by dsimp only; omega, k3⟩
 split
 ·exact ⟨⟨h.p, h.tl, h.t, by rw [List.length_set]; exact h.s0, by rw [List.length_set]; exact h.sl, (fun x hx => by
   rcases mem_set0 hx with hx | rfl
   ·exact h.sn x hx
   ·exact hbn _), h.ll, h.lb, h.st⟩, by dsimp only; omega, k4⟩
 split
 ·exact ⟨⟨h.p, h.tl, h.t, by rw [List.length_set]; exact h.s0, by rw [List.length_set]; exact h.sl, (fun x hx => by
   rcases mem_set0 hx with hx | rfl
   ·exact h.sn x hx
   ·exact hs0), h.ll, h.lb, h.st⟩, by dsimp only; omega, k3⟩
 split
 ·exact ⟨⟨h.p, h.tl, h.t, h.s0, h.sl, h.sn, by rw [List.length_drop]; have := h.ll; omega, fun x hx => h.lb x (List.mem_of_mem_drop hx), h.st⟩, by dsimp only; omega, rfl⟩
 ·exact ⟨h, by dsimp only; omega, rfl⟩
theorem anyI_in (c : Cur) : StgS (anyI c).1 ∧ (anyI c).2.pos ≤ c.pos + 30 ∧ (anyI c).2.code = c.code := by
 have h := stgI_in c
 have h1 := (stgI c).2.pick_pos 30
 have h2 := (stgI c).2.pick_code 30
 have h3 := turnS_in (stgI c).1 h.1 ((stgI c).2.pick 30)
 exact ⟨h3.1, by have := h3.2.1; show (turnS _ _).2.pos ≤ _; omega, h3.2.2.trans (h2.trans h.2.2)⟩
abbrev stgR (s : Stg) (j : Nat) : AV := .agg [aI s.net.places, .d (vTs s.net.ts), .own j s.sigs.length, .d (vLabs s.labs), aS (bstr s.start)]
set_option maxHeartbeats 8000000 in
theorem anyStg_spec (c : Cur) (hp : c.pos ≤ 1000000) : ASpec Tryz.prog 19 [.ptr 0 0] [(0, curC c)] (Fun1 (stgR (anyI c).1 1) [(0, curC (anyI c).2), (1, .arr 101 2 (sigsL (anyI c).1.sigs))]) := by
 have hG := stg_spec c (by omega)
 have hgi := stgI_in c
 have hA : anyI c = turnS (stgI c).1 ((stgI c).2.pick 30) := rfl
 obtain ⟨g, hg⟩ : ∃ g, g = stgI c := ⟨_, rfl⟩
 rw [← hg] at hG hgi hA
 have hpk := g.2.pick_pos 30
 have hK := pick_spec g.2 30 (by decide) (by omega)
 obtain ⟨p, hpp⟩ : ∃ p, p = g.2.pick 30 := ⟨_, rfl⟩
 rw [← hpp] at hK hA hpk
 obtain ⟨hs, hl0, hst⟩ := okS_S hgi.1
 have hs0 := hs.s0
 have hsl := hs.sl
 have hll := hs.ll
 have hsp := spoilt_spec p.2 g.1.start [48, 49, 50] (by omega) (by decide) (by decide) (by omega)
 have ha1 := am_spec p.2 [[dI (-1)], [dI (-2)], [dI 8]] (badSig (p.2.pick 3).1) (by decide) (by decide) (by omega) (bad3 p.2 badSig _ _ _ (fun _ => rfl))
 have ha2 := of_spec p.2 [[dS (bstr [])], [dS (bstr [65])], [dS (bstr [97, 98, 99, 100, 101, 102, 103])], [dS (bstr [49, 97])]] (bstr (badName (p.2.pick 4).1)) (by decide) (by decide) (by omega) (badN p.2)
 have ha3 := am_spec p.2 [[dI 0], [dI 4], [dI 3]] (badKind (p.2.pick 3).1) (by decide) (by decide) (by omega) (bad3 p.2 badKind _ _ _ (fun _ => rfl))
 have hT : turnS g.1 p = if p.1 = 0 then ({ g.1 with start := (p.2.spoilt g.1.start [48, 49, 50]).1 }, (p.2.spoilt g.1.start [48, 49, 50]).2)
  else if p.1 = 1 then ({ g.1 with labs := g.1.labs.set 0 ⟨badSig (p.2.pick 3).1, (lab0 g.1).up⟩ }, (p.2.pick 3).2)
  else if p.1 = 2 then ({ g.1 with sigs := g.1.sigs.set 0 ⟨badName (p.2.pick 4).1, (sig0 g.1).kind⟩ }, (p.2.pick 4).2)
  else if p.1 = 3 then ({ g.1 with sigs := g.1.sigs.set 0 ⟨(sig0 g.1).name, badKind (p.2.pick 3).1⟩ }, (p.2.pick 3).2)
  else if p.1 = 4 then ({ g.1 with labs := g.1.labs.drop 1 }, p.2)
  else (g.1, p.2) := rfl
 rw [← hA] at hT
 obtain ⟨A, hAA⟩ : ∃ A, A = anyI c := ⟨_, rfl⟩
 rw [← hAA] at hT ⊢
 obtain ⟨G, cg⟩ := g
 obtain ⟨pi, pc⟩ := p
 dsimp only at *
 obtain ⟨N, sg, lb, st⟩ := G
 dsimp only at *
 obtain ⟨x0, sg', rfl⟩ : ∃ x r, sg = x :: r := by cases sg with | nil => simp at hs0 | cons a b => exact ⟨a, b, rfl⟩
 obtain ⟨y0, lb', rfl⟩ : ∃ x r, lb = x :: r := by cases lb with | nil => simp at hl0 | cons a b => exact ⟨a, b, rfl⟩
 have hls : (x0 :: sg').length = sg'.length + 1 := rfl
 have hlb : (y0 :: lb').length = lb'.length + 1 := rfl
 clear hAA hA hs hgi hg hpp hs0 hl0
 refine ASpec.of Tryz.func19 rfl rfl fun C hC => ?_
 refine AC.seq ?_
 refine AC.region ?_
 refine AL.q (by exact h_alloc rfl) rfl ?_
 refine AL.nil ?_
 refine th_n ?_
 refine AC.seq ?_
 refine AC.region ?_
 refine AL.p (by exact mv3 rfl) rfl ?_
 refine AL.q (by exact h_fun (cs := [0]) en_stg rfl rfl (by repeat (first | exact rfl | refine ⟨_, _, rfl, ?_, ?_⟩ | refine ⟨_, rfl, ?_⟩)) (by repeat (first | exact True.intro | refine And.intro ?_ ?_ | exact DLead.same | exact rfl | refine ⟨_, _, rfl, rfl, ?_⟩ | refine ⟨_, rfl, ?_⟩ | refine ⟨_, _, rfl, ?_, ?_⟩)) hG rfl rfl rfl rfl) rfl ?_
 refine AL.q (by exact h_alloc rfl) rfl ?_
 refine AL.q (by exact h_store rfl rfl rfl rfl rfl rfl) rfl ?_
 refine AL.nil ?_
 refine th_n ?_
 refine AC.cut (fun (x : Stg × Cur) => ⟨49, 300, [(2, .ptr 201 0), (3, .ptr 200 0)], [(0, some (curC x.2)), (200, some (.cells 29 [aI x.1.net.places, .d (vTs x.1.net.ts), .own 101 x.1.sigs.length, .d (vLabs x.1.labs), aS (bstr x.1.start)])), (101, some (.arr 101 2 (sigsL x.1.sigs))), (201, some (.cells 29 zStg))]⟩) (fun x => x = A) ?_ ?_
 ·refine AC.seq ?_
  refine AC.region ?_
  refine AL.p (by exact mv3 rfl) rfl ?_
  refine AL.q (by exact h_fun (cs := [0]) en_pick rfl rfl (by repeat (first | exact rfl | exact DLead.same | refine ⟨_, _, rfl, ?_, ?_⟩ | refine ⟨_, rfl, ?_⟩)) (by repeat (first | exact True.intro | refine And.intro ?_ ?_ | exact DLead.same | exact rfl | refine ⟨_, _, rfl, rfl, ?_⟩ | refine ⟨_, rfl, ?_⟩ | refine ⟨_, _, rfl, ?_, ?_⟩)) hK rfl rfl rfl rfl) rfl ?_
  refine AL.nil ?_
  refine th_n ?_
  refine AC.block ?_
  refine AC.seq ?_
  refine AC.region ?_
  refine AL.p (by exact g_cmp rfl rfl rfl) rfl ?_
  refine AL.p (by exact as1 rfl) rfl ?_
  refine AL.nil ?_
  refine th_n ?_
  refine AC.condD rfl (fun h0 => ?_) (fun h0 => ?_)
  ·refine AC.region ?_
   refine AL.p (by exact mv3 rfl) rfl ?_
   refine AL.p (by exact g_fa_ptr rfl rfl rfl rfl rfl) rfl ?_
   refine AL.p (by exact g_load_ptr rfl rfl rfl rfl rfl) rfl ?_
   refine AL.q (by exact h_fun (cs := [0]) en_spoilt rfl rfl (by repeat (first | exact rfl | exact DLead.same | refine ⟨_, _, rfl, ?_, ?_⟩ | refine ⟨_, rfl, ?_⟩)) (by repeat (first | exact True.intro | refine And.intro ?_ ?_ | exact DLead.same | exact rfl | refine ⟨_, _, rfl, rfl, ?_⟩ | refine ⟨_, rfl, ?_⟩ | refine ⟨_, _, rfl, ?_, ?_⟩)) hsp rfl rfl rfl rfl) rfl ?_
   refine AL.p (by exact g_fa_ptr rfl rfl rfl rfl rfl) rfl ?_
   refine AL.q (by exact h_store rfl rfl rfl rfl rfl rfl) rfl ?_
   refine AL.nil ?_
   refine ib_n ?_
   refine th_n ?_
   (have e := hT.trans (if_pos h0); exact ⟨A, rfl, (Weak.freezeP 3 3 rfl rfl rfl rfl (ownl _ _) (ownt _ _) rfl).trans (Weak.ren _ [(200, _), (101, _), (201, _)] hC rfl (by repeat (first | exact True.intro | refine And.intro ?_ ?_ | exact rfl | refine ⟨_, rfl, ?_⟩)) (by rw [e]; repeat (first | exact True.intro | refine And.intro ?_ ?_ | exact DLead.same | exact rfl | refine ⟨_, _, rfl, rfl, ?_⟩ | refine ⟨_, rfl, ?_⟩ | refine ⟨_, _, rfl, ?_, ?_⟩)) rfl rfl rfl)⟩)
  ·refine AC.seq ?_
   refine AC.region ?_
   refine AL.p (by exact g_cmp rfl rfl rfl) rfl ?_
   refine AL.p (by exact as1 rfl) rfl ?_
   refine AL.nil ?_
   refine th_n ?_
   refine AC.condD rfl (fun h1 => ?_) (fun h1 => ?_)
   ·refine AC.drawn' mixed_ok [[], [0], [], [], [2,3], [0,1,2,3,4], [0,1,2,3,4,5], [0,1,2,3,4,5,6]] (by decide) ?_
    refine DF.op 0 [] 8 rfl rfl rfl (.free rfl (NOp.of (by exact g_fa_ptr rfl rfl rfl rfl rfl))) rfl ?_
    refine DF.op 1 [0] 8 rfl rfl rfl (.free rfl (NOp.of (by exact g_load_ptr rfl rfl rfl rfl rfl))) rfl ?_
    refine DF.op 2 [] 8 rfl rfl rfl (.free rfl (NOp.of (by exact mv3 rfl))) rfl ?_
    refine DF.op 3 [] 8 rfl rfl rfl (.free rfl (by exact h_litF rfl rfl rfl rfl rfl rfl rfl rfl)) rfl ?_
    refine DF.op 4 [2,3] 8 rfl rfl rfl (.free rfl (by exact h_fun (cs := [0]) en_among rfl rfl (by repeat (first | exact rfl | exact DLead.same | refine ⟨_, _, rfl, ?_, ?_⟩ | refine ⟨_, rfl, ?_⟩)) (by repeat (first | exact True.intro | refine And.intro ?_ ?_ | exact DLead.same | exact rfl | refine ⟨_, _, rfl, rfl, ?_⟩ | refine ⟨_, rfl, ?_⟩ | refine ⟨_, _, rfl, ?_, ?_⟩)) ha1 rfl rfl rfl rfl)) rfl ?_
    refine DF.op 5 [0,1,2,3,4] 8 rfl rfl rfl (.free rfl (NOp.of (by exact g_ia_own (i := 0) (l := (y0 :: lb').length) rfl rfl rfl rfl rfl rfl (by omega) rfl))) rfl ?_
    refine DF.op 6 [0,1,2,3,4,5] 8 rfl rfl rfl (.free rfl (NOp.of (by exact g_fa_ptr rfl rfl rfl rfl rfl))) rfl ?_
    refine DF.op 7 [0,1,2,3,4,5,6] 8 rfl rfl rfl (.free rfl (by exact h_store_arr (i := 0) (j := 0) (cs := labD y0) (d := dI (badSig (pc.pick 3).1)) rfl rfl rfl rfl .same rfl rfl (by decide))) rfl ?_
    refine DF.fin (ps := [(0,2),(0,3),(0,4),(1,2),(1,3),(1,4),(2,0),(2,1),(2,3),(3,0),(3,1),(3,2),(4,0),(4,1)]) 8 rfl (by decide +kernel) (by decide +kernel) (by rfl) ?_
    refine ib_n ?_
    refine th_n ?_
    (have e := hT.trans ((if_neg h0).trans (if_pos h1)); exact ⟨A, rfl, (Weak.freezeP 3 3 rfl rfl rfl rfl (by simp) (List.take_of_length_le (by simp)) rfl).trans (Weak.ren _ [(200, _), (101, _), (201, _)] hC rfl (by repeat (first | exact True.intro | refine And.intro ?_ ?_ | exact rfl | refine ⟨_, rfl, ?_⟩)) (by rw [e]; repeat (first | exact True.intro | refine And.intro ?_ ?_ | exact DLead.same | exact rfl | refine ⟨_, _, rfl, rfl, ?_⟩ | refine ⟨_, rfl, ?_⟩ | refine ⟨_, _, rfl, ?_, ?_⟩)) rfl rfl rfl)⟩)
   ·refine AC.seq ?_
    refine AC.region ?_
    refine AL.p (by exact g_cmp rfl rfl rfl) rfl ?_
    refine AL.p (by exact as1 rfl) rfl ?_
    refine AL.nil ?_
    refine th_n ?_
    refine AC.condD rfl (fun h2 => ?_) (fun h2 => ?_)
    ·refine AC.drawn' mixed_ok [[], [0], [], [], [2,3], [0,1,2,3,4], [0,1,2,3,4,5], [0,1,2,3,4,5,6]] (by decide) ?_
     refine DF.op 0 [] 8 rfl rfl rfl (.free rfl (NOp.of (by exact g_fa_ptr rfl rfl rfl rfl rfl))) rfl ?_
     refine DF.op 1 [0] 8 rfl rfl rfl (.free rfl (NOp.of (by exact g_load_ptr rfl rfl rfl rfl rfl))) rfl ?_
     refine DF.op 2 [] 8 rfl rfl rfl (.free rfl (NOp.of (by exact mv3 rfl))) rfl ?_
     refine DF.op 3 [] 8 rfl rfl rfl (.free rfl (by exact h_litF rfl rfl rfl rfl rfl rfl rfl rfl)) rfl ?_
     refine DF.op 4 [2,3] 8 rfl rfl rfl (.free rfl (by exact h_fun (cs := [0]) en_of rfl rfl (by repeat (first | exact rfl | exact DLead.same | refine ⟨_, _, rfl, ?_, ?_⟩ | refine ⟨_, rfl, ?_⟩)) (by repeat (first | exact True.intro | refine And.intro ?_ ?_ | exact DLead.same | exact rfl | refine ⟨_, _, rfl, rfl, ?_⟩ | refine ⟨_, rfl, ?_⟩ | refine ⟨_, _, rfl, ?_, ?_⟩)) ha2 rfl rfl rfl rfl)) rfl ?_
     refine DF.op 5 [0,1,2,3,4] 8 rfl rfl rfl (.free rfl (NOp.of (by exact g_ia_own (i := 0) (l := (x0 :: sg').length) rfl rfl rfl rfl rfl rfl (by omega) rfl))) rfl ?_
     refine DF.op 6 [0,1,2,3,4,5] 8 rfl rfl rfl (.free rfl (NOp.of (by exact g_fa_ptr rfl rfl rfl rfl rfl))) rfl ?_
     refine DF.op 7 [0,1,2,3,4,5,6] 8 rfl rfl rfl (.free rfl (by exact h_store_arr (i := 0) (j := 0) (cs := sigD x0) (d := dS (bstr (badName (pc.pick 4).1))) rfl rfl rfl rfl .same rfl rfl (by decide))) rfl ?_
     refine DF.fin (ps := [(0,2),(0,3),(0,4),(1,2),(1,3),(1,4),(2,0),(2,1),(2,3),(3,0),(3,1),(3,2),(4,0),(4,1)]) 8 rfl (by decide +kernel) (by decide +kernel) (by rfl) ?_
     refine ib_n ?_
     refine th_n ?_
     (have e := hT.trans ((if_neg h0).trans ((if_neg h1).trans (if_pos h2))); exact ⟨A, rfl, (Weak.freezeP 3 3 rfl rfl rfl rfl (ownl _ _) (ownt _ _) rfl).trans (Weak.ren _ [(200, _), (101, _), (201, _)] hC rfl (by repeat (first | exact True.intro | refine And.intro ?_ ?_ | exact rfl | refine ⟨_, rfl, ?_⟩)) (by rw [e]; repeat (first | exact True.intro | refine And.intro ?_ ?_ | exact DLead.same | exact rfl | refine ⟨_, _, rfl, rfl, ?_⟩ | refine ⟨_, rfl, ?_⟩ | refine ⟨_, _, rfl, ?_, ?_⟩)) rfl rfl rfl)⟩)
    ·refine AC.seq ?_
     refine AC.region ?_
     refine AL.p (by exact g_cmp rfl rfl rfl) rfl ?_
     refine AL.p (by exact as1 rfl) rfl ?_
     refine AL.nil ?_
     refine th_n ?_
     refine AC.condD rfl (fun h3 => ?_) (fun h3 => ?_)
     ·refine AC.drawn' mixed_ok [[], [0], [], [], [2,3], [0,1,2,3,4], [0,1,2,3,4,5], [0,1,2,3,4,5,6]] (by decide) ?_
      refine DF.op 0 [] 8 rfl rfl rfl (.free rfl (NOp.of (by exact g_fa_ptr rfl rfl rfl rfl rfl))) rfl ?_
      refine DF.op 1 [0] 8 rfl rfl rfl (.free rfl (NOp.of (by exact g_load_ptr rfl rfl rfl rfl rfl))) rfl ?_
      refine DF.op 2 [] 8 rfl rfl rfl (.free rfl (NOp.of (by exact mv3 rfl))) rfl ?_
      refine DF.op 3 [] 8 rfl rfl rfl (.free rfl (by exact h_litF rfl rfl rfl rfl rfl rfl rfl rfl)) rfl ?_
      refine DF.op 4 [2,3] 8 rfl rfl rfl (.free rfl (by exact h_fun (cs := [0]) en_among rfl rfl (by repeat (first | exact rfl | exact DLead.same | refine ⟨_, _, rfl, ?_, ?_⟩ | refine ⟨_, rfl, ?_⟩)) (by repeat (first | exact True.intro | refine And.intro ?_ ?_ | exact DLead.same | exact rfl | refine ⟨_, _, rfl, rfl, ?_⟩ | refine ⟨_, rfl, ?_⟩ | refine ⟨_, _, rfl, ?_, ?_⟩)) ha3 rfl rfl rfl rfl)) rfl ?_
      refine DF.op 5 [0,1,2,3,4] 8 rfl rfl rfl (.free rfl (NOp.of (by exact g_ia_own (i := 0) (l := (x0 :: sg').length) rfl rfl rfl rfl rfl rfl (by omega) rfl))) rfl ?_
      refine DF.op 6 [0,1,2,3,4,5] 8 rfl rfl rfl (.free rfl (NOp.of (by exact g_fa_ptr rfl rfl rfl rfl rfl))) rfl ?_
      refine DF.op 7 [0,1,2,3,4,5,6] 8 rfl rfl rfl (.free rfl (by exact h_store_arr (i := 0) (j := 1) (cs := sigD x0) (d := dI (badKind (pc.pick 3).1)) rfl rfl rfl rfl .same rfl rfl (by decide))) rfl ?_
      refine DF.fin (ps := [(0,2),(0,3),(0,4),(1,2),(1,3),(1,4),(2,0),(2,1),(2,3),(3,0),(3,1),(3,2),(4,0),(4,1)]) 8 rfl (by decide +kernel) (by decide +kernel) (by rfl) ?_
      refine ib_n ?_
      refine th_n ?_
      (have e := hT.trans ((if_neg h0).trans ((if_neg h1).trans ((if_neg h2).trans (if_pos h3)))); exact ⟨A, rfl, (Weak.freezeP 3 3 rfl rfl rfl rfl (ownl _ _) (ownt _ _) rfl).trans (Weak.ren _ [(200, _), (101, _), (201, _)] hC rfl (by repeat (first | exact True.intro | refine And.intro ?_ ?_ | exact rfl | refine ⟨_, rfl, ?_⟩)) (by rw [e]; repeat (first | exact True.intro | refine And.intro ?_ ?_ | exact DLead.same | exact rfl | refine ⟨_, _, rfl, rfl, ?_⟩ | refine ⟨_, rfl, ?_⟩ | refine ⟨_, _, rfl, ?_, ?_⟩)) rfl rfl rfl)⟩)
     ·refine AC.seq ?_
      refine AC.region ?_
      refine AL.p (by exact g_cmp rfl rfl rfl) rfl ?_
      refine AL.p (by exact as1 rfl) rfl ?_
      refine AL.nil ?_
      refine th_n ?_
      refine AC.condD rfl (fun h4 => ?_) (fun h4 => ?_)
      ·refine AC.region ?_
       refine AL.weak (Weak.freezeP 3 3 rfl rfl rfl rfl (ownl _ _) (ownt _ _) rfl) ?_
       refine AL.p (by exact g_fa_ptr rfl rfl rfl rfl rfl) rfl ?_
       refine AL.p (by exact g_load_ptr rfl rfl rfl rfl rfl) rfl ?_
       refine AL.p (by exact g_slice_view (r := labsL lb') (l := 1) (h := (labsL (y0 :: lb')).length) rfl rfl rfl rfl (.some rfl rfl) .none (by rw [labsL_len]; omega) (Nat.le_refl _) (by rw [List.take_length]; rfl)) rfl ?_
       refine AL.p (by exact g_fa_ptr rfl rfl rfl rfl rfl) rfl ?_
       refine AL.q (by exact h_store rfl rfl rfl rfl rfl rfl) rfl ?_
       refine AL.nil ?_
       refine ib_n ?_
       refine th_n ?_
       (have e := hT.trans ((if_neg h0).trans ((if_neg h1).trans ((if_neg h2).trans ((if_neg h3).trans (if_pos h4))))); exact ⟨A, rfl, Weak.ren _ [(200, _), (101, _), (201, _)] hC rfl (by repeat (first | exact True.intro | refine And.intro ?_ ?_ | exact rfl | refine ⟨_, rfl, ?_⟩)) (by rw [e]; repeat (first | exact True.intro | refine And.intro ?_ ?_ | exact DLead.same | exact rfl | refine ⟨_, _, rfl, rfl, ?_⟩ | refine ⟨_, rfl, ?_⟩ | refine ⟨_, _, rfl, ?_, ?_⟩)) rfl rfl rfl⟩)
      ·refine AC.skip ?_
       refine ib_n ?_
       refine th_n ?_
       (have e := hT.trans ((if_neg h0).trans ((if_neg h1).trans ((if_neg h2).trans ((if_neg h3).trans (if_neg h4))))); exact ⟨A, rfl, (Weak.freezeP 3 3 rfl rfl rfl rfl (ownl _ _) (ownt _ _) rfl).trans (Weak.ren _ [(200, _), (101, _), (201, _)] hC rfl (by repeat (first | exact True.intro | refine And.intro ?_ ?_ | exact rfl | refine ⟨_, rfl, ?_⟩)) (by rw [e]; repeat (first | exact True.intro | refine And.intro ?_ ?_ | exact DLead.same | exact rfl | refine ⟨_, _, rfl, rfl, ?_⟩ | refine ⟨_, rfl, ?_⟩ | refine ⟨_, _, rfl, ?_, ?_⟩)) rfl rfl rfl)⟩)
 ·rintro x rfl
  refine AC.seq ?_
  refine AC.region ?_
  refine AL.p (by exact g_load_ptrN rfl rfl rfl rfl rfl) rfl ?_
  refine AL.q (by exact h_store rfl rfl rfl rfl rfl rfl) rfl ?_
  refine AL.nil ?_
  refine th_n ?_
  refine AC.ret ?_
  refine bq_r ?_
  exact retN [(1, 101)] rfl (by repeat (first | exact rfl | exact DLead.same | refine ⟨_, _, rfl, ?_, ?_⟩ | refine ⟨_, rfl, ?_⟩)) (by repeat (first | exact True.intro | refine And.intro ?_ ?_ | exact DLead.same | exact rfl | refine ⟨_, _, rfl, rfl, ?_⟩ | refine ⟨_, rfl, ?_⟩ | refine ⟨_, _, rfl, ?_, ?_⟩)) rfl rfl
theorem en_anyStg : Enters Tryz.prog 19 := enters_of Tryz.func19 rfl rfl
def drwN : Nat → Cur → List Int → List Int × Cur
 | 0, c, acc => (acc, c)
 | j + 1, c, acc => drwN j (c.pick 1000).2 (acc ++ [(c.pick 1000).1])
theorem drwN_in : ∀ (j : Nat) (c : Cur) (acc : List Int), (∀ x, x ∈ acc → -1 ≤ x ∧ x ≤ 1000) → (drwN j c acc).1.length = acc.length + j ∧ (∀ x, x ∈ (drwN j c acc).1 → -1 ≤ x ∧ x ≤ 1000) ∧ (drwN j c acc).2.pos ≤ c.pos + 2 * j ∧ (drwN j c acc).2.code = c.code
 | 0, c, acc, h => ⟨rfl, h, Nat.le_refl _, rfl⟩
 | j + 1, c, acc, h => by
  have h1 := c.pick_in 1000 (by decide)
  have h2 := c.pick_pos 1000
  have h3 := c.pick_code 1000
  have ih := drwN_in j (c.pick 1000).2 (acc ++ [(c.pick 1000).1]) (fun x hx => by
   rcases List.mem_append.1 hx with hx | hx
   ·exact h x hx
   ·rw [List.mem_singleton] at hx; omega)
  rw [List.length_append] at ih
  simp only [List.length_cons, List.length_nil] at ih
  rw [drwN]
  exact ⟨by omega, ih.2.1, by omega, ih.2.2.2.trans h3⟩
def drwT (r : List Int × Cur) : List Int × Cur := if (r.2.pick 25).1 = 0 then (r.1 ++ [([-1, 1000] : List Int).getD ((r.2.pick 25).2.pick 2).1.toNat 0], ((r.2.pick 25).2.pick 2).2) else (r.1, (r.2.pick 25).2)
def drwI (c : Cur) : List Int × Cur := drwT (drwN (c.pick 14).1.toNat (c.pick 14).2 [])
theorem drwI_in (c : Cur) : (drwI c).1.length ≤ 20 ∧ (drwI c).2.pos ≤ c.pos + 60 ∧ (drwI c).2.code = c.code := by
 have h1 := c.pick_in 14 (by decide)
 have h2 := c.pick_pos 14
 have h3 := c.pick_code 14
 have hN := drwN_in (c.pick 14).1.toNat (c.pick 14).2 [] (fun x hx => by cases hx)
 simp only [List.length_nil] at hN
 unfold drwI drwT
 obtain ⟨r, hr⟩ : ∃ r, r = drwN (c.pick 14).1.toNat (c.pick 14).2 [] := ⟨_, rfl⟩
 rw [← hr] at hN ⊢
 have p1 := r.2.pick_pos 25
 have p2 := (r.2.pick 25).2.pick_pos 2
 have k1 := r.2.pick_code 25
 have k2 := (r.2.pick 25).2.pick_code 2
 split
 ·exact ⟨by rw [List.length_append]; simp only [List.length_cons, List.length_nil]; omega, by dsimp only; omega, by dsimp only; rw [k2, k1, hN.2.2.2, h3]⟩
 ·exact ⟨by dsimp only; omega, by dsimp only; omega, by dsimp only; rw [k1, hN.2.2.2, h3]⟩
set_option maxHeartbeats 4000000 in
theorem curDraws_spec (c : Cur) (hp : c.pos ≤ 1000000) : ASpec Tryz.prog 21 [.ptr 0 0] [(0, curC c)] (Fun1 (.d (vI (drwI c).1)) [(0, curC (drwI c).2)]) := by
 have h1 := c.pick_in 14 (by decide)
 have h2 := c.pick_pos 14
 have hK := pick_spec c 14 (by decide) (by omega)
 have hN := drwN_in (c.pick 14).1.toNat (c.pick 14).2 [] (fun x hx => by cases hx)
 simp only [List.length_nil] at hN
 have hI : drwI c = drwT (drwN (c.pick 14).1.toNat (c.pick 14).2 []) := rfl
 obtain ⟨p, hpp⟩ : ∃ p, p = c.pick 14 := ⟨_, rfl⟩
 rw [← hpp] at h1 h2 hK hN hI
 obtain ⟨r, hr⟩ : ∃ r, r = drwN p.1.toNat p.2 [] := ⟨_, rfl⟩
 rw [← hr] at hN hI
 have hT : drwT r = if (r.2.pick 25).1 = 0 then (r.1 ++ [([-1, 1000] : List Int).getD ((r.2.pick 25).2.pick 2).1.toNat 0], ((r.2.pick 25).2.pick 2).2) else (r.1, (r.2.pick 25).2) := rfl
 have p1 := r.2.pick_pos 25
 have hO := one_spec r.2 25 (by decide) (by omega)
 have hA := among_spec (r.2.pick 25).2 [-1, 1000] (by decide) (by decide) (by omega)
 rw [hI]
 clear hI hpp
 refine ASpec.of Tryz.func21 rfl rfl fun C hC => ?_
 refine AC.seq ?_
 refine AC.region ?_
 refine AL.p (by exact as1 rfl) rfl ?_
 refine AL.nil ?_
 refine th_n ?_
 refine AC.seq ?_
 refine AC.region ?_
 refine AL.p (by exact as1 rfl) rfl ?_
 refine AL.nil ?_
 refine th_n ?_
 refine AC.seq ?_
 refine AC.seq ?_
 refine AC.region ?_
 refine AL.p (by exact mv3 rfl) rfl ?_
 refine AL.q (by exact h_fun (cs := [0]) en_pick rfl rfl (by repeat (first | exact rfl | exact DLead.same | refine ⟨_, _, rfl, ?_, ?_⟩ | refine ⟨_, rfl, ?_⟩)) (by repeat (first | exact True.intro | refine And.intro ?_ ?_ | exact DLead.same | exact rfl | refine ⟨_, _, rfl, rfl, ?_⟩ | refine ⟨_, rfl, ?_⟩ | refine ⟨_, _, rfl, ?_, ?_⟩)) hK rfl rfl rfl rfl) rfl ?_
 refine AL.p (by exact as1 rfl) rfl ?_
 refine AL.nil ?_
 refine th_n ?_
 refine AC.block ?_
 refine AC.loop (ι := Nat × Cur × List Int) (fun x => ⟨25, 500, [(0, .ptr 0 0), (3, .own 100 x.2.2.length), (4, aI x.1)], [(0, some (curC x.2.1)), (100, some (.arr 3 1 (ints x.2.2)))]⟩) (fun x => drwN x.1 x.2.1 x.2.2 = r ∧ x.2.2.length + x.1 ≤ 20 ∧ x.2.1.pos + 2 * x.1 ≤ 2000000) (fun x => x.1) ((p.1.toNat, p.2, [])) ?_ (⟨hr.symm, by simp only [List.length_nil]; omega, by dsimp only; omega⟩) ?_
 ·exact (Weak.nilOwn (i := 3) (e := 3) (sz := 1) rfl (by decide)).trans (Weak.ren _ [(100, _)] hC rfl (by repeat (first | exact True.intro | refine And.intro ?_ ?_ | exact DLead.eqI (by omega) | exact rfl | refine ⟨_, rfl, ?_⟩)) (by repeat (first | exact True.intro | refine And.intro ?_ ?_ | exact DLead.same | exact rfl | refine ⟨_, _, rfl, rfl, ?_⟩ | refine ⟨_, rfl, ?_⟩ | refine ⟨_, _, rfl, ?_, ?_⟩)) rfl rfl rfl)
 ·rintro ⟨j, cc, acc⟩ ⟨hrun, hlen, hpos⟩
  dsimp only at hrun hlen hpos ⊢
  refine AC.seq ?_
  refine AC.seq ?_
  refine AC.region ?_
  refine AL.p (by exact mv1 rfl) rfl ?_
  refine AL.p (by exact g_cmp rfl rfl rfl) rfl ?_
  refine AL.nil ?_
  refine th_n ?_
  refine AC.condD rfl (fun h0 => ?_) (fun h0 => ?_)
  ·refine AC.skip ?_
   refine th_n ?_
   refine AC.seq ?_
   refine AC.block ?_
   obtain ⟨i, rfl⟩ : ∃ i, j = i + 1 := ⟨j - 1, by omega⟩
   rw [drwN] at hrun
   have hKi := pick_spec cc 1000 (by decide) (by omega)
   have hpi := cc.pick_pos 1000
   obtain ⟨q, hq⟩ : ∃ q, q = cc.pick 1000 := ⟨_, rfl⟩
   rw [← hq] at hKi hpi hrun
   refine AC.region ?_
   refine AL.p (by exact mv2 rfl) rfl ?_
   refine AL.p (by exact mv3 rfl) rfl ?_
   refine AL.q (by exact h_fun (cs := [0]) en_pick rfl rfl (by repeat (first | exact rfl | exact DLead.same | refine ⟨_, _, rfl, ?_, ?_⟩ | refine ⟨_, rfl, ?_⟩)) (by repeat (first | exact True.intro | refine And.intro ?_ ?_ | exact DLead.same | exact rfl | refine ⟨_, _, rfl, rfl, ?_⟩ | refine ⟨_, rfl, ?_⟩ | refine ⟨_, _, rfl, ?_, ?_⟩)) hKi rfl rfl rfl rfl) rfl ?_
   refine AL.q (by exact h_litF rfl rfl rfl rfl rfl rfl rfl rfl) rfl ?_
   refine AL.q (by exact h_appendI acc [q.1] (.own rfl rfl (ints_len _).symm) (.view rfl) (by rw [List.length_append]; simp only [List.length_cons, List.length_nil]; omega) (by simp)) rfl ?_
   refine AL.p (by exact as2 rfl) rfl ?_
   refine AL.nil ?_
   refine ib_n ?_
   refine th_n ?_
   refine AC.region ?_
   refine AL.p (by exact mv1 rfl) rfl ?_
   refine AL.p (by exact g_arith rfl rfl rfl (by exact wrap_i64 (by omega))) rfl ?_
   refine AL.p (by exact as1 rfl) rfl ?_
   refine AL.nil ?_
   refine th_n ?_
   exact ⟨(i, q.2, acc ++ [q.1]), ⟨hrun, by rw [List.length_append]; simp only [List.length_cons, List.length_nil]; omega, by dsimp only; omega⟩, by dsimp only; omega, Weak.ren _ [(100, _)] hC rfl (by repeat (first | exact True.intro | refine And.intro ?_ ?_ | exact DLead.eqI (by omega) | exact rfl | refine ⟨_, rfl, ?_⟩)) (by repeat (first | exact True.intro | refine And.intro ?_ ?_ | exact DLead.same | exact rfl | refine ⟨_, _, rfl, rfl, ?_⟩ | refine ⟨_, rfl, ?_⟩ | refine ⟨_, _, rfl, ?_, ?_⟩)) rfl rfl rfl⟩
  ·refine AC.exit ?_
   refine th_e ?_
   refine th_e ?_
   refine ib_y ?_
   refine th_n ?_
   refine AC.seq ?_
   refine AC.seq ?_
   have hj : j = 0 := by omega
   subst hj
   rw [drwN] at hrun
   obtain ⟨e1, e2⟩ : acc = r.1 ∧ cc = r.2 := by rw [← hrun]; exact ⟨rfl, rfl⟩
   subst e1 e2
   refine AC.region ?_
   refine AL.p (by exact mv3 rfl) rfl ?_
   refine AL.q (by exact h_fun (cs := [0]) en_one rfl rfl (by repeat (first | exact rfl | exact DLead.same | refine ⟨_, _, rfl, ?_, ?_⟩ | refine ⟨_, rfl, ?_⟩)) (by repeat (first | exact True.intro | refine And.intro ?_ ?_ | exact DLead.same | exact rfl | refine ⟨_, _, rfl, rfl, ?_⟩ | refine ⟨_, rfl, ?_⟩ | refine ⟨_, _, rfl, ?_, ?_⟩)) hO rfl rfl rfl rfl) rfl ?_
   refine AL.nil ?_
   refine th_n ?_
   refine AC.condD rfl (fun h1 => ?_) (fun h1 => ?_)
   ·refine AC.region ?_
    refine AL.p (by exact mv2 rfl) rfl ?_
    refine AL.p (by exact mv3 rfl) rfl ?_
    refine AL.q (by exact h_litF rfl rfl rfl rfl rfl rfl rfl rfl) rfl ?_
    refine AL.q (by exact h_fun (cs := [0]) en_among rfl rfl (by repeat (first | exact rfl | exact DLead.same | refine ⟨_, _, rfl, ?_, ?_⟩ | refine ⟨_, rfl, ?_⟩)) (by repeat (first | exact True.intro | refine And.intro ?_ ?_ | exact DLead.same | exact rfl | refine ⟨_, _, rfl, rfl, ?_⟩ | refine ⟨_, rfl, ?_⟩ | refine ⟨_, _, rfl, ?_, ?_⟩)) hA rfl rfl rfl rfl) rfl ?_
    refine AL.q (by exact h_litF rfl rfl rfl rfl rfl rfl rfl rfl) rfl ?_
    refine AL.q (by exact h_appendI r.1 [([-1, 1000] : List Int).getD ((r.2.pick 25).2.pick 2).1.toNat 0] (.own rfl rfl (ints_len _).symm) (.view rfl) (by rw [List.length_append]; simp only [List.length_cons, List.length_nil]; omega) (by simp)) rfl ?_
    refine AL.p (by exact as2 rfl) rfl ?_
    refine AL.nil ?_
    refine th_n ?_
    refine AC.seq ?_
    refine AC.region ?_
    refine AL.p (by exact mv2 rfl) rfl ?_
    refine AL.weak (Weak.freeze (i := 24) rfl rfl (ownl _ _) (ownt _ _)) ?_
    refine AL.p (by exact as1 rfl) rfl ?_
    refine AL.nil ?_
    refine th_n ?_
    refine AC.ret ?_
    refine bq_r ?_
    (have e := hT.trans (if_pos h1); exact retF rfl (by rw [e]; repeat (exact DLead.same)) (by rw [e]; repeat (first | exact True.intro | refine And.intro ?_ ?_ | exact DLead.same | exact rfl | refine ⟨_, _, rfl, rfl, ?_⟩ | refine ⟨_, rfl, ?_⟩ | refine ⟨_, _, rfl, ?_, ?_⟩)) rfl)
   ·refine AC.skip ?_
    refine th_n ?_
    refine AC.seq ?_
    refine AC.region ?_
    refine AL.p (by exact mv2 rfl) rfl ?_
    refine AL.weak (Weak.freeze (i := 24) rfl rfl (ownl _ _) (ownt _ _)) ?_
    refine AL.p (by exact as1 rfl) rfl ?_
    refine AL.nil ?_
    refine th_n ?_
    refine AC.ret ?_
    refine bq_r ?_
    (have e := hT.trans (if_neg h1); exact retF rfl (by rw [e]; repeat (exact DLead.same)) (by rw [e]; repeat (first | exact True.intro | refine And.intro ?_ ?_ | exact DLead.same | exact rfl | refine ⟨_, _, rfl, rfl, ?_⟩ | refine ⟨_, rfl, ?_⟩ | refine ⟨_, _, rfl, ?_, ?_⟩)) rfl)
theorem en_curDraws : Enters Tryz.prog 21 := enters_of Tryz.func21 rfl rfl
def lowV (c : Cur) : Int := ([0, 1, 2, 5, 10] : List Int).getD (c.pick 5).1.toNat 0
def gapV (c : Cur) : Int := ([0, 1, 4, 20] : List Int).getD (c.pick 4).1.toNat 0
def dlyN : Nat → Cur → List Dl → List Dl × Cur
 | 0, c, acc => (acc, c)
 | j + 1, c, acc => dlyN j ((c.pick 5).2.pick 4).2 (acc ++ [⟨lowV c, lowV c + gapV (c.pick 5).2⟩])
theorem getD_bd {L : List Int} {a b : Int} (h0 : a ≤ 0 ∧ 0 ≤ b) (h : ∀ x, x ∈ L → a ≤ x ∧ x ≤ b) (i : Nat) : a ≤ L.getD i 0 ∧ L.getD i 0 ≤ b := by
 rw [List.getD_eq_getElem?_getD]
 cases e : L[i]? with
 | none => exact h0
 | some x => exact h x (List.mem_of_getElem? e)
theorem lowV_in (c : Cur) : 0 ≤ lowV c ∧ lowV c ≤ 10 := getD_bd (by decide) (by decide) _
theorem gapV_in (c : Cur) : 0 ≤ gapV c ∧ gapV c ≤ 20 := getD_bd (by decide) (by decide) _
theorem dlyN_in : ∀ (j : Nat) (c : Cur) (acc : List Dl), (∀ x, x ∈ acc → -200 ≤ x.low ∧ x.low ≤ 200 ∧ -200 ≤ x.high ∧ x.high ≤ 200) → (dlyN j c acc).1.length = acc.length + j ∧ (∀ x, x ∈ (dlyN j c acc).1 → -200 ≤ x.low ∧ x.low ≤ 200 ∧ -200 ≤ x.high ∧ x.high ≤ 200) ∧ (dlyN j c acc).2.pos ≤ c.pos + 4 * j ∧ (dlyN j c acc).2.code = c.code
 | 0, c, acc, h => ⟨rfl, h, Nat.le_refl _, rfl⟩
 | j + 1, c, acc, h => by
  have h1 := lowV_in c
  have h2 := gapV_in (c.pick 5).2
  have p1 := c.pick_pos 5
  have p2 := (c.pick 5).2.pick_pos 4
  have k1 := c.pick_code 5
  have k2 := (c.pick 5).2.pick_code 4
  have ih := dlyN_in j ((c.pick 5).2.pick 4).2 (acc ++ [⟨lowV c, lowV c + gapV (c.pick 5).2⟩]) (fun x hx => by
   rcases List.mem_append.1 hx with hx | hx
   ·exact h x hx
   ·rw [List.mem_singleton] at hx; subst hx; dsimp only; omega)
  rw [List.length_append] at ih
  simp only [List.length_cons, List.length_nil] at ih
  rw [dlyN]
  exact ⟨by omega, ih.2.1, by omega, ih.2.2.2.trans (k2.trans k1)⟩
theorem h_appendD (acc new : List Dl) {s : ASt} {dst : Option Nat} {ty : Nat} {pos : String} {af : Array Edge} {gd : Option (Nat × Bool)} {x y : Operand} {f : Nat} {ids ids2 : List Nat} {gone : List (Nat × Option Chunk)}
  (hto : AppTo s x 88 2 (dlL acc) ids gone) (harg : AppArg s y 2 (dlL new) ids2) (h : (acc ++ new).length ≤ 100000000) (hnew : gone = [] → 0 < new.length) :
  NOp Tryz.prog (ids ++ ids2) s ⟨dst, .call { callee := .builtin .append, args := #[x, y], argTypes := #[30, 30] }, ty, pos, af, gd⟩ f ⟨.own f (acc ++ new).length, (f, some (.arr 88 2 (dlL (acc ++ new)))) :: gone⟩ := by
 have := h_append (P := Tryz.prog) (s := s) (dst := dst) (ty := ty) (pos := pos) (af := af) (gd := gd) (x := x) (y := y) (f := f) (t := 30) (tx := 30) (k := (acc ++ new).length) rfl rfl rfl rfl rfl rfl hto harg (by simp) (by omega) (by show (acc ++ new).length * 16 ≤ _; omega) (fun h => by rw [dlL_len]; exact hnew h)
 rwa [← List.map_append] at this
def badLow (c : Cur) : Int := ([-1, 101, 100] : List Int).getD (c.pick 3).1.toNat 0
def badHigh (c : Cur) : Int := ([100, 101, 0] : List Int).getD (c.pick 3).1.toNat 0
def dlyT (l : List Dl) (i : Nat) (q : Int × Cur) : List Dl × Cur :=
 if q.1 = 0 then (l.set i ⟨badLow q.2, (dAt l i).high⟩, (q.2.pick 3).2)
 else if q.1 = 1 then (l.set i ⟨(dAt l i).low, badHigh q.2⟩, (q.2.pick 3).2)
 else if q.1 = 2 then (l.drop 1, q.2)
 else (l, q.2)
def dlyE (r : List Dl × Cur) : List Dl × Cur := if 0 < r.1.length then dlyT r.1 (r.2.pick r.1.length).1.toNat ((r.2.pick r.1.length).2.pick 20) else r
def dlyI (n : Nat) (c : Cur) : List Dl × Cur := dlyE (dlyN n c [])
def dlIn (l : List Dl) : Prop := ∀ x, x ∈ l → -200 ≤ x.low ∧ x.low ≤ 200 ∧ -200 ≤ x.high ∧ x.high ≤ 200
theorem dAt_in {l : List Dl} (h : dlIn l) (i : Nat) : -200 ≤ (dAt l i).low ∧ (dAt l i).low ≤ 200 ∧ -200 ≤ (dAt l i).high ∧ (dAt l i).high ≤ 200 := by
 unfold dAt
 rw [List.getD_eq_getElem?_getD]
 cases e : l[i]? with
 | none => decide
 | some x => exact h x (List.mem_of_getElem? e)
theorem dlyI_in (n : Nat) (c : Cur) : (dlyI n c).1.length ≤ n ∧ dlIn (dlyI n c).1 ∧ (dlyI n c).2.pos ≤ c.pos + 4 * n + 10 ∧ (dlyI n c).2.code = c.code := by
 have hN := dlyN_in n c [] (fun x hx => by cases hx)
 simp only [List.length_nil] at hN
 unfold dlyI dlyE
 obtain ⟨r, hr⟩ : ∃ r, r = dlyN n c [] := ⟨_, rfl⟩
 rw [← hr] at hN ⊢
 have hin : dlIn r.1 := hN.2.1
 split
 ·have p1 := r.2.pick_pos r.1.length
  have k1 := r.2.pick_code r.1.length
  obtain ⟨i, hi⟩ : ∃ i, i = r.2.pick r.1.length := ⟨_, rfl⟩
  rw [← hi] at p1 k1 ⊢
  have p2 := i.2.pick_pos 20
  have k2 := i.2.pick_code 20
  obtain ⟨q, hq⟩ : ∃ q, q = i.2.pick 20 := ⟨_, rfl⟩
  rw [← hq] at p2 k2 ⊢
  have p3 := q.2.pick_pos 3
  have k3 := q.2.pick_code 3
  have hd := dAt_in hin i.1.toNat
  have b1 : -200 ≤ badLow q.2 ∧ badLow q.2 ≤ 200 := getD_bd (by decide) (by decide) _
  have b2 : -200 ≤ badHigh q.2 ∧ badHigh q.2 ≤ 200 := getD_bd (by decide) (by decide) _
  have hs : ∀ x : Dl, (-200 ≤ x.low ∧ x.low ≤ 200 ∧ -200 ≤ x.high ∧ x.high ≤ 200) → dlIn (r.1.set i.1.toNat x) := fun x hx y hy => by
   rcases List.mem_or_eq_of_mem_set hy with hy | rfl
   ·exact hin y hy
   ·exact hx
  unfold dlyT
  split
  ·exact ⟨by rw [List.length_set]; omega, hs _ ⟨b1.1, b1.2, hd.2.2.1, hd.2.2.2⟩, by dsimp only; omega, k3.trans (k2.trans (k1.trans hN.2.2.2))⟩
  split
  ·exact ⟨by rw [List.length_set]; omega, hs _ ⟨hd.1, hd.2.1, b2.1, b2.2⟩, by dsimp only; omega, k3.trans (k2.trans (k1.trans hN.2.2.2))⟩
  split
  ·exact ⟨by rw [List.length_drop]; omega, fun x hx => hin x (List.mem_of_mem_drop hx), by dsimp only; omega, k2.trans (k1.trans hN.2.2.2)⟩
  ·exact ⟨by dsimp only; omega, hin, by dsimp only; omega, k2.trans (k1.trans hN.2.2.2)⟩
 ·exact ⟨by omega, hin, by omega, hN.2.2.2⟩
theorem dlL_set (l : List Dl) (i : Nat) (x : Dl) : (dlL l).set i (dlD x) = dlL (l.set i x) := by unfold dlL; rw [List.map_set]
set_option maxHeartbeats 8000000 in
theorem curDelays_spec (s : Stg) (c : Cur) (hs : s.net.ts.length ≤ 100) (hp : c.pos ≤ 1000000) : ASpec Tryz.prog 20 [.ptr 0 0, stgA s] [(0, curC c)] (Fun1 (.d (vDls (dlyI s.net.ts.length c).1)) [(0, curC (dlyI s.net.ts.length c).2)]) := by
 have hN := dlyN_in s.net.ts.length c [] (fun x hx => by cases hx)
 simp only [List.length_nil] at hN
 have hI : dlyI s.net.ts.length c = dlyE (dlyN s.net.ts.length c []) := rfl
 obtain ⟨r, hr⟩ : ∃ r, r = dlyN s.net.ts.length c [] := ⟨_, rfl⟩
 rw [← hr] at hN hI
 have hE : dlyE r = if 0 < r.1.length then dlyT r.1 (r.2.pick r.1.length).1.toNat ((r.2.pick r.1.length).2.pick 20) else r := rfl
 rw [hI]
 have p1 := r.2.pick_pos r.1.length
 have hK1 := pick_spec r.2 r.1.length (by omega) (by omega)
 have hKi : 0 < r.1.length → 0 ≤ (r.2.pick r.1.length).1 ∧ (r.2.pick r.1.length).1 < r.1.length := fun h => r.2.pick_in r.1.length (by omega)
 obtain ⟨i, hi⟩ : ∃ i, i = r.2.pick r.1.length := ⟨_, rfl⟩
 rw [← hi] at p1 hK1 hKi hE
 have p2 := i.2.pick_pos 20
 have hK2 := pick_spec i.2 20 (by decide) (by omega)
 obtain ⟨q, hq⟩ : ∃ q, q = i.2.pick 20 := ⟨_, rfl⟩
 rw [← hq] at p2 hK2 hE
 have hA1 := among_spec q.2 [-1, 101, 100] (by decide) (by decide) (by omega)
 have hA2 := among_spec q.2 [100, 101, 0] (by decide) (by decide) (by omega)
 have hT : dlyT r.1 i.1.toNat q = if q.1 = 0 then (r.1.set i.1.toNat ⟨badLow q.2, (dAt r.1 i.1.toNat).high⟩, (q.2.pick 3).2)
  else if q.1 = 1 then (r.1.set i.1.toNat ⟨(dAt r.1 i.1.toNat).low, badHigh q.2⟩, (q.2.pick 3).2)
  else if q.1 = 2 then (r.1.drop 1, q.2)
  else (r.1, q.2) := rfl
 obtain ⟨Z, hZ⟩ : ∃ Z, Z = dlyE r := ⟨_, rfl⟩
 rw [← hZ] at hE ⊢
 clear hI hZ hi hq
 refine ASpec.of Tryz.func20 rfl rfl fun C hC => ?_
 refine AC.seq ?_
 refine AC.region ?_
 refine AL.q (by exact h_boxF rfl rfl) rfl ?_
 refine AL.p (by exact as1 rfl) rfl ?_
 refine AL.nil ?_
 refine th_n ?_
 refine AC.seq ?_
 refine AC.region ?_
 refine AL.p (by exact as1 rfl) rfl ?_
 refine AL.nil ?_
 refine th_n ?_
 refine AC.seq ?_
 refine AC.seq ?_
 refine AC.region ?_
 refine AL.p (by exact g_fa_ref rfl rfl rfl rfl rfl rfl) rfl ?_
 refine AL.p (by exact g_fa_ref rfl rfl rfl rfl rfl rfl) rfl ?_
 refine AL.p (by exact g_load_ref rfl rfl rfl) rfl ?_
 refine AL.p (by exact g_len_view (k := s.net.ts.length) rfl rfl (tsL_len _)) rfl ?_
 refine AL.p (by exact mv1 rfl) rfl ?_
 refine AL.nil ?_
 refine th_n ?_
 refine AC.block ?_
 refine AC.loop (ι := Nat × Cur × List Dl) (fun x => ⟨60, 500, [(0, .ptr 0 0), (5, .own 100 x.2.2.length), (11, aI s.net.ts.length), (12, aI x.1)], [(0, some (curC x.2.1)), (100, some (.arr 88 2 (dlL x.2.2)))]⟩) (fun x => x.1 ≤ s.net.ts.length ∧ dlyN (s.net.ts.length - x.1) x.2.1 x.2.2 = r ∧ x.2.2.length = x.1 ∧ x.2.1.pos + 4 * (s.net.ts.length - x.1) ≤ 2000000) (fun x => s.net.ts.length - x.1) ((0, c, [])) ?_ (⟨Nat.zero_le _, hr.symm, rfl, by dsimp only; omega⟩) ?_
 ·exact (Weak.nilOwn (i := 5) (e := 88) (sz := 2) rfl (by decide)).trans (Weak.ren _ [(100, _)] hC rfl (by repeat (first | exact True.intro | refine And.intro ?_ ?_ | exact DLead.same | exact rfl | refine ⟨_, rfl, ?_⟩)) (by repeat (first | exact True.intro | refine And.intro ?_ ?_ | exact DLead.same | exact rfl | refine ⟨_, _, rfl, rfl, ?_⟩ | refine ⟨_, rfl, ?_⟩ | refine ⟨_, _, rfl, ?_, ?_⟩)) rfl rfl rfl)
 ·rintro ⟨k, cc, acc⟩ ⟨hk, hrun, hlen, hpos⟩
  dsimp only at hk hrun hlen hpos ⊢
  refine AC.seq ?_
  refine AC.region ?_
  refine AL.p (by exact g_cmp rfl rfl rfl) rfl ?_
  refine AL.nil ?_
  refine th_n ?_
  refine AC.seq ?_
  refine AC.condD rfl (fun h0 => ?_) (fun h0 => ?_)
  ·refine AC.skip ?_
   refine th_n ?_
   refine AC.seq ?_
   refine AC.block ?_
   refine AC.seq ?_
   have hk1 : k < s.net.ts.length := by omega
   rw [show s.net.ts.length - k = (s.net.ts.length - (k + 1)) + 1 by omega, dlyN] at hrun
   have hB1 := among_spec cc [0, 1, 2, 5, 10] (by decide) (by decide) (by omega)
   have hpa := cc.pick_pos 5
   have hB2 := among_spec (cc.pick 5).2 [0, 1, 4, 20] (by decide) (by decide) (by omega)
   have hpb := (cc.pick 5).2.pick_pos 4
   have hlo := lowV_in cc
   have hga := gapV_in (cc.pick 5).2
   have e1 : ([0, 1, 2, 5, 10] : List Int).getD (cc.pick ([0, 1, 2, 5, 10] : List Int).length).1.toNat 0 = lowV cc := rfl
   have e2 : ([0, 1, 4, 20] : List Int).getD ((cc.pick 5).2.pick ([0, 1, 4, 20] : List Int).length).1.toNat 0 = gapV (cc.pick 5).2 := rfl
   rw [e1] at hB1
   rw [e2] at hB2
   obtain ⟨lo, hloE⟩ : ∃ lo, lo = lowV cc := ⟨_, rfl⟩
   obtain ⟨ga, hgaE⟩ : ∃ ga, ga = gapV (cc.pick 5).2 := ⟨_, rfl⟩
   rw [← hloE] at hB1 hlo hrun
   rw [← hgaE] at hB2 hga hrun
   refine AC.region ?_
   refine AL.p (by exact mv3 rfl) rfl ?_
   refine AL.q (by exact h_litF rfl rfl rfl rfl rfl rfl rfl rfl) rfl ?_
   refine AL.q (by exact h_fun (cs := [0]) en_among rfl rfl (by repeat (first | exact rfl | exact DLead.same | refine ⟨_, _, rfl, ?_, ?_⟩ | refine ⟨_, rfl, ?_⟩)) (by repeat (first | exact True.intro | refine And.intro ?_ ?_ | exact DLead.same | exact rfl | refine ⟨_, _, rfl, rfl, ?_⟩ | refine ⟨_, rfl, ?_⟩ | refine ⟨_, _, rfl, ?_, ?_⟩)) hB1 rfl rfl rfl rfl) rfl ?_
   refine AL.p (by exact as1 rfl) rfl ?_
   refine AL.nil ?_
   refine th_n ?_
   refine AC.region ?_
   refine AL.p (by exact mv2 rfl) rfl ?_
   refine AL.p (by exact mv1 rfl) rfl ?_
   refine AL.p (by exact mv1 rfl) rfl ?_
   refine AL.p (by exact mv3 rfl) rfl ?_
   refine AL.q (by exact h_litF rfl rfl rfl rfl rfl rfl rfl rfl) rfl ?_
   refine AL.q (by exact h_fun (cs := [0]) en_among rfl rfl (by repeat (first | exact rfl | exact DLead.same | refine ⟨_, _, rfl, ?_, ?_⟩ | refine ⟨_, rfl, ?_⟩)) (by repeat (first | exact True.intro | refine And.intro ?_ ?_ | exact DLead.same | exact rfl | refine ⟨_, _, rfl, rfl, ?_⟩ | refine ⟨_, rfl, ?_⟩ | refine ⟨_, _, rfl, ?_, ?_⟩)) hB2 rfl rfl rfl rfl) rfl ?_
   refine AL.p (by exact g_arith rfl rfl rfl (by exact wrap_i64 (by omega))) rfl ?_
   refine AL.p (by exact g_build rfl rfl rfl) rfl ?_
   refine AL.q (by exact h_litF rfl rfl rfl rfl rfl rfl rfl rfl) rfl ?_
   refine AL.q (by exact h_appendD acc [⟨lo, lo + ga⟩] (.own rfl rfl (dlL_len _).symm) (.view rfl) (by rw [List.length_append]; simp only [List.length_cons, List.length_nil]; omega) (by simp)) rfl ?_
   refine AL.p (by exact as2 rfl) rfl ?_
   refine AL.nil ?_
   refine ib_n ?_
   refine th_n ?_
   refine AC.region ?_
   refine AL.p (by exact g_arith rfl rfl rfl (by exact wrap_i64 (by omega))) rfl ?_
   refine AL.p (by exact mv1 rfl) rfl ?_
   refine AL.nil ?_
   refine th_n ?_
   exact ⟨(k + 1, ((cc.pick 5).2.pick 4).2, acc ++ [⟨lo, lo + ga⟩]), ⟨by omega, hrun, by rw [List.length_append]; simp only [List.length_cons, List.length_nil]; omega, by dsimp only; omega⟩, by dsimp only; omega, Weak.ren _ [(100, _)] hC rfl (by repeat (first | exact True.intro | refine And.intro ?_ ?_ | exact DLead.same | exact rfl | refine ⟨_, rfl, ?_⟩)) (by repeat (first | exact True.intro | refine And.intro ?_ ?_ | exact DLead.same | exact rfl | refine ⟨_, _, rfl, rfl, ?_⟩ | refine ⟨_, rfl, ?_⟩ | refine ⟨_, _, rfl, ?_, ?_⟩)) rfl rfl rfl⟩
  ·refine AC.exit ?_
   refine th_e ?_
   refine th_e ?_
   refine ib_y ?_
   refine th_n ?_
   refine AC.cut (fun (x : List Dl × Cur) => ⟨60, 900, [(5, .d (vDls x.1))], [(0, some (curC x.2))]⟩) (fun x => x = Z) ?_ ?_
   ·refine AC.seq ?_
    have hkk : s.net.ts.length - k = 0 := by omega
    rw [hkk, dlyN] at hrun
    obtain ⟨e1, e2⟩ : acc = r.1 ∧ cc = r.2 := by rw [← hrun]; exact ⟨rfl, rfl⟩
    subst e1 e2
    refine AC.region ?_
    refine AL.p (by exact mv2 rfl) rfl ?_
    refine AL.p (by exact g_len_own (sz := 1) (els := []) (e' := 0) rfl rfl (by simp only [maxLen]; omega)) rfl ?_
    refine AL.p (by exact g_cmp rfl rfl rfl) rfl ?_
    refine AL.nil ?_
    refine th_n ?_
    refine AC.condD rfl (fun h1 => ?_) (fun h1 => ?_)
    ·refine AC.seq ?_
     have hEy := hE.trans (if_pos (by omega))
     rw [hT] at hEy
     have hii := hKi (by omega)
     have hI2 : i.1 = ((i.1.toNat : Nat) : Int) := by omega
     have hlt : i.1.toNat < r.1.length := by omega
     have hrow := dlL_get hlt
     have hs1 : (dlL r.1).set i.1.toNat ([dI (dAt r.1 i.1.toNat).low, dI (dAt r.1 i.1.toNat).high].set 0 (dI (badLow q.2))) = dlL (r.1.set i.1.toNat ⟨badLow q.2, (dAt r.1 i.1.toNat).high⟩) := dlL_set _ _ ⟨badLow q.2, (dAt r.1 i.1.toNat).high⟩
     have hs2 : (dlL r.1).set i.1.toNat ([dI (dAt r.1 i.1.toNat).low, dI (dAt r.1 i.1.toNat).high].set 1 (dI (badHigh q.2))) = dlL (r.1.set i.1.toNat ⟨(dAt r.1 i.1.toNat).low, badHigh q.2⟩) := dlL_set _ _ ⟨(dAt r.1 i.1.toNat).low, badHigh q.2⟩
     refine AC.region ?_
     refine AL.p (by exact mv2 rfl) rfl ?_
     refine AL.p (by exact mv3 rfl) rfl ?_
     refine AL.p (by exact mv2 rfl) rfl ?_
     refine AL.p (by exact g_len_own (sz := 1) (els := []) (e' := 0) rfl rfl (by simp only [maxLen]; omega)) rfl ?_
     refine AL.q (by exact h_fun (cs := [0]) en_pick rfl rfl (by repeat (first | exact rfl | exact DLead.same | refine ⟨_, _, rfl, ?_, ?_⟩ | refine ⟨_, rfl, ?_⟩)) (by repeat (first | exact True.intro | refine And.intro ?_ ?_ | exact DLead.same | exact rfl | refine ⟨_, _, rfl, rfl, ?_⟩ | refine ⟨_, rfl, ?_⟩ | refine ⟨_, _, rfl, ?_, ?_⟩)) hK1 rfl rfl rfl rfl) rfl ?_
     refine AL.p (by exact g_ia_own (i := i.1.toNat) (l := r.1.length) rfl rfl rfl rfl rfl hI2 hlt rfl) rfl ?_
     refine AL.p (by exact as3 rfl) rfl ?_
     refine AL.nil ?_
     refine th_n ?_
     refine AC.seq ?_
     refine AC.region ?_
     refine AL.p (by exact mv3 rfl) rfl ?_
     refine AL.q (by exact h_fun (cs := [0]) en_pick rfl rfl (by repeat (first | exact rfl | exact DLead.same | refine ⟨_, _, rfl, ?_, ?_⟩ | refine ⟨_, rfl, ?_⟩)) (by repeat (first | exact True.intro | refine And.intro ?_ ?_ | exact DLead.same | exact rfl | refine ⟨_, _, rfl, rfl, ?_⟩ | refine ⟨_, rfl, ?_⟩ | refine ⟨_, _, rfl, ?_, ?_⟩)) hK2 rfl rfl rfl rfl) rfl ?_
     refine AL.nil ?_
     refine th_n ?_
     refine AC.block ?_
     refine AC.seq ?_
     refine AC.region ?_
     refine AL.p (by exact g_cmp rfl rfl rfl) rfl ?_
     refine AL.p (by exact as1 rfl) rfl ?_
     refine AL.nil ?_
     refine th_n ?_
     refine AC.condD rfl (fun h2 => ?_) (fun h2 => ?_)
     ·refine AC.region ?_
      refine AL.p (by exact mv3 rfl) rfl ?_
      refine AL.p (by exact mv3 rfl) rfl ?_
      refine AL.q (by exact h_litF rfl rfl rfl rfl rfl rfl rfl rfl) rfl ?_
      refine AL.q (by exact h_fun (cs := [0]) en_among rfl rfl (by repeat (first | exact rfl | exact DLead.same | refine ⟨_, _, rfl, ?_, ?_⟩ | refine ⟨_, rfl, ?_⟩)) (by repeat (first | exact True.intro | refine And.intro ?_ ?_ | exact DLead.same | exact rfl | refine ⟨_, _, rfl, rfl, ?_⟩ | refine ⟨_, rfl, ?_⟩ | refine ⟨_, _, rfl, ?_, ?_⟩)) hA1 rfl rfl rfl rfl) rfl ?_
      refine AL.p (by exact g_nilP rfl) rfl ?_
      refine AL.p (by exact g_fa_ptr rfl rfl rfl rfl rfl) rfl ?_
      refine AL.q (by exact h_store_arr (i := i.1.toNat) (j := 0) (d := dI (badLow q.2)) rfl rfl rfl rfl .same rfl hrow (by decide)) rfl ?_
      rw [hs1]
      refine AL.nil ?_
      refine ib_n ?_
      refine th_n ?_
      (have e : Z = (r.1.set i.1.toNat ⟨badLow q.2, (dAt r.1 i.1.toNat).high⟩, (q.2.pick 3).2) := hEy.trans (if_pos h2); exact ⟨Z, rfl, (Weak.freeze (i := 5) (els' := dlL (r.1.set i.1.toNat ⟨badLow q.2, (dAt r.1 i.1.toNat).high⟩)) rfl rfl (by rw [dlL_len, List.length_set]; exact Nat.le_refl _) (List.take_of_length_le (by rw [dlL_len, List.length_set]; exact Nat.le_refl _))).trans (Weak.ren _ [] hC rfl (by rw [e]; repeat (first | exact True.intro | refine And.intro ?_ ?_ | exact DLead.same)) (by rw [e]; repeat (first | exact True.intro | refine And.intro ?_ ?_ | exact DLead.same | exact rfl | refine ⟨_, _, rfl, rfl, ?_⟩ | refine ⟨_, rfl, ?_⟩ | refine ⟨_, _, rfl, ?_, ?_⟩)) rfl rfl rfl)⟩)
     ·refine AC.seq ?_
      refine AC.region ?_
      refine AL.p (by exact g_cmp rfl rfl rfl) rfl ?_
      refine AL.p (by exact as1 rfl) rfl ?_
      refine AL.nil ?_
      refine th_n ?_
      refine AC.condD rfl (fun h3 => ?_) (fun h3 => ?_)
      ·refine AC.region ?_
       refine AL.p (by exact mv3 rfl) rfl ?_
       refine AL.p (by exact mv3 rfl) rfl ?_
       refine AL.q (by exact h_litF rfl rfl rfl rfl rfl rfl rfl rfl) rfl ?_
       refine AL.q (by exact h_fun (cs := [0]) en_among rfl rfl (by repeat (first | exact rfl | exact DLead.same | refine ⟨_, _, rfl, ?_, ?_⟩ | refine ⟨_, rfl, ?_⟩)) (by repeat (first | exact True.intro | refine And.intro ?_ ?_ | exact DLead.same | exact rfl | refine ⟨_, _, rfl, rfl, ?_⟩ | refine ⟨_, rfl, ?_⟩ | refine ⟨_, _, rfl, ?_, ?_⟩)) hA2 rfl rfl rfl rfl) rfl ?_
       refine AL.p (by exact g_nilP rfl) rfl ?_
       refine AL.p (by exact g_fa_ptr rfl rfl rfl rfl rfl) rfl ?_
       refine AL.q (by exact h_store_arr (i := i.1.toNat) (j := 1) (d := dI (badHigh q.2)) rfl rfl rfl rfl .same rfl hrow (by decide)) rfl ?_
       rw [hs2]
       refine AL.nil ?_
       refine ib_n ?_
       refine th_n ?_
       (have e : Z = (r.1.set i.1.toNat ⟨(dAt r.1 i.1.toNat).low, badHigh q.2⟩, (q.2.pick 3).2) := hEy.trans ((if_neg h2).trans (if_pos h3)); exact ⟨Z, rfl, (Weak.freeze (i := 5) (els' := dlL (r.1.set i.1.toNat ⟨(dAt r.1 i.1.toNat).low, badHigh q.2⟩)) rfl rfl (by rw [dlL_len, List.length_set]; exact Nat.le_refl _) (List.take_of_length_le (by rw [dlL_len, List.length_set]; exact Nat.le_refl _))).trans (Weak.ren _ [] hC rfl (by rw [e]; repeat (first | exact True.intro | refine And.intro ?_ ?_ | exact DLead.same)) (by rw [e]; repeat (first | exact True.intro | refine And.intro ?_ ?_ | exact DLead.same | exact rfl | refine ⟨_, _, rfl, rfl, ?_⟩ | refine ⟨_, rfl, ?_⟩ | refine ⟨_, _, rfl, ?_, ?_⟩)) rfl rfl rfl)⟩)
      ·refine AC.seq ?_
       refine AC.region ?_
       refine AL.p (by exact g_cmp rfl rfl rfl) rfl ?_
       refine AL.p (by exact as1 rfl) rfl ?_
       refine AL.nil ?_
       refine th_n ?_
       refine AC.condD rfl (fun h4 => ?_) (fun h4 => ?_)
       ·refine AC.region ?_
        refine AL.p (by exact mv2 rfl) rfl ?_
        refine AL.weak (Weak.freeze (i := 57) rfl rfl (ownl _ _) (ownt _ _)) ?_
        refine AL.p (by exact g_slice_view (r := dlL (r.1.drop 1)) (l := 1) (h := (dlL r.1).length) rfl rfl rfl rfl (.some rfl rfl) .none (by rw [dlL_len]; omega) (Nat.le_refl _) (by rw [List.take_length]; exact (List.map_drop ..).symm)) rfl ?_
        refine AL.p (by exact as1 rfl) rfl ?_
        refine AL.nil ?_
        refine ib_n ?_
        refine th_n ?_
        (have e : Z = (r.1.drop 1, q.2) := hEy.trans ((if_neg h2).trans ((if_neg h3).trans (if_pos h4))); exact ⟨Z, rfl, Weak.ren _ [] hC rfl (by rw [e]; repeat (first | exact True.intro | refine And.intro ?_ ?_ | exact DLead.same)) (by rw [e]; repeat (first | exact True.intro | refine And.intro ?_ ?_ | exact DLead.same | exact rfl | refine ⟨_, _, rfl, rfl, ?_⟩ | refine ⟨_, rfl, ?_⟩ | refine ⟨_, _, rfl, ?_, ?_⟩)) rfl rfl rfl⟩)
       ·refine AC.skip ?_
        refine ib_n ?_
        refine th_n ?_
        (have e : Z = (r.1, q.2) := hEy.trans ((if_neg h2).trans ((if_neg h3).trans (if_neg h4))); exact ⟨Z, rfl, (Weak.freeze (i := 5) rfl rfl (ownl _ _) (ownt _ _)).trans (Weak.ren _ [] hC rfl (by rw [e]; repeat (first | exact True.intro | refine And.intro ?_ ?_ | exact DLead.same)) (by rw [e]; repeat (first | exact True.intro | refine And.intro ?_ ?_ | exact DLead.same | exact rfl | refine ⟨_, _, rfl, rfl, ?_⟩ | refine ⟨_, rfl, ?_⟩ | refine ⟨_, _, rfl, ?_, ?_⟩)) rfl rfl rfl)⟩)
    ·refine AC.skip ?_
     refine th_n ?_
     (have e : Z = r := hE.trans (if_neg (by omega)); exact ⟨Z, rfl, (Weak.freeze (i := 5) rfl rfl (ownl _ _) (ownt _ _)).trans (Weak.ren _ [] hC rfl (by rw [e]; repeat (first | exact True.intro | refine And.intro ?_ ?_ | exact DLead.same)) (by rw [e]; repeat (first | exact True.intro | refine And.intro ?_ ?_ | exact DLead.same | exact rfl | refine ⟨_, _, rfl, rfl, ?_⟩ | refine ⟨_, rfl, ?_⟩ | refine ⟨_, _, rfl, ?_, ?_⟩)) rfl rfl rfl)⟩)
   ·rintro x rfl
    refine AC.seq ?_
    refine AC.region ?_
    refine AL.p (by exact mv1 rfl) rfl ?_
    refine AL.p (by exact as1 rfl) rfl ?_
    refine AL.nil ?_
    refine th_n ?_
    refine AC.ret ?_
    refine bq_r ?_
    exact retF rfl (by repeat (exact DLead.same)) (by repeat (first | exact True.intro | refine And.intro ?_ ?_ | exact DLead.same | exact rfl | refine ⟨_, _, rfl, rfl, ?_⟩ | refine ⟨_, rfl, ?_⟩ | refine ⟨_, _, rfl, ?_, ?_⟩)) rfl
theorem en_curDelays : Enters Tryz.prog 20 := enters_of Tryz.func20 rfl rfl
def tfIn (run : List Tf) : Prop := ∀ x, x ∈ run → -100000 ≤ x.tm ∧ x.tm ≤ 100000 ∧ -100000 ≤ x.t ∧ x.t ≤ 100000
theorem runQ_in {N : Net} {l : List Dl} (hd : Dok l N.ts.length) (hgn : N.ts.length ≤ 100) : ∀ (ds : List Int) (c : Ck) (acc : List Tf) (T : Int), CkI N c T → 0 ≤ T → T + 100 * ds.length ≤ 20000 → (∀ d, d ∈ ds → 0 ≤ d ∧ d ≤ 999) → tfIn acc → tfIn (runQ N l ds c acc).1
 | [], c, acc, T, hI, h0, hT, hds, ha => ha
 | d :: ds, c, acc, T, hI, h0, hT, hds, ha => by
  have hdr := hds d (List.mem_cons_self ..)
  simp only [List.length_cons] at hT
  rw [runQ]
  split
  ·rename_i hok
   have hI2 := stepQ_I hI hd (by omega) hdr
   refine runQ_in hd hgn ds _ _ (T + 100) hI2 (by omega) (by omega) (fun x hx => hds x (List.mem_cons_of_mem _ hx)) (fun x hx => ?_)
   rcases List.mem_append.1 hx with hx | hx
   ·exact ha x hx
   ·rw [List.mem_singleton] at hx
    subst hx
    unfold stepQ at hok ⊢
    split at hok
    ·cases hok
    ·rename_i hne
     rw [if_neg hne]
     obtain ⟨u, h1, h2, h3, h4, h5, _⟩ := stepT_in (hI.B hd (by omega)) hdr hne
     have h6 := lsN_le hI hd (by omega) c.since.length (by rw [hI.len]; exact Nat.le_refl _)
     have h7 := hI.n
     have h8 : c.now ≤ earI c l u := Int.le_max_right ..
     have h9 := hI.len
     dsimp only
     omega
  ·exact ha
theorem simR_in {s : Stg} {l : List Dl} {ds : List Int} (hB : StgB s) : tfIn (simR s l ds).1 ∧ (simR s l ds).1.length ≤ 60 := by
 unfold simR
 split
 ·rename_i h
  simp only [simOk, Bool.and_eq_true, Bool.not_eq_true', decide_eq_false_iff_not] at h
  obtain ⟨hg, hd⟩ := Dok.of h.1
  have h2 := goodS_few hg
  have h3 := (goodS_bits hg).2.2
  refine ⟨runQ_in hd (by omega) ds _ _ 0 (newK_I hg) (by omega) (by omega) (drawsB_in h.2.2) (fun x hx => (by cases hx)), ?_⟩
  have := runQ_len s.net l ds (newK s) []
  simp only [List.length_nil] at this
  dsimp only
  omega
 ·exact ⟨fun x hx => (by cases hx), Nat.zero_le _⟩
set_option maxHeartbeats 2000000 in
theorem sDrawSim_ex (code : List UInt8) : ∃ (s : Stg) (l : List Dl) (ds : List Int), StgS s ∧ (l.length ≤ 20 ∧ dlIn l) ∧ ds.length ≤ 20 ∧ ASpec Tryz.prog 4 [.d (vB code)] [] (Pure1 (.tup [stgA s, .d (vDls l), .d (vI ds)])) := by
 have hp0 : (cur0 code).pos = 0 := rfl
 have hA := anyStg_spec (cur0 code) (by omega)
 have hi := anyI_in (cur0 code)
 obtain ⟨A, hAA⟩ : ∃ A, A = anyI (cur0 code) := ⟨_, rfl⟩
 rw [← hAA] at hA hi
 have htl := hi.1.tl
 have hD := curDelays_spec A.1 A.2 (by omega) (by omega)
 have hDi := dlyI_in A.1.net.ts.length A.2
 obtain ⟨D, hDD⟩ : ∃ D, D = dlyI A.1.net.ts.length A.2 := ⟨_, rfl⟩
 rw [← hDD] at hD hDi
 have hR := curDraws_spec D.2 (by omega)
 have hRi := drwI_in D.2
 obtain ⟨R, hRR⟩ : ∃ R, R = drwI D.2 := ⟨_, rfl⟩
 rw [← hRR] at hR hRi
 refine ⟨A.1, D.1, R.1, hi.1, ⟨by omega, hDi.2.1⟩, hRi.1, ?_⟩
 refine ASpec.of Tryz.func4 rfl rfl fun C hC => ?_
 refine AC.seq ?_
 refine AC.region ?_
 refine AL.q (by exact h_alloc rfl) rfl ?_
 refine AL.p (by exact as1 rfl) rfl ?_
 refine AL.p (by exact as1 rfl) rfl ?_
 refine AL.nil ?_
 refine th_n ?_
 refine AC.seq ?_
 refine AC.region ?_
 refine AL.p (by exact mv1 rfl) rfl ?_
 refine AL.p (by exact g_build rfl rfl rfl) rfl ?_
 refine AL.q (by exact h_box rfl) rfl ?_
 refine AL.p (by exact as3 rfl) rfl ?_
 refine AL.nil ?_
 refine th_n ?_
 refine AC.seq ?_
 refine AC.region ?_
 refine AL.p (by exact mv3 rfl) rfl ?_
 refine AL.q (by exact h_fun (cs := [8]) en_anyStg rfl rfl (by repeat (first | exact rfl | refine ⟨_, _, rfl, ?_, ?_⟩ | refine ⟨_, rfl, ?_⟩)) (by repeat (first | exact True.intro | refine And.intro ?_ ?_ | exact DLead.same | exact rfl | refine ⟨_, _, rfl, rfl, ?_⟩ | refine ⟨_, rfl, ?_⟩ | refine ⟨_, _, rfl, ?_, ?_⟩)) hA rfl rfl rfl rfl) rfl ?_
 refine AL.weak (Weak.freezeA (i := 12) (k := 2) rfl rfl rfl (ownl _ _) (ownt _ _)) ?_
 refine AL.q (by exact h_alloc rfl) rfl ?_
 refine AL.q (by exact h_store rfl rfl rfl rfl rfl rfl) rfl ?_
 refine AL.nil ?_
 refine th_n ?_
 refine AC.seq ?_
 refine AC.region ?_
 refine AL.p (by exact mv3 rfl) rfl ?_
 refine AL.p (by exact g_load_ptrN rfl rfl rfl rfl rfl) rfl ?_
 refine AL.q (by exact h_fun (cs := [8]) en_curDelays rfl rfl (by repeat (first | exact rfl | exact DLead.same | refine ⟨_, _, rfl, ?_, ?_⟩ | refine ⟨_, rfl, ?_⟩)) (by repeat (first | exact True.intro | refine And.intro ?_ ?_ | exact DLead.same | exact rfl | refine ⟨_, _, rfl, rfl, ?_⟩ | refine ⟨_, rfl, ?_⟩ | refine ⟨_, _, rfl, ?_, ?_⟩)) hD rfl rfl rfl rfl) rfl ?_
 refine AL.p (by exact as1 rfl) rfl ?_
 refine AL.nil ?_
 refine th_n ?_
 refine AC.seq ?_
 refine AC.drawn' mixed_ok [[], [], [], [2], [0,2,3], [0,1,2,3,4], [0,1,2,3,4,5]] (by decide) ?_
 refine DF.op 0 [] 7 rfl rfl rfl (.free rfl (NOp.of (by exact g_load_ptrN rfl rfl rfl rfl rfl))) rfl ?_
 refine DF.op 1 [] 7 rfl rfl rfl (.free rfl (NOp.of (by exact mv1 rfl))) rfl ?_
 refine DF.op 2 [] 7 rfl rfl rfl (.free rfl (NOp.of (by exact mv3 rfl))) rfl ?_
 refine DF.op 3 [2] 7 rfl rfl rfl (.free rfl (by exact h_fun (cs := [8]) en_curDraws rfl rfl (by repeat (first | exact rfl | refine ⟨_, _, rfl, ?_, ?_⟩ | refine ⟨_, rfl, ?_⟩)) (by repeat (first | exact True.intro | refine And.intro ?_ ?_ | exact DLead.same | exact rfl | refine ⟨_, _, rfl, rfl, ?_⟩ | refine ⟨_, rfl, ?_⟩ | refine ⟨_, _, rfl, ?_, ?_⟩)) hR rfl rfl rfl rfl)) rfl ?_
 refine DF.op 4 [0,2,3] 7 rfl rfl rfl (.free rfl (by exact h_store rfl rfl rfl rfl rfl rfl)) rfl ?_
 refine DF.op 5 [0,1,2,3,4] 7 rfl rfl rfl (.free rfl (NOp.of (by exact as1 rfl))) rfl ?_
 refine DF.op 6 [0,1,2,3,4,5] 7 rfl rfl rfl (.free rfl (NOp.of (by exact as1 rfl))) rfl ?_
 refine DF.fin (ps := [(0,1),(0,2),(0,3),(1,0),(1,2),(1,3),(1,4),(2,0),(2,1),(3,0),(3,1),(4,1)]) 7 rfl (by decide +kernel) (by decide +kernel) (by rfl) ?_
 refine th_n ?_
 refine AC.ret ?_
 refine bq_r ?_
 exact ret0 rfl (by repeat (first | exact DLead.same | exact rfl | refine ⟨_, rfl, ?_⟩ | refine ⟨_, _, rfl, ?_, ?_⟩))
theorem en_sDrawSim : Enters Tryz.prog 4 := enters_of Tryz.func4 rfl rfl
theorem tfL_set (l : List Tf) (i : Nat) (x : Tf) : (tfL l).set i (tfD x) = tfL (l.set i x) := by unfold tfL; rw [List.map_set]
set_option maxHeartbeats 8000000 in
theorem sDrawTR_ex (code : List UInt8) : ∃ (s : Stg) (l : List Dl) (run : List Tf), StgS s ∧ (l.length ≤ 20 ∧ dlIn l) ∧ (run.length ≤ 60 ∧ ∀ x, x ∈ run → -1000000 ≤ x.tm ∧ x.tm ≤ 1000000 ∧ -1000000 ≤ x.t ∧ x.t ≤ 1000000) ∧ ASpec Tryz.prog 7 [.d (vB code)] [] (Pure1 (.tup [stgA s, .d (vDls l), .d (vTfs run)])) := by
 have hp0 : (cur0 code).pos = 0 := rfl
 have hA := anyStg_spec (cur0 code) (by omega)
 have hi := anyI_in (cur0 code)
 obtain ⟨A, hAA⟩ : ∃ A, A = anyI (cur0 code) := ⟨_, rfl⟩
 rw [← hAA] at hA hi
 have htl := hi.1.tl
 have hD := curDelays_spec A.1 A.2 (by omega) (by omega)
 have hDi := dlyI_in A.1.net.ts.length A.2
 obtain ⟨D, hDD⟩ : ∃ D, D = dlyI A.1.net.ts.length A.2 := ⟨_, rfl⟩
 rw [← hDD] at hD hDi
 have hR := curDraws_spec D.2 (by omega)
 have hRi := drwI_in D.2
 obtain ⟨R, hRR⟩ : ∃ R, R = drwI D.2 := ⟨_, rfl⟩
 rw [← hRR] at hR hRi
 have hS := sSim_spec A.1 D.1 R.1 hi.1.B ⟨by omega, fun x hx => by have := hDi.2.1 x hx; omega⟩ (by omega)
 have hSi := simR_in (s := A.1) (l := D.1) (ds := R.1) hi.1.B
 obtain ⟨S, hSS⟩ : ∃ S, S = simR A.1 D.1 R.1 := ⟨_, rfl⟩
 rw [← hSS] at hS hSi
 obtain ⟨run, m, ok⟩ := S
 dsimp only at hS hSi
 have hK1 := pick_spec R.2 run.length (by omega) (by omega)
 have hKi : 0 < run.length → 0 ≤ (R.2.pick run.length).1 ∧ (R.2.pick run.length).1 < run.length := fun h => R.2.pick_in run.length (by omega)
 have p1 := R.2.pick_pos run.length
 obtain ⟨i, hiE⟩ : ∃ i, i = R.2.pick run.length := ⟨_, rfl⟩
 rw [← hiE] at hK1 hKi p1
 have p2 := i.2.pick_pos 5
 have hK2 := pick_spec i.2 5 (by decide) (by omega)
 obtain ⟨q, hq⟩ : ∃ q, q = i.2.pick 5 := ⟨_, rfl⟩
 rw [← hq] at p2 hK2
 have hA1 := among_spec q.2 [1, -1, 30] (by decide) (by decide) (by omega)
 have hK3 := pick_spec q.2 9 (by decide) (by omega)
 have h9 := q.2.pick_in 9 (by decide)
 have ham : -1 ≤ ([1, -1, 30] : List Int).getD (q.2.pick ([1, -1, 30] : List Int).length).1.toNat 0 ∧ ([1, -1, 30] : List Int).getD (q.2.pick ([1, -1, 30] : List Int).length).1.toNat 0 ≤ 30 := getD_bd (by decide) (by decide) _
 obtain ⟨am, hamE⟩ : ∃ am, am = ([1, -1, 30] : List Int).getD (q.2.pick ([1, -1, 30] : List Int).length).1.toNat 0 := ⟨_, rfl⟩
 rw [← hamE] at ham hA1
 obtain ⟨out, hout⟩ : ∃ out : List Tf, out = if 0 < run.length then (if q.1 = 0 then run.set i.1.toNat ⟨(fAt run i.1.toNat).tm + am, (fAt run i.1.toNat).t⟩ else if q.1 = 1 then run.set i.1.toNat ⟨(fAt run i.1.toNat).tm, (q.2.pick 9).1 - 1⟩ else run) else run := ⟨_, rfl⟩
 have hfi : -100000 ≤ (fAt run i.1.toNat).tm ∧ (fAt run i.1.toNat).tm ≤ 100000 ∧ -100000 ≤ (fAt run i.1.toNat).t ∧ (fAt run i.1.toNat).t ≤ 100000 := by
  unfold fAt
  rw [List.getD_eq_getElem?_getD]
  cases e : run[i.1.toNat]? with
  | none => decide
  | some x => exact hSi.1 x (List.mem_of_getElem? e)
 have hoi : out.length = run.length ∧ ∀ x, x ∈ out → -1000000 ≤ x.tm ∧ x.tm ≤ 1000000 ∧ -1000000 ≤ x.t ∧ x.t ≤ 1000000 := by
  have hset : ∀ y : Tf, (-1000000 ≤ y.tm ∧ y.tm ≤ 1000000 ∧ -1000000 ≤ y.t ∧ y.t ≤ 1000000) → (run.set i.1.toNat y).length = run.length ∧ ∀ x, x ∈ run.set i.1.toNat y → -1000000 ≤ x.tm ∧ x.tm ≤ 1000000 ∧ -1000000 ≤ x.t ∧ x.t ≤ 1000000 := fun y hy => ⟨List.length_set .., fun x hx => by
   rcases List.mem_or_eq_of_mem_set hx with hx | rfl
   ·have := hSi.1 x hx; omega
   ·exact hy⟩
  have hrun : run.length = run.length ∧ ∀ x, x ∈ run → -1000000 ≤ x.tm ∧ x.tm ≤ 1000000 ∧ -1000000 ≤ x.t ∧ x.t ≤ 1000000 := ⟨rfl, fun x hx => by have := hSi.1 x hx; omega⟩
  rw [hout]
  split
  ·split
   ·exact hset _ (by dsimp only; omega)
   ·split
    ·exact hset _ (by dsimp only; omega)
    ·exact hrun
  ·exact hrun
 refine ⟨A.1, D.1, out, hi.1, ⟨by omega, hDi.2.1⟩, ⟨by omega, hoi.2⟩, ?_⟩
 have hrl := hSi.2
 refine ASpec.of Tryz.func7 rfl rfl fun C hC => ?_
 refine AC.seq ?_
 refine AC.region ?_
 refine AL.q (by exact h_alloc rfl) rfl ?_
 refine AL.p (by exact as1 rfl) rfl ?_
 refine AL.p (by exact as1 rfl) rfl ?_
 refine AL.nil ?_
 refine th_n ?_
 refine AC.seq ?_
 refine AC.region ?_
 refine AL.p (by exact mv1 rfl) rfl ?_
 refine AL.p (by exact g_build rfl rfl rfl) rfl ?_
 refine AL.q (by exact h_box rfl) rfl ?_
 refine AL.p (by exact as3 rfl) rfl ?_
 refine AL.nil ?_
 refine th_n ?_
 refine AC.seq ?_
 refine AC.region ?_
 refine AL.p (by exact mv3 rfl) rfl ?_
 refine AL.q (by exact h_fun (cs := [8]) en_anyStg rfl rfl (by repeat (first | exact rfl | refine ⟨_, _, rfl, ?_, ?_⟩ | refine ⟨_, rfl, ?_⟩)) (by repeat (first | exact True.intro | refine And.intro ?_ ?_ | exact DLead.same | exact rfl | refine ⟨_, _, rfl, rfl, ?_⟩ | refine ⟨_, rfl, ?_⟩ | refine ⟨_, _, rfl, ?_, ?_⟩)) hA rfl rfl rfl rfl) rfl ?_
 refine AL.weak (Weak.freezeA (i := 16) (k := 2) rfl rfl rfl (ownl _ _) (ownt _ _)) ?_
 refine AL.q (by exact h_alloc rfl) rfl ?_
 refine AL.q (by exact h_store rfl rfl rfl rfl rfl rfl) rfl ?_
 refine AL.nil ?_
 refine th_n ?_
 refine AC.seq ?_
 refine AC.region ?_
 refine AL.p (by exact mv3 rfl) rfl ?_
 refine AL.p (by exact g_load_ptrN rfl rfl rfl rfl rfl) rfl ?_
 refine AL.q (by exact h_fun (cs := [8]) en_curDelays rfl rfl (by repeat (first | exact rfl | exact DLead.same | refine ⟨_, _, rfl, ?_, ?_⟩ | refine ⟨_, rfl, ?_⟩)) (by repeat (first | exact True.intro | refine And.intro ?_ ?_ | exact DLead.same | exact rfl | refine ⟨_, _, rfl, rfl, ?_⟩ | refine ⟨_, rfl, ?_⟩ | refine ⟨_, _, rfl, ?_, ?_⟩)) hD rfl rfl rfl rfl) rfl ?_
 refine AL.p (by exact as1 rfl) rfl ?_
 refine AL.nil ?_
 refine th_n ?_
 refine AC.cut (fun (_ : Unit) => ⟨63, 600, [(2, .ptr 200 0), (5, .ptr 202 0), (6, .ptr 201 0), (7, .d (vDls D.1)), (8, .own 100 run.length)], [(200, some (.cells 29 zStg)), (201, some (.cells 29 [aI A.1.net.places, .d (vTs A.1.net.ts), .d (vSigs A.1.sigs), .d (vLabs A.1.labs), aS (bstr A.1.start)])), (202, some (curC R.2)), (100, some (.arr 49 2 (tfL run)))]⟩) (fun _ => True) ?_ ?_
 ·refine AC.drawn' mixed_ok [[], [], [], [2], [0,1,2,3], [0,1,2,3,4], [0,1,2,3,4,5], [0,1,2,3,4,5], [0,1,2,3,4,5], [0,1,2,3,4,5,6], [0,1,2,3,4,5,6,7,9], [0,1,2,3,4,5,6,7,8,9,10]] (by decide) ?_
  refine DF.op 0 [] 12 rfl rfl rfl (.free rfl (NOp.of (by exact g_load_ptrN rfl rfl rfl rfl rfl))) rfl ?_
  refine DF.op 1 [] 12 rfl rfl rfl (.free rfl (NOp.of (by exact mv1 rfl))) rfl ?_
  refine DF.op 2 [] 12 rfl rfl rfl (.free rfl (NOp.of (by exact mv3 rfl))) rfl ?_
  refine DF.op 3 [2] 12 rfl rfl rfl (.free rfl (by exact h_fun (cs := [8]) en_curDraws rfl rfl (by repeat (first | exact rfl | refine ⟨_, _, rfl, ?_, ?_⟩ | refine ⟨_, rfl, ?_⟩)) (by repeat (first | exact True.intro | refine And.intro ?_ ?_ | exact DLead.same | exact rfl | refine ⟨_, _, rfl, rfl, ?_⟩ | refine ⟨_, rfl, ?_⟩ | refine ⟨_, _, rfl, ?_, ?_⟩)) hR rfl rfl rfl rfl)) rfl ?_
  refine DF.op 4 [0,1,2,3] 12 rfl rfl rfl (.free rfl (by exact h_fun (cs := []) en_sSim rfl rfl (by repeat (first | exact rfl | exact DLead.same | refine ⟨_, _, rfl, ?_, ?_⟩ | refine ⟨_, rfl, ?_⟩)) (by repeat (exact True.intro)) hS rfl rfl rfl rfl)) rfl ?_
  refine DF.op 5 [0,1,2,3,4] 12 rfl rfl rfl (.free rfl (NOp.of (by exact mv5 rfl))) rfl ?_
  refine DF.op 6 [0,1,2,3,4,5] 12 rfl rfl rfl (.free rfl (NOp.of (by exact g_extract (r := .own _ _) rfl rfl))) rfl ?_
  refine DF.op 7 [0,1,2,3,4,5] 12 rfl rfl rfl (.free rfl (NOp.of (by exact g_extract (r := .d _) rfl rfl))) rfl ?_
  refine DF.op 8 [0,1,2,3,4,5] 12 rfl rfl rfl (.free rfl (NOp.of (by exact g_extract (r := .d _) rfl rfl))) rfl ?_
  refine DF.op 9 [0,1,2,3,4,5,6] 12 rfl rfl rfl (.free rfl (NOp.of (by exact as2 rfl))) rfl ?_
  refine DF.op 10 [0,1,2,3,4,5,6,7,9] 12 rfl rfl rfl (.free rfl (NOp.of (by exact as1 rfl))) rfl ?_
  refine DF.op 11 [0,1,2,3,4,5,6,7,8,9,10] 12 rfl rfl rfl (.free rfl (NOp.of (by exact as1 rfl))) rfl ?_
  refine DF.fin (ps := [(0,1),(0,2),(0,3),(1,0),(1,2),(1,3),(2,0),(2,1),(3,0),(3,1),(6,7),(6,8),(7,6),(7,8),(7,9),(8,6),(8,7),(8,9),(8,10),(9,7),(9,8),(10,8)]) 12 rfl (by decide +kernel) (by decide +kernel) (by rfl) ?_
  refine th_n ?_
  exact ⟨(), trivial, Weak.ren _ [(200, 0), (201, _), (202, 8), (100, _)] hC rfl (by repeat (first | exact True.intro | refine And.intro ?_ ?_ | exact DLead.same | exact rfl | refine ⟨_, rfl, ?_⟩)) (by repeat (first | exact True.intro | refine And.intro ?_ ?_ | exact DLead.same | exact rfl | refine ⟨_, _, rfl, rfl, ?_⟩ | refine ⟨_, rfl, ?_⟩ | refine ⟨_, _, rfl, ?_, ?_⟩)) rfl rfl rfl⟩
 ·intro _ _
  refine AC.cut (fun (_ : Unit) => ⟨63, 900, [(2, .ptr 200 0), (6, .ptr 201 0), (7, .d (vDls D.1)), (8, .own 100 out.length)], [(200, some (.cells 29 zStg)), (201, some (.cells 29 [aI A.1.net.places, .d (vTs A.1.net.ts), .d (vSigs A.1.sigs), .d (vLabs A.1.labs), aS (bstr A.1.start)])), (100, some (.arr 49 2 (tfL out)))]⟩) (fun _ => True) ?_ ?_
  ·refine AC.seq ?_
   refine AC.region ?_
   refine AL.p (by exact mv2 rfl) rfl ?_
   refine AL.p (by exact g_len_own (sz := 1) (els := []) (e' := 0) rfl rfl (by simp only [maxLen]; omega)) rfl ?_
   refine AL.p (by exact g_cmp rfl rfl rfl) rfl ?_
   refine AL.nil ?_
   refine th_n ?_
   refine AC.condD rfl (fun h0 => ?_) (fun h0 => ?_)
   ·refine AC.seq ?_
    have hii := hKi (by omega)
    have hI2 : i.1 = ((i.1.toNat : Nat) : Int) := by omega
    have hlt : i.1.toNat < run.length := by omega
    have hrow := tfLA_get hlt
    have hoy := hout.trans (if_pos (by omega))
    have hs1 : (tfL run).set i.1.toNat ([dI (fAt run i.1.toNat).tm, dI (fAt run i.1.toNat).t].set 0 (dI ((fAt run i.1.toNat).tm + am))) = tfL (run.set i.1.toNat ⟨(fAt run i.1.toNat).tm + am, (fAt run i.1.toNat).t⟩) := tfL_set _ _ ⟨(fAt run i.1.toNat).tm + am, (fAt run i.1.toNat).t⟩
    have hs2 : (tfL run).set i.1.toNat ([dI (fAt run i.1.toNat).tm, dI (fAt run i.1.toNat).t].set 1 (dI ((q.2.pick 9).1 - 1))) = tfL (run.set i.1.toNat ⟨(fAt run i.1.toNat).tm, (q.2.pick 9).1 - 1⟩) := tfL_set _ _ ⟨(fAt run i.1.toNat).tm, (q.2.pick 9).1 - 1⟩
    refine AC.region ?_
    refine AL.p (by exact mv2 rfl) rfl ?_
    refine AL.p (by exact mv3 rfl) rfl ?_
    refine AL.p (by exact mv2 rfl) rfl ?_
    refine AL.p (by exact g_len_own (sz := 1) (els := []) (e' := 0) rfl rfl (by simp only [maxLen]; omega)) rfl ?_
    refine AL.q (by exact h_fun (cs := [202]) en_pick rfl rfl (by repeat (first | exact rfl | exact DLead.same | refine ⟨_, _, rfl, ?_, ?_⟩ | refine ⟨_, rfl, ?_⟩)) (by repeat (first | exact True.intro | refine And.intro ?_ ?_ | exact DLead.same | exact rfl | refine ⟨_, _, rfl, rfl, ?_⟩ | refine ⟨_, rfl, ?_⟩ | refine ⟨_, _, rfl, ?_, ?_⟩)) hK1 rfl rfl rfl rfl) rfl ?_
    refine AL.p (by exact g_ia_own (i := i.1.toNat) (l := run.length) rfl rfl rfl rfl rfl hI2 hlt rfl) rfl ?_
    refine AL.p (by exact as3 rfl) rfl ?_
    refine AL.nil ?_
    refine th_n ?_
    refine AC.seq ?_
    refine AC.region ?_
    refine AL.p (by exact mv3 rfl) rfl ?_
    refine AL.q (by exact h_fun (cs := [202]) en_pick rfl rfl (by repeat (first | exact rfl | exact DLead.same | refine ⟨_, _, rfl, ?_, ?_⟩ | refine ⟨_, rfl, ?_⟩)) (by repeat (first | exact True.intro | refine And.intro ?_ ?_ | exact DLead.same | exact rfl | refine ⟨_, _, rfl, rfl, ?_⟩ | refine ⟨_, rfl, ?_⟩ | refine ⟨_, _, rfl, ?_, ?_⟩)) hK2 rfl rfl rfl rfl) rfl ?_
    refine AL.nil ?_
    refine th_n ?_
    refine AC.block ?_
    refine AC.seq ?_
    refine AC.region ?_
    refine AL.p (by exact g_cmp rfl rfl rfl) rfl ?_
    refine AL.p (by exact as1 rfl) rfl ?_
    refine AL.nil ?_
    refine th_n ?_
    refine AC.condD rfl (fun h1 => ?_) (fun h1 => ?_)
    ·refine AC.drawn' mixed_ok [[], [0], [0,1], [0,1,2], [], [], [4,5], [0,1,2,3,4,5,6], [0,1,2,3,4,5,6,7], [0,1,2,3,4,5,6,7,8], [0,1,2,3,4,5,6,7,8,9]] (by decide) ?_
     refine DF.op 0 [] 11 rfl rfl rfl (.free rfl (NOp.of (by exact mv3 rfl))) rfl ?_
     refine DF.op 1 [0] 11 rfl rfl rfl (.free rfl (NOp.of (by exact g_nilP rfl))) rfl ?_
     refine DF.op 2 [0,1] 11 rfl rfl rfl (.free rfl (NOp.of (by exact g_fa_ptr rfl rfl rfl rfl rfl))) rfl ?_
     refine DF.op 3 [0,1,2] 11 rfl rfl rfl (.free rfl (NOp.of (by exact g_load_arr (i := i.1.toNat) (j := 0) rfl rfl rfl rfl rfl hrow rfl))) rfl ?_
     refine DF.op 4 [] 11 rfl rfl rfl (.free rfl (NOp.of (by exact mv3 rfl))) rfl ?_
     refine DF.op 5 [] 11 rfl rfl rfl (.free rfl (by exact h_litF rfl rfl rfl rfl rfl rfl rfl rfl)) rfl ?_
     refine DF.op 6 [4,5] 11 rfl rfl rfl (.free rfl (by exact h_fun (cs := [202]) en_among rfl rfl (by repeat (first | exact rfl | exact DLead.same | refine ⟨_, _, rfl, ?_, ?_⟩ | refine ⟨_, rfl, ?_⟩)) (by repeat (first | exact True.intro | refine And.intro ?_ ?_ | exact DLead.same | exact rfl | refine ⟨_, _, rfl, rfl, ?_⟩ | refine ⟨_, rfl, ?_⟩ | refine ⟨_, _, rfl, ?_, ?_⟩)) hA1 rfl rfl rfl rfl)) rfl ?_
     refine DF.op 7 [0,1,2,3,4,5,6] 11 rfl rfl rfl (.free rfl (NOp.of (by exact g_arith rfl rfl rfl (by exact wrap_i64 (by omega))))) rfl ?_
     refine DF.op 8 [0,1,2,3,4,5,6,7] 11 rfl rfl rfl (.free rfl (NOp.of (by exact g_nilP rfl))) rfl ?_
     refine DF.op 9 [0,1,2,3,4,5,6,7,8] 11 rfl rfl rfl (.free rfl (NOp.of (by exact g_fa_ptr rfl rfl rfl rfl rfl))) rfl ?_
     refine DF.op 10 [0,1,2,3,4,5,6,7,8,9] 11 rfl rfl rfl (.free rfl (by exact h_store_arr (i := i.1.toNat) (j := 0) (d := dI ((fAt run i.1.toNat).tm + am)) rfl rfl rfl rfl .same rfl hrow (by decide))) rfl ?_
     refine DF.fin (ps := [(0,4),(0,5),(0,6),(1,4),(1,5),(1,6),(2,4),(2,5),(2,6),(3,4),(3,5),(3,6),(4,0),(4,1),(4,2),(4,3),(4,5),(5,0),(5,1),(5,2),(5,3),(5,4),(6,0),(6,1),(6,2),(6,3)]) 11 rfl (by decide +kernel) (by decide +kernel) (by rfl) ?_
     refine ib_n ?_
     refine th_n ?_
     (have e := hoy.trans (if_pos h1); exact ⟨(), trivial, Weak.ren _ [(200, 200), (201, 201), (100, 100)] hC rfl (by rw [hoi.1]; repeat (first | exact True.intro | refine And.intro ?_ ?_ | exact DLead.same | exact rfl | refine ⟨_, rfl, ?_⟩)) (by rw [e, ← hs1]; repeat (first | exact True.intro | refine And.intro ?_ ?_ | exact DLead.same | exact rfl | refine ⟨_, _, rfl, rfl, ?_⟩ | refine ⟨_, rfl, ?_⟩ | refine ⟨_, _, rfl, ?_, ?_⟩)) rfl rfl rfl⟩)
    ·refine AC.seq ?_
     refine AC.region ?_
     refine AL.p (by exact g_cmp rfl rfl rfl) rfl ?_
     refine AL.p (by exact as1 rfl) rfl ?_
     refine AL.nil ?_
     refine th_n ?_
     refine AC.condD rfl (fun h2 => ?_) (fun h2 => ?_)
     ·refine AC.region ?_
      refine AL.p (by exact mv3 rfl) rfl ?_
      refine AL.p (by exact mv3 rfl) rfl ?_
      refine AL.q (by exact h_fun (cs := [202]) en_pick rfl rfl (by repeat (first | exact rfl | exact DLead.same | refine ⟨_, _, rfl, ?_, ?_⟩ | refine ⟨_, rfl, ?_⟩)) (by repeat (first | exact True.intro | refine And.intro ?_ ?_ | exact DLead.same | exact rfl | refine ⟨_, _, rfl, rfl, ?_⟩ | refine ⟨_, rfl, ?_⟩ | refine ⟨_, _, rfl, ?_, ?_⟩)) hK3 rfl rfl rfl rfl) rfl ?_
      refine AL.p (by exact g_arith rfl rfl rfl (by exact wrap_i64 (by omega))) rfl ?_
      refine AL.p (by exact g_nilP rfl) rfl ?_
      refine AL.p (by exact g_fa_ptr rfl rfl rfl rfl rfl) rfl ?_
      refine AL.q (by exact h_store_arr (i := i.1.toNat) (j := 1) (d := dI ((q.2.pick 9).1 - 1)) rfl rfl rfl rfl .same rfl hrow (by decide)) rfl ?_
      refine AL.nil ?_
      refine ib_n ?_
      refine th_n ?_
      (have e := hoy.trans ((if_neg h1).trans (if_pos h2)); exact ⟨(), trivial, Weak.ren _ [(200, 200), (201, 201), (100, 100)] hC rfl (by rw [hoi.1]; repeat (first | exact True.intro | refine And.intro ?_ ?_ | exact DLead.same | exact rfl | refine ⟨_, rfl, ?_⟩)) (by rw [e, ← hs2]; repeat (first | exact True.intro | refine And.intro ?_ ?_ | exact DLead.same | exact rfl | refine ⟨_, _, rfl, rfl, ?_⟩ | refine ⟨_, rfl, ?_⟩ | refine ⟨_, _, rfl, ?_, ?_⟩)) rfl rfl rfl⟩)
     ·refine AC.skip ?_
      refine ib_n ?_
      refine th_n ?_
      (have e := hoy.trans ((if_neg h1).trans (if_neg h2)); exact ⟨(), trivial, Weak.ren _ [(200, 200), (201, 201), (100, 100)] hC rfl (by rw [hoi.1]; repeat (first | exact True.intro | refine And.intro ?_ ?_ | exact DLead.same | exact rfl | refine ⟨_, rfl, ?_⟩)) (by rw [e]; repeat (first | exact True.intro | refine And.intro ?_ ?_ | exact DLead.same | exact rfl | refine ⟨_, _, rfl, rfl, ?_⟩ | refine ⟨_, rfl, ?_⟩ | refine ⟨_, _, rfl, ?_, ?_⟩)) rfl rfl rfl⟩)
   ·refine AC.skip ?_
    refine th_n ?_
    (have e := hout.trans (if_neg (by omega)); exact ⟨(), trivial, Weak.ren _ [(200, 200), (201, 201), (100, 100)] hC rfl (by rw [hoi.1]; repeat (first | exact True.intro | refine And.intro ?_ ?_ | exact DLead.same | exact rfl | refine ⟨_, rfl, ?_⟩)) (by rw [e]; repeat (first | exact True.intro | refine And.intro ?_ ?_ | exact DLead.same | exact rfl | refine ⟨_, _, rfl, rfl, ?_⟩ | refine ⟨_, rfl, ?_⟩ | refine ⟨_, _, rfl, ?_, ?_⟩)) rfl rfl rfl⟩)
  ·intro _ _
   refine AC.seq ?_
   refine AC.region ?_
   refine AL.p (by exact g_load_ptrN rfl rfl rfl rfl rfl) rfl ?_
   refine AL.p (by exact mv1 rfl) rfl ?_
   refine AL.p (by exact mv2 rfl) rfl ?_
   refine AL.q (by exact h_store rfl rfl rfl rfl rfl rfl) rfl ?_
   refine AL.p (by exact as1 rfl) rfl ?_
   refine AL.p (by exact as2 rfl) rfl ?_
   refine AL.nil ?_
   refine th_n ?_
   refine AC.weak (Weak.freeze (i := 4) rfl rfl (ownl _ _) (ownt _ _)) ?_
   refine AC.ret ?_
   refine bq_r ?_
   exact ret0 rfl (by repeat (first | exact DLead.same | exact rfl | refine ⟨_, rfl, ?_⟩ | refine ⟨_, _, rfl, ?_, ?_⟩))
theorem en_sDrawTR : Enters Tryz.prog 7 := enters_of Tryz.func7 rfl rfl
theorem sDrawEnT_ex (code : List UInt8) : ∃ (s : Stg) (run : List Tf), StgS s ∧ (run.length ≤ 60 ∧ ∀ x, x ∈ run → -1000000 ≤ x.tm ∧ x.tm ≤ 1000000 ∧ -1000000 ≤ x.t ∧ x.t ≤ 1000000) ∧ ASpec Tryz.prog 10 [.d (vB code)] [] (Pure1 (.tup [stgA s, .d (vTfs run)])) := by
 obtain ⟨s, l, run, h1, h2, h3, hD⟩ := sDrawTR_ex code
 refine ⟨s, run, h1, h3, ?_⟩
 refine ASpec.of Tryz.func10 rfl rfl fun C hC => ?_
 refine AC.seq ?_
 refine AC.region ?_
 refine AL.q (by exact h_alloc rfl) rfl ?_
 refine AL.p (by exact as1 rfl) rfl ?_
 refine AL.nil ?_
 refine th_n ?_
 refine AC.seq ?_
 refine AC.region ?_
 refine AL.p (by exact mv1 rfl) rfl ?_
 refine AL.q (by exact h_pure en_sDrawTR rfl rfl (by repeat (first | exact rfl | exact DLead.same | refine ⟨_, _, rfl, ?_, ?_⟩)) hD rfl) rfl ?_
 refine AL.p (by exact mv5 rfl) rfl ?_
 refine AL.p (by exact g_extract (r := .agg _) rfl rfl) rfl ?_
 refine AL.p (by exact g_extract (r := .d _) rfl rfl) rfl ?_
 refine AL.p (by exact g_extract (r := .d _) rfl rfl) rfl ?_
 refine AL.q (by exact h_alloc rfl) rfl ?_
 refine AL.q (by exact h_store rfl rfl rfl rfl rfl rfl) rfl ?_
 refine AL.p (by exact as1 rfl) rfl ?_
 refine AL.p (by exact as1 rfl) rfl ?_
 refine AL.nil ?_
 refine th_n ?_
 refine AC.seq ?_
 refine AC.region ?_
 refine AL.p (by exact g_load_ptrN rfl rfl rfl rfl rfl) rfl ?_
 refine AL.p (by exact mv1 rfl) rfl ?_
 refine AL.q (by exact h_store rfl rfl rfl rfl rfl rfl) rfl ?_
 refine AL.p (by exact as1 rfl) rfl ?_
 refine AL.nil ?_
 refine th_n ?_
 refine AC.ret ?_
 refine bq_r ?_
 exact ret0 rfl (by repeat (first | exact DLead.same | exact rfl | refine ⟨_, rfl, ?_⟩ | refine ⟨_, _, rfl, ?_, ?_⟩))
theorem en_sDrawEnT : Enters Tryz.prog 10 := enters_of Tryz.func10 rfl rfl
section
variable {P : Program} [PT P] {s : ASt} {dst : Option Nat} {ty : Nat} {pos : String} {af : Array Edge} {gd : Option (Nat × Bool)} {x y : Operand} {xt yt : Nat}
theorem g_neBr {a : Bool} {n bt : Nat} {zs : List ZK} (ht : PT.ty P xt = some ⟨.bool, n, bt, zs⟩) (hx : s.ev x = aT a) (hy : s.ev y = aT a) : GOp P [] s ⟨dst, .binOp .neq xt x y yt, ty, pos, af, gd⟩ (aT false) := by
 have h := g_neB (P := P) (dst := dst) (ty := ty) (pos := pos) (af := af) (gd := gd) (yt := yt) ht hx hy
 rwa [beq_self_eq_true] at h
theorem g_eqIr {k : IntKind} {a b : Int} (hx : s.ev x = .d (.val (.int k a))) (hy : s.ev y = .d (.val (.int k b))) (h : a = b) : GOp P [] s ⟨dst, .binOp .eql xt x y yt, ty, pos, af, gd⟩ (aT true) := g_cmp hx hy (by show some (decide (a = b)) = _; rw [decide_eq_true h])
theorem g_neIr {k : IntKind} {a b : Int} (hx : s.ev x = .d (.val (.int k a))) (hy : s.ev y = .d (.val (.int k b))) (h : a = b) : GOp P [] s ⟨dst, .binOp .neq xt x y yt, ty, pos, af, gd⟩ (aT false) := g_cmp hx hy (by show some (!decide (a = b)) = _; rw [decide_eq_true h]; rfl)
theorem g_neSr {a b : ByteArray} (hx : s.ev x = aS a) (hy : s.ev y = aS b) (h : a = b) : GOp P [] s ⟨dst, .binOp .neq xt x y yt, ty, pos, af, gd⟩ (aT false) := g_scmp hx hy (by show some (!decide (a = b)) = _; rw [decide_eq_true h]; rfl)
end
theorem qSameTimed_spec (a : List Tf) (ha : a.length ≤ 1000000) : ASpec Tryz.prog 13 [.d (vTfs a), .d (vTfs a)] [] (Pure1 (aT true)) := by
 refine ASpec.of Tryz.func13 rfl rfl fun C hC => ?_
 refine AC.seq ?_
 refine AC.region ?_
 refine AL.p (by exact as1 rfl) rfl ?_
 refine AL.nil ?_
 refine th_n ?_
 refine AC.seq ?_
 refine AC.seq ?_
 refine AC.region ?_
 refine AL.p (by exact mv1 rfl) rfl ?_
 refine AL.p (by exact g_len_view rfl rfl (by exact List.length_map _)) rfl ?_
 refine AL.p (by exact mv1 rfl) rfl ?_
 refine AL.p (by exact g_len_view rfl rfl (by exact List.length_map _)) rfl ?_
 refine AL.p (by exact g_neIr rfl rfl rfl) rfl ?_
 refine AL.nil ?_
 refine th_n ?_
 refine AC.condF rfl ?_
 refine AC.skip ?_
 refine th_n ?_
 refine AC.seq ?_
 refine AC.seq ?_
 refine AC.region ?_
 refine AL.p (by exact mv1 rfl) rfl ?_
 refine AL.p (by exact g_len_view rfl rfl (by exact List.length_map _)) rfl ?_
 refine AL.p (by exact mv1 rfl) rfl ?_
 refine AL.nil ?_
 refine th_n ?_
 refine AC.block ?_
 refine AC.loop (ι := Nat) (fun k => ⟨26, 0, [(0, .d (vTfs a)), (1, .d (vTfs a)), (12, aI a.length), (13, aI k)], []⟩) (fun k => k ≤ a.length) (fun k => a.length - k) (0) ?_ (Nat.zero_le _) ?_
 ·refine Weak.ren _ [] hC rfl ?_ ?_ rfl rfl rfl <;> repeat (first | exact True.intro | refine And.intro ?_ ?_ | exact DLead.same)
 ·intro k hk
  refine AC.seq ?_
  refine AC.region ?_
  refine AL.p (by exact g_cmp rfl rfl rfl) rfl ?_
  refine AL.nil ?_
  refine th_n ?_
  refine AC.seq ?_
  refine AC.condD rfl (fun h0 => ?_) (fun h0 => ?_)
  ·refine AC.skip ?_
   refine th_n ?_
   refine AC.seq ?_
   refine AC.block ?_
   refine AC.seq ?_
   have hk1 : k < a.length := by omega
   have hget := tfL_get hk1
   refine AC.region ?_
   refine AL.p (by exact mv1 rfl) rfl ?_
   refine AL.p (by exact as1 rfl) rfl ?_
   refine AL.nil ?_
   refine th_n ?_
   refine AC.seq ?_
   refine AC.drawn' mixed_ok [[], [], [0,1], [0,1,2], [], [], [4,5], [4,5,6], [0,1,2,3,4,5,6,7]] (by decide) ?_
   refine DF.op 0 [] 9 rfl rfl rfl (.free rfl (NOp.of (by exact mv1 rfl))) rfl ?_
   refine DF.op 1 [] 9 rfl rfl rfl (.free rfl (NOp.of (by exact mv1 rfl))) rfl ?_
   refine DF.op 2 [0,1] 9 rfl rfl rfl (.free rfl (NOp.of (by exact g_ia_view rfl rfl rfl rfl rfl (by rfl) (by assumption)))) rfl ?_
   refine DF.op 3 [0,1,2] 9 rfl rfl rfl (.free rfl (NOp.of (by exact g_load_refN rfl rfl rfl rfl))) rfl ?_
   refine DF.op 4 [] 9 rfl rfl rfl (.free rfl (NOp.of (by exact mv1 rfl))) rfl ?_
   refine DF.op 5 [] 9 rfl rfl rfl (.free rfl (NOp.of (by exact mv1 rfl))) rfl ?_
   refine DF.op 6 [4,5] 9 rfl rfl rfl (.free rfl (NOp.of (by exact g_ia_view rfl rfl rfl rfl rfl (by rfl) (by assumption)))) rfl ?_
   refine DF.op 7 [4,5,6] 9 rfl rfl rfl (.free rfl (NOp.of (by exact g_load_refN rfl rfl rfl rfl))) rfl ?_
   refine DF.op 8 [0,1,2,3,4,5,6,7] 9 rfl rfl rfl (.free rfl (NOp.of (by exact g_eq2 (r := false) (by decide +kernel) rfl rfl (by simp [eqOf])))) rfl ?_
   refine DF.fin (ps := [(0,1),(0,4),(0,5),(0,6),(0,7),(1,0),(1,4),(1,5),(1,6),(1,7),(2,4),(2,5),(2,6),(2,7),(3,4),(3,5),(3,6),(3,7),(4,0),(4,1),(4,2),(4,3),(4,5),(5,0),(5,1),(5,2),(5,3),(5,4),(6,0),(6,1),(6,2),(6,3),(7,0),(7,1),(7,2),(7,3)]) 9 rfl (by decide +kernel) (by decide +kernel) (by rfl) ?_
   refine th_n ?_
   refine AC.condF rfl ?_
   refine AC.skip ?_
   refine ib_n ?_
   refine th_n ?_
   refine AC.region ?_
   refine AL.p (by exact g_arith rfl rfl rfl (by exact wrap_i64 (by omega))) rfl ?_
   refine AL.p (by exact mv1 rfl) rfl ?_
   refine AL.nil ?_
   refine th_n ?_
   exact ⟨k + 1, by omega, by omega, Weak.ren _ [] hC rfl (by repeat (first | exact True.intro | refine And.intro ?_ ?_ | exact DLead.same)) (by repeat (exact True.intro)) rfl rfl rfl⟩
  ·refine AC.exit ?_
   refine th_e ?_
   refine th_e ?_
   refine ib_y ?_
   refine th_n ?_
   refine AC.seq ?_
   refine AC.region ?_
   refine AL.p (by exact as1 rfl) rfl ?_
   refine AL.nil ?_
   refine th_n ?_
   refine AC.ret ?_
   refine bq_r ?_
   exact ret1 rfl rfl
theorem en_qSameTimed : Enters Tryz.prog 13 := enters_of Tryz.func13 rfl rfl
theorem qSameN_spec (a : List Int) (ha : a.length ≤ 1000000) : ASpec Tryz.prog 14 [.d (vI a), .d (vI a)] [] (Pure1 (aT true)) := by
 refine ASpec.of Tryz.func14 rfl rfl fun C hC => ?_
 refine AC.seq ?_
 refine AC.region ?_
 refine AL.p (by exact as1 rfl) rfl ?_
 refine AL.nil ?_
 refine th_n ?_
 refine AC.seq ?_
 refine AC.seq ?_
 refine AC.region ?_
 refine AL.p (by exact mv1 rfl) rfl ?_
 refine AL.p (by exact g_len_view rfl rfl (by exact List.length_map _)) rfl ?_
 refine AL.p (by exact mv1 rfl) rfl ?_
 refine AL.p (by exact g_len_view rfl rfl (by exact List.length_map _)) rfl ?_
 refine AL.p (by exact g_neIr rfl rfl rfl) rfl ?_
 refine AL.nil ?_
 refine th_n ?_
 refine AC.condF rfl ?_
 refine AC.skip ?_
 refine th_n ?_
 refine AC.seq ?_
 refine AC.seq ?_
 refine AC.region ?_
 refine AL.p (by exact mv1 rfl) rfl ?_
 refine AL.p (by exact g_len_view rfl rfl (by exact List.length_map _)) rfl ?_
 refine AL.p (by exact mv1 rfl) rfl ?_
 refine AL.nil ?_
 refine th_n ?_
 refine AC.block ?_
 refine AC.loop (ι := Nat) (fun k => ⟨26, 0, [(0, .d (vI a)), (1, .d (vI a)), (12, aI a.length), (13, aI k)], []⟩) (fun k => k ≤ a.length) (fun k => a.length - k) (0) ?_ (Nat.zero_le _) ?_
 ·refine Weak.ren _ [] hC rfl ?_ ?_ rfl rfl rfl <;> repeat (first | exact True.intro | refine And.intro ?_ ?_ | exact DLead.same)
 ·intro k hk
  refine AC.seq ?_
  refine AC.region ?_
  refine AL.p (by exact g_cmp rfl rfl rfl) rfl ?_
  refine AL.nil ?_
  refine th_n ?_
  refine AC.seq ?_
  refine AC.condD rfl (fun h0 => ?_) (fun h0 => ?_)
  ·refine AC.skip ?_
   refine th_n ?_
   refine AC.seq ?_
   refine AC.block ?_
   refine AC.seq ?_
   have hk1 : k < a.length := by omega
   have hget : (ints a)[k]? = some [dI (a.getD k 0)] := ints_get hk1
   refine AC.region ?_
   refine AL.p (by exact mv1 rfl) rfl ?_
   refine AL.p (by exact as1 rfl) rfl ?_
   refine AL.nil ?_
   refine th_n ?_
   refine AC.seq ?_
   refine AC.drawn' mixed_ok [[], [], [0,1], [0,1,2], [], [], [4,5], [4,5,6], [0,1,2,3,4,5,6,7]] (by decide) ?_
   refine DF.op 0 [] 9 rfl rfl rfl (.free rfl (NOp.of (by exact mv1 rfl))) rfl ?_
   refine DF.op 1 [] 9 rfl rfl rfl (.free rfl (NOp.of (by exact mv1 rfl))) rfl ?_
   refine DF.op 2 [0,1] 9 rfl rfl rfl (.free rfl (NOp.of (by exact g_ia_view rfl rfl rfl rfl rfl (by rfl) (by assumption)))) rfl ?_
   refine DF.op 3 [0,1,2] 9 rfl rfl rfl (.free rfl (NOp.of (by exact g_load_ref rfl rfl rfl))) rfl ?_
   refine DF.op 4 [] 9 rfl rfl rfl (.free rfl (NOp.of (by exact mv1 rfl))) rfl ?_
   refine DF.op 5 [] 9 rfl rfl rfl (.free rfl (NOp.of (by exact mv1 rfl))) rfl ?_
   refine DF.op 6 [4,5] 9 rfl rfl rfl (.free rfl (NOp.of (by exact g_ia_view rfl rfl rfl rfl rfl (by rfl) (by assumption)))) rfl ?_
   refine DF.op 7 [4,5,6] 9 rfl rfl rfl (.free rfl (NOp.of (by exact g_load_ref rfl rfl rfl))) rfl ?_
   refine DF.op 8 [0,1,2,3,4,5,6,7] 9 rfl rfl rfl (.free rfl (NOp.of (by exact g_neIr rfl rfl rfl))) rfl ?_
   refine DF.fin (ps := [(0,1),(0,4),(0,5),(0,6),(0,7),(1,0),(1,4),(1,5),(1,6),(1,7),(2,4),(2,5),(2,6),(2,7),(3,4),(3,5),(3,6),(3,7),(4,0),(4,1),(4,2),(4,3),(4,5),(5,0),(5,1),(5,2),(5,3),(5,4),(6,0),(6,1),(6,2),(6,3),(7,0),(7,1),(7,2),(7,3)]) 9 rfl (by decide +kernel) (by decide +kernel) (by rfl) ?_
   refine th_n ?_
   refine AC.condF rfl ?_
   refine AC.skip ?_
   refine ib_n ?_
   refine th_n ?_
   refine AC.region ?_
   refine AL.p (by exact g_arith rfl rfl rfl (by exact wrap_i64 (by omega))) rfl ?_
   refine AL.p (by exact mv1 rfl) rfl ?_
   refine AL.nil ?_
   refine th_n ?_
   exact ⟨k + 1, by omega, by omega, Weak.ren _ [] hC rfl (by repeat (first | exact True.intro | refine And.intro ?_ ?_ | exact DLead.same)) (by repeat (exact True.intro)) rfl rfl rfl⟩
  ·refine AC.exit ?_
   refine th_e ?_
   refine th_e ?_
   refine ib_y ?_
   refine th_n ?_
   refine AC.seq ?_
   refine AC.region ?_
   refine AL.p (by exact as1 rfl) rfl ?_
   refine AL.nil ?_
   refine th_n ?_
   refine AC.ret ?_
   refine bq_r ?_
   exact ret1 rfl rfl
theorem en_qSameN : Enters Tryz.prog 14 := enters_of Tryz.func14 rfl rfl
theorem fireQ_ok {N : Net} {c : Ck} {t : Nat} {a : Int} (ht : t < N.ts.length) (h : (fireQ N c t a).2 = true) : (fireT N.ts[t] c.mark).2 = true ∧ (fireQ N c t a).1.mark = (fireT N.ts[t] c.mark).1 ∧ (fireQ N c t a).1.now = a := by
 have hgD : N.ts.getD t ⟨[], []⟩ = N.ts[t] := by rw [List.getD_eq_getElem?_getD, List.getElem?_eq_getElem ht]; rfl
 unfold fireQ at h ⊢
 rw [hgD] at h ⊢
 split at h
 ·rename_i h2
  rw [if_pos h2]; exact ⟨h2, rfl, rfl⟩
 ·cases h
theorem simQ_no {N : Net} {c : Ck} {l : List Dl} {d : Int} (h : ¬ (stepQ N c l d).2.2 = true) : (stepQ N c l d).2.1 = c := by
 unfold stepQ at h ⊢
 split
 ·rfl
 ·rename_i hne
  rw [if_neg hne] at h
  unfold fireQ at h ⊢
  split
  ·rename_i h2
   rw [if_pos h2] at h
   exact absurd rfl h
  ·rfl
structure SimStep (N : Net) (c : Ck) (l : List Dl) (T : Int) (x : Tf) (e : Ck) : Prop where
 chk : chkB N c l x = true
 ok : okF N c x = true
 fq : fireQ N c x.t.toNat x.tm = (e, true)
 fi : fireI N c.mark x.t = (e.mark, true)
 now : e.now = x.tm
 le : c.now ≤ x.tm
theorem simQ_ok {N : Net} {c : Ck} {l : List Dl} {T d : Int} (h : CkI N c T) (hd : Dok l N.ts.length) (hT : 0 ≤ T ∧ T ≤ 900000) (hdr : 0 ≤ d ∧ d ≤ 999) (ho : (stepQ N c l d).2.2 = true) : SimStep N c l T (stepQ N c l d).1 (stepQ N c l d).2.1 := by
 unfold stepQ at ho ⊢
 split at ho
 ·cases ho
 ·rename_i hne
  rw [if_neg hne]
  obtain ⟨u, h1, h2, h3, h4, h5, _⟩ := stepT_in (h.B hd (by omega)) hdr hne
  have h8 : c.now ≤ earI c l u := Int.le_max_right ..
  have h9 := h.len
  have hu : u < N.ts.length := by omega
  have hen := (h.en u hu).1 h3
  obtain ⟨x, hx⟩ : ∃ x, x = stepT c l d := ⟨_, rfl⟩
  rw [← hx] at ho h1 h4 h5 ⊢
  obtain ⟨a, t⟩ := x
  dsimp only at ho h1 h4 h5 ⊢
  subst h1
  rw [Int.toNat_natCast] at ho ⊢
  obtain ⟨k1, k2, k3⟩ := fireQ_ok hu ho
  refine ⟨?_, ?_, ?_, ?_, k3, by dsimp only; omega⟩
  ·simp only [chkB, Bool.and_eq_true, decide_eq_true_eq, Int.toNat_natCast]
   exact ⟨⟨by omega, by omega⟩, h3, ⟨h4, h5⟩, ho⟩
  ·simp only [okF, Bool.and_eq_true, decide_eq_true_eq, Int.toNat_natCast]
   exact ⟨⟨by omega, by omega⟩, h3, ho⟩
  ·exact Prod.ext rfl ho
  ·dsimp only
   rw [fireI_at hu, if_pos (by rw [← enB_nat hu]; exact hen)]
   exact Prod.ext k2.symm k1
def sortQ : Int → List Tf → Prop
 | _, [] => True
 | a, x :: xs => a ≤ x.tm ∧ sortQ x.tm xs
theorem sortQ_at : ∀ {L : List Tf} {a : Int}, sortQ a L → ∀ k, k < L.length → a ≤ (fAt L k).tm ∧ (0 < k → (fAt L (k - 1)).tm ≤ (fAt L k).tm)
 | [], _, _, k, hk => absurd hk (Nat.not_lt_zero _)
 | x :: xs, a, h, 0, _ => ⟨h.1, fun q => absurd q (Nat.lt_irrefl _)⟩
 | x :: xs, a, h, k + 1, hk => by
  have ih := sortQ_at h.2 k (by simpa using hk)
  have e : fAt (x :: xs) (k + 1) = fAt xs k := rfl
  have h1 := h.1
  rw [e]
  refine ⟨by omega, fun _ => ?_⟩
  show (fAt (x :: xs) k).tm ≤ _
  match k, ih with
  | 0, ih => exact ih.1
  | j + 1, ih => exact ih.2 (by omega)
def tfTs (L : List Tf) : List Int := L.map fun x => x.t
theorem tfTs_len (L : List Tf) : (tfTs L).length = L.length := List.length_map _
theorem tfTs_take {L : List Tf} {k : Nat} (hk : k < L.length) : tfTs (L.take (k + 1)) = tfTs (L.take k) ++ [L[k].t] := by
 unfold tfTs
 rw [List.take_add_one, List.getElem?_eq_getElem hk, List.map_append]; rfl
structure SimOk (N : Net) (l : List Dl) (c : Ck) (T : Int) (L : List Tf) (e : Ck) : Prop where
 chk : checkQ N l L c = true
 fq : firedQ N L c = (e, true)
 sq : ∀ k, fireSeq N c.mark (tfTs L) k = (e.mark, k + L.length, true)
 srt : sortQ c.now L
 inv : ∃ T', CkI N e T'
theorem runQ_ok {N : Net} {l : List Dl} (hd : Dok l N.ts.length) : ∀ (ds : List Int) (c : Ck) (T : Int), CkI N c T → 0 ≤ T → T + 100 * ds.length ≤ 20000 → (∀ d, d ∈ ds → 0 ≤ d ∧ d ≤ 999) → ∃ (L : List Tf) (e : Ck), (∀ acc, runQ N l ds c acc = (acc ++ L, e)) ∧ SimOk N l c T L e
 | [], c, T, hI, h0, hT, hds => ⟨[], c, fun acc => by rw [runQ, List.append_nil acc], rfl, rfl, fun k => by simp [tfTs, fireSeq], trivial, T, hI⟩
 | d :: ds, c, T, hI, h0, hT, hds => by
  have hdr := hds d (List.mem_cons_self ..)
  simp only [List.length_cons] at hT
  by_cases hok : (stepQ N c l d).2.2 = true
  ·have hS := simQ_ok hI hd (by omega) hdr hok
   have hI2 := stepQ_I hI hd (by omega) hdr
   obtain ⟨L, e, h1, h2⟩ := runQ_ok hd ds _ (T + 100) hI2 (by omega) (by omega) (fun x hx => hds x (List.mem_cons_of_mem _ hx))
   obtain ⟨x, hx⟩ : ∃ x, x = (stepQ N c l d).1 := ⟨_, rfl⟩
   obtain ⟨c2, hc2⟩ : ∃ c2, c2 = (stepQ N c l d).2.1 := ⟨_, rfl⟩
   rw [← hx, ← hc2] at hS
   rw [← hc2] at h1 h2
   refine ⟨x :: L, e, fun acc => ?_, ?_, ?_, fun k => ?_, ⟨hS.le, ?_⟩, h2.inv⟩
   ·rw [runQ, if_pos hok, ← hx, ← hc2, h1, List.append_assoc]; rfl
   ·rw [checkQ, if_pos hS.chk, hS.fq]; exact h2.chk
   ·rw [firedQ, if_pos hS.ok, hS.fq]; exact h2.fq
   ·show fireSeq N c.mark (x.t :: tfTs L) k = _
    rw [fireSeq, hS.fi, if_pos rfl, h2.sq, List.length_cons]
    congr 2
    omega
   ·have := h2.srt; rwa [hS.now] at this
  ·have e := simQ_no hok
   exact ⟨[], c, fun acc => by rw [runQ, if_neg hok, e, List.append_nil acc], rfl, rfl, fun k => by simp [tfTs, fireSeq], trivial, T, hI⟩
def cntN (since : List Int) : Nat → Nat
 | 0 => 0
 | k + 1 => if 0 ≤ iAt since k then cntN since k + 1 else cntN since k
theorem cntN_le (since : List Int) : ∀ k, cntN since k ≤ k
 | 0 => Nat.le_refl _
 | k + 1 => by have := cntN_le since k; rw [cntN]; split <;> omega
theorem cntN_ready {N : Net} {c : Ck} {T : Int} (hg : goodN N = true) (h : CkI N c T) : ∀ k, k ≤ N.ts.length → cntN c.since k = (readyL N c.mark k).length
 | 0, _ => rfl
 | k + 1, hk => by
  have ih := cntN_ready hg h k (by omega)
  have hk1 : k < N.ts.length := by omega
  have hr := ready_enabled h.m ((good_netM hg h.m) _ (List.getElem_mem hk1)).1
  have hen := h.en k hk1
  rw [enB_nat hk1, ← hr] at hen
  rw [cntN]
  split
  ·rename_i q
   rw [readyL_t hk1 (hen.1 q), List.length_append, ih]; rfl
  ·rename_i q
   rw [readyL_f hk1 (Bool.eq_false_iff.2 fun z => q (hen.2 z)), ih]
theorem sim_laws {s : Stg} {l : List Dl} {ds : List Int} (hB : StgB s) (hok : (simR s l ds).2.2 = true) :
  trR s l (simR s l ds).1 = (true, true) ∧ SeqI s.net s.start (tfTs (simR s l ds).1) = ((simR s l ds).2.1, ((simR s l ds).1.length : Int), true) ∧ ∃ since : List Int, entR s (simR s l ds).1 = (since, true) ∧ since.length = s.net.ts.length ∧ enR s.net (simR s l ds).2.1 = (readyL s.net (simR s l ds).2.1 s.net.ts.length, true) ∧ cntN since s.net.ts.length = (readyL s.net (simR s l ds).2.1 s.net.ts.length).length := by
 have hln := (simR_in (l := l) (ds := ds) hB).2
 unfold simR at hok hln ⊢
 by_cases h : simOk s l ds = true
 ·rw [if_pos h] at hln ⊢
  dsimp only at hln ⊢
  simp only [simOk, Bool.and_eq_true, Bool.not_eq_true', decide_eq_false_iff_not] at h
  obtain ⟨hv, hn, hdr⟩ := h
  obtain ⟨hg, hd⟩ := Dok.of hv
  obtain ⟨hgn, hbit, _⟩ := goodS_bits hg
  obtain ⟨L, e, h1, h2⟩ := runQ_ok hd ds (newK s) 0 (newK_I hg) (Int.le_refl _) (by omega) (drawsB_in hdr)
  have h1 := h1 []
  rw [List.nil_append] at h1
  rw [h1] at hln ⊢
  dsimp only at hln ⊢
  obtain ⟨T', hI⟩ := h2.inv
  refine ⟨?_, ?_, e.since, ?_, hI.len, ?_, ?_⟩
  ·unfold trR
   rw [if_pos (by rw [hv, decide_eq_false (by omega)]; rfl), h2.chk]
  ·rw [SeqI_yes (by rw [hgn, hbit, decide_eq_true (by rw [tfTs_len]; omega)]; rfl)]
   have := h2.sq 0
   rw [Int.zero_add] at this
   exact this
  ·have ht : timesB L = true := by
    unfold timesB
    rw [allK_yes (fun k hk => ?_), decide_eq_true (by omega)]; rfl
    have := sortQ_at h2.srt k hk
    have h0 : (newK s).now = 0 := rfl
    exact timeK_yes (by omega) (fun q => by have := this.2 q; omega)
   unfold entR
   rw [hg, ht, h2.fq]; rfl
  ·exact enR_yes (by rw [hgn, hI.m]; rfl)
  ·exact cntN_ready hgn hI _ (Nat.le_refl _)
 ·rw [if_neg h] at hok
  cases hok
theorem fireQ_slen {N : Net} {c : Ck} {t : Nat} {a : Int} (h : c.since.length = N.ts.length) : (fireQ N c t a).1.since.length = N.ts.length := by
 unfold fireQ
 split
 ·simp
 ·exact h
theorem firedQ_slen {N : Net} : ∀ (L : List Tf) (c : Ck), c.since.length = N.ts.length → (firedQ N L c).1.since.length = N.ts.length
 | [], c, h => h
 | x :: xs, c, h => by
  rw [firedQ]
  split
  ·exact firedQ_slen xs _ (fireQ_slen h)
  ·exact h
theorem entR_len {s : Stg} {run : List Tf} (h : s.net.ts.length ≤ 1000000) : (entR s run).1.length ≤ 1000000 := by
 unfold entR
 split
 ·split
  ·rw [firedQ_slen run (newK s) (by simp [newK])]; exact h
  ·exact Nat.zero_le _
 ·exact Nat.zero_le _
theorem enR_short {s : Stg} {m : List UInt8} {L : List Int} (hs : StgS s) (h : enR s.net m = (L, true)) : m.length ≤ 2000000 := by
 unfold enR at h
 split at h
 ·rename_i q
  have h1 := bits_len (Bool.and_eq_true_iff.1 q).2
  have h2 := hs.p
  omega
 ·cases h
end Go.Proofs.YtijnganhpnmhaaaGreat
