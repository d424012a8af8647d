/- Contracts of the functions of the program and of the reference, each proved by a walk through its code. -/
import Derived.WalkKit
import Derived.WalkSpells
import Derived.WalkLawsBesides
import Derived.Deep.Draws
import Derived.Lib.Hide
import Derived.Maps.AppendAt
import Derived.OwnWalk
import Derived.Deep.MidRow
import Derived.Laws.ResultCell
import Derived.Deep.Upon
import Derived.Great.FillDense
import Derived.Laws.Tables
import Derived.Laws.BytesArg
import Derived.Laws.MakeOwn
import Derived.Great.BuildSlice
import Derived.ArgAppend
import Derived.Deep.AppendSrc
import Derived.Test.YthafkkgmekgmoaaGreatProg
import Derived.KernelRfl
import Derived.Orders
import Derived.Laws.IdiomStrings
import Derived.Lib.AppendZerosOnto
import Derived.ProofKit
import Derived.OpenShut
import Derived.Lib.SliceRun
import Derived.Laws.StructEq
import Derived.ChangeKeysEq
import Derived.Sort.Grow
import Derived.Laws.RangeString
import Derived.Below
import Derived.Laws.Small
import Derived.MapKept
import Derived.WideMake
import Derived.Laws.IdiomCopy
import Derived.Shelf.Bits.Mul64
import Derived.Test.YthafkkgmekgmoaaGreatRows
import Derived.Test.YthafkkgmekgmoaaGreatGRd9
set_option linter.all false
set_option maxRecDepth 20000
namespace Go.Proofs.YthafkkgmekgmoaaGreat
open Go.RowKit
def sig0 (s : Stg) : Sig := s.sigs.getD 0 ⟨[], 0⟩
def lab0 (s : Stg) : Lab := s.labs.getD 0 ⟨0, false⟩
def badSig (i : Int) : Int := if i = 0 then -1 else if i = 1 then -2 else 8
def badName (i : Int) : List UInt8 := if i = 0 then [] else if i = 1 then [65] else if i = 2 then [97, 98, 99, 100, 101, 102, 103] else [49, 97]
def badKind (i : Int) : Int := if i = 0 then 0 else if i = 1 then 4 else 3
def turnS (g : Stg) (p : Int × Cur) : Stg × Cur :=
 if p.1 = 0 then ({ g with start := (p.2.spoilt g.start [48, 49, 50]).1 }, (p.2.spoilt g.start [48, 49, 50]).2)
 else if p.1 = 1 then ({ g with labs := g.labs.set 0 ⟨badSig (p.2.pick 3).1, (lab0 g).up⟩ }, (p.2.pick 3).2)
 else if p.1 = 2 then ({ g with sigs := g.sigs.set 0 ⟨badName (p.2.pick 4).1, (sig0 g).kind⟩ }, (p.2.pick 4).2)
 else if p.1 = 3 then ({ g with sigs := g.sigs.set 0 ⟨(sig0 g).name, badKind (p.2.pick 3).1⟩ }, (p.2.pick 3).2)
 else if p.1 = 4 then ({ g with labs := g.labs.drop 1 }, p.2)
 else (g, p.2)
def anyI (c : Cur) : Stg × Cur := turnS (stgI c).1 ((stgI c).2.pick 30)
theorem bad3 (c : Cur) (f : Int → Int) (a b d : Int) (hf : ∀ i, f i = if i = 0 then a else if i = 1 then b else d) : ([[dI a], [dI b], [dI d]] : List (List DV))[(c.pick 3).1.toNat]? = some [dI (f (c.pick 3).1)] := by
 have hc := c.pick_in 3 (by decide)
 rw [hf]
 have h : (c.pick 3).1 = 0 ∨ (c.pick 3).1 = 1 ∨ (c.pick 3).1 = 2 := by omega
 rcases h with h | h | h <;> rw [h] <;> rfl
theorem badN (c : Cur) : ([[dS (bstr [])], [dS (bstr [65])], [dS (bstr [97, 98, 99, 100, 101, 102, 103])], [dS (bstr [49, 97])]] : List (List DV))[(c.pick 4).1.toNat]? = some [dS (bstr (badName (c.pick 4).1))] := by
 have hc := c.pick_in 4 (by decide)
 unfold badName
 have h : (c.pick 4).1 = 0 ∨ (c.pick 4).1 = 1 ∨ (c.pick 4).1 = 2 ∨ (c.pick 4).1 = 3 := by omega
 rcases h with h | h | h | h <;> rw [h] <;> rfl
theorem mem_set0 {α : Type} {l : List α} {x y : α} (h : y ∈ l.set 0 x) : y ∈ l ∨ y = x := List.mem_or_eq_of_mem_set h
theorem turnS_in (g : Stg) (hg : okS g = true) (p : Int × Cur) : StgS (turnS g p).1 ∧ (turnS g p).2.pos ≤ p.2.pos + 20 ∧ (turnS g p).2.code = p.2.code := by
 obtain ⟨h, h1, h2⟩ := okS_S hg
 have s1 := p.2.spoilt_in g.start [48, 49, 50]
 have p3 := p.2.pick_pos 3
 have p4 := p.2.pick_pos 4
 have k3 := p.2.pick_code 3
 have k4 := p.2.pick_code 4
 have hbs : ∀ i, -10 ≤ badSig i ∧ badSig i ≤ 10 := fun i => by unfold badSig; split; omega; split <;> omega
 have hbn : ∀ i, (badName i).length ≤ 10 := fun i => by unfold badName; split; decide; split; decide; split <;> decide
 have hs0 : (sig0 g).name.length ≤ 10 := by
  unfold sig0
  rw [List.getD_eq_getElem?_getD, List.getElem?_eq_getElem (show 0 < g.sigs.length from h.s0)]
  exact h.sn _ (List.getElem_mem _)
 unfold turnS
 split
 ·exact ⟨⟨h.p, h.tl, h.t, h.s0, h.sl, h.sn, h.ll, h.lb, by dsimp only; omega⟩, by dsimp only; omega, s1.2.2⟩
 split
 ·exact ⟨⟨h.p, h.tl, h.t, h.s0, h.sl, h.sn, by rw [List.length_set]; exact h.ll, (fun x hx => by
   rcases mem_set0 hx with hx | rfl
   ·exact h.lb x hx
   ·exact hbs _), h.st⟩, by dsimp only; omega, k3⟩
 split
 ·exact ⟨⟨h.p, h.tl, h.t, by rw [List.length_set]; exact h.s0, by rw [List.length_set]; exact h.sl, (fun x hx => by
   rcases mem_set0 hx with hx | rfl
   ·exact h.sn x hx
   ·exact hbn _), h.ll, h.lb, h.st⟩, by dsimp only; omega, k4⟩
 split
 ·exact ⟨⟨h.p, h.tl, h.t, by rw [List.length_set]; exact h.s0, by rw [List.length_set]; exact h.sl, (fun x hx => by
   rcases mem_set0 hx with hx | rfl
   ·exact h.sn x hx
   ·exact hs0), h.ll, h.lb, h.st⟩, by dsimp only; omega, k3⟩
 split
 ·exact ⟨⟨h.p, h.tl, h.t, h.s0, h.sl, h.sn, by rw [List.length_drop]; have := h.ll; omega, fun x hx => h.lb x (List.mem_of_mem_drop hx), h.st⟩, by dsimp only; omega, rfl⟩
 ·exact ⟨h, by dsimp only; omega, rfl⟩
theorem anyI_in (c : Cur) : StgS (anyI c).1 ∧ (anyI c).2.pos ≤ c.pos + 30 ∧ (anyI c).2.code = c.code := by
 have h := stgI_in c
 have h1 := (stgI c).2.pick_pos 30
 have h2 := (stgI c).2.pick_code 30
 have h3 := turnS_in (stgI c).1 h.1 ((stgI c).2.pick 30)
 exact ⟨h3.1, by have := h3.2.1; show (turnS _ _).2.pos ≤ _; omega, h3.2.2.trans (h2.trans h.2.2)⟩
abbrev stgR (s : Stg) (j : Nat) : AV := .agg [aI s.net.places, .d (vTs s.net.ts), .own j s.sigs.length, .d (vLabs s.labs), aS (bstr s.start)]
set_option maxHeartbeats 8000000 in
theorem anyStg_spec (c : Cur) (hp : c.pos ≤ 1000000) : ASpec Tryz.prog 126 [.ptr 0 0] [(0, curC c)] (Fun1 (stgR (anyI c).1 1) [(0, curC (anyI c).2), (1, .arr 149 2 (sigsL (anyI c).1.sigs))]) := by
 have hG := stg_spec c (by omega)
 have hgi := stgI_in c
 have hA : anyI c = turnS (stgI c).1 ((stgI c).2.pick 30) := rfl
 obtain ⟨g, hg⟩ : ∃ g, g = stgI c := ⟨_, rfl⟩
 rw [← hg] at hG hgi hA
 have hpk := g.2.pick_pos 30
 have hK := pick_spec g.2 30 (by decide) (by omega)
 obtain ⟨p, hpp⟩ : ∃ p, p = g.2.pick 30 := ⟨_, rfl⟩
 rw [← hpp] at hK hA hpk
 obtain ⟨hs, hl0, hst⟩ := okS_S hgi.1
 have hs0 := hs.s0
 have hsl := hs.sl
 have hll := hs.ll
 have hsp := spoilt_spec p.2 g.1.start [48, 49, 50] (by omega) (by decide) (by decide) (by omega)
 have ha1 := am_spec p.2 [[dI (-1)], [dI (-2)], [dI 8]] (badSig (p.2.pick 3).1) (by decide) (by decide) (by omega) (bad3 p.2 badSig _ _ _ (fun _ => rfl))
 have ha2 := of_spec p.2 [[dS (bstr [])], [dS (bstr [65])], [dS (bstr [97, 98, 99, 100, 101, 102, 103])], [dS (bstr [49, 97])]] (bstr (badName (p.2.pick 4).1)) (by decide) (by decide) (by omega) (badN p.2)
 have ha3 := am_spec p.2 [[dI 0], [dI 4], [dI 3]] (badKind (p.2.pick 3).1) (by decide) (by decide) (by omega) (bad3 p.2 badKind _ _ _ (fun _ => rfl))
 have hT : turnS g.1 p = if p.1 = 0 then ({ g.1 with start := (p.2.spoilt g.1.start [48, 49, 50]).1 }, (p.2.spoilt g.1.start [48, 49, 50]).2)
  else if p.1 = 1 then ({ g.1 with labs := g.1.labs.set 0 ⟨badSig (p.2.pick 3).1, (lab0 g.1).up⟩ }, (p.2.pick 3).2)
  else if p.1 = 2 then ({ g.1 with sigs := g.1.sigs.set 0 ⟨badName (p.2.pick 4).1, (sig0 g.1).kind⟩ }, (p.2.pick 4).2)
  else if p.1 = 3 then ({ g.1 with sigs := g.1.sigs.set 0 ⟨(sig0 g.1).name, badKind (p.2.pick 3).1⟩ }, (p.2.pick 3).2)
  else if p.1 = 4 then ({ g.1 with labs := g.1.labs.drop 1 }, p.2)
  else (g.1, p.2) := rfl
 rw [← hA] at hT
 obtain ⟨A, hAA⟩ : ∃ A, A = anyI c := ⟨_, rfl⟩
 rw [← hAA] at hT ⊢
 obtain ⟨G, cg⟩ := g
 obtain ⟨pi, pc⟩ := p
 dsimp only at *
 obtain ⟨N, sg, lb, st⟩ := G
 dsimp only at *
 obtain ⟨x0, sg', rfl⟩ : ∃ x r, sg = x :: r := by cases sg with | nil => simp at hs0 | cons a b => exact ⟨a, b, rfl⟩
 obtain ⟨y0, lb', rfl⟩ : ∃ x r, lb = x :: r := by cases lb with | nil => simp at hl0 | cons a b => exact ⟨a, b, rfl⟩
 have hls : (x0 :: sg').length = sg'.length + 1 := rfl
 have hlb : (y0 :: lb').length = lb'.length + 1 := rfl
 clear hAA hA hs hgi hg hpp hs0 hl0
 refine ASpec.of Tryz.func126 rfl rfl fun C hC => ?_
 refine AC.seq (AC.region ?_)
 refine AL.q (by exact h_alloc rfl) rfl ?_
 refine AL.nil (th_n (AC.seq (AC.region ?_)))
 refine AL.p (by exact mv3 rfl) rfl ?_
 refine AL.q (by exact h_fun (cs := [0]) en_stg rfl rfl (by repeat (first | exact rfl | refine ⟨_, _, rfl, ?_, ?_⟩ | refine ⟨_, rfl, ?_⟩)) (by repeat (first | exact True.intro | refine And.intro ?_ ?_ | exact DLead.same | exact rfl | refine ⟨_, _, rfl, rfl, ?_⟩ | refine ⟨_, rfl, ?_⟩ | refine ⟨_, _, rfl, ?_, ?_⟩)) hG rfl rfl rfl rfl) rfl ?_
 refine AL.q (by exact h_alloc rfl) rfl ?_
 refine AL.q (by exact h_store rfl rfl rfl rfl rfl rfl) rfl ?_
 refine AL.nil (th_n ?_)
 refine AC.cut (fun (x : Stg × Cur) => ⟨49, 300, [(2, .ptr 201 0), (3, .ptr 200 0)], [(0, some (curC x.2)), (200, some (.cells 30 [aI x.1.net.places, .d (vTs x.1.net.ts), .own 101 x.1.sigs.length, .d (vLabs x.1.labs), aS (bstr x.1.start)])), (101, some (.arr 149 2 (sigsL x.1.sigs))), (201, some (.cells 30 zStg))]⟩) (fun x => x = A) ?_ ?_
 ·refine AC.seq (AC.region ?_)
  refine AL.p (by exact mv3 rfl) rfl ?_
  refine AL.q (by exact h_fun (cs := [0]) en_pick rfl rfl (by repeat (first | exact rfl | exact DLead.same | refine ⟨_, _, rfl, ?_, ?_⟩ | refine ⟨_, rfl, ?_⟩)) (by repeat (first | exact True.intro | refine And.intro ?_ ?_ | exact DLead.same | exact rfl | refine ⟨_, _, rfl, rfl, ?_⟩ | refine ⟨_, rfl, ?_⟩ | refine ⟨_, _, rfl, ?_, ?_⟩)) hK rfl rfl rfl rfl) rfl ?_
  refine AL.nil (th_n (AC.block (AC.seq (AC.region ?_))))
  refine AL.p (by exact g_cmp rfl rfl rfl) rfl ?_
  refine AL.p (by exact as1 rfl) rfl ?_
  refine AL.nil (th_n ?_)
  refine AC.condD rfl (fun h0 => ?_) (fun h0 => ?_)
  ·refine AC.region ?_
   refine AL.p (by exact mv3 rfl) rfl ?_
   refine AL.p (by exact g_fa_ptr rfl rfl rfl rfl rfl) rfl ?_
   refine AL.p (by exact g_load_ptr rfl rfl rfl rfl rfl) rfl ?_
   refine AL.q (by exact h_fun (cs := [0]) en_spoilt rfl rfl (by repeat (first | exact rfl | exact DLead.same | refine ⟨_, _, rfl, ?_, ?_⟩ | refine ⟨_, rfl, ?_⟩)) (by repeat (first | exact True.intro | refine And.intro ?_ ?_ | exact DLead.same | exact rfl | refine ⟨_, _, rfl, rfl, ?_⟩ | refine ⟨_, rfl, ?_⟩ | refine ⟨_, _, rfl, ?_, ?_⟩)) hsp rfl rfl rfl rfl) rfl ?_
   refine AL.p (by exact g_fa_ptr rfl rfl rfl rfl rfl) rfl ?_
   refine AL.q (by exact h_store rfl rfl rfl rfl rfl rfl) rfl ?_
   refine AL.nil (ib_n (th_n ?_))
   (have e := hT.trans (if_pos h0); exact ⟨A, rfl, (Weak.freezeP 3 3 rfl rfl rfl rfl (ownl _ _) (ownt _ _) rfl).trans (Weak.ren _ [(200, _), (101, _), (201, _)] hC rfl (by repeat (first | exact True.intro | refine And.intro ?_ ?_ | exact rfl | refine ⟨_, rfl, ?_⟩)) (by rw [e]; repeat (first | exact True.intro | refine And.intro ?_ ?_ | exact DLead.same | exact rfl | refine ⟨_, _, rfl, rfl, ?_⟩ | refine ⟨_, rfl, ?_⟩ | refine ⟨_, _, rfl, ?_, ?_⟩)) rfl rfl rfl)⟩)
  ·refine AC.seq (AC.region ?_)
   refine AL.p (by exact g_cmp rfl rfl rfl) rfl ?_
   refine AL.p (by exact as1 rfl) rfl ?_
   refine AL.nil (th_n ?_)
   refine AC.condD rfl (fun h1 => ?_) (fun h1 => ?_)
   ·refine AC.drawn' mixed_ok [[], [0], [], [], [2,3], [0,1,2,3,4], [0,1,2,3,4,5], [0,1,2,3,4,5,6]] (by decide) ?_
    refine DF.op 0 [] 8 rfl rfl rfl (.free rfl (NOp.of (by exact g_fa_ptr rfl rfl rfl rfl rfl))) rfl ?_
    refine DF.op 1 [0] 8 rfl rfl rfl (.free rfl (NOp.of (by exact g_load_ptr rfl rfl rfl rfl rfl))) rfl ?_
    refine DF.op 2 [] 8 rfl rfl rfl (.free rfl (NOp.of (by exact mv3 rfl))) rfl ?_
    refine DF.op 3 [] 8 rfl rfl rfl (.free rfl (by exact h_litF rfl rfl rfl rfl rfl rfl rfl rfl)) rfl ?_
    refine DF.op 4 [2,3] 8 rfl rfl rfl (.free rfl (by exact h_fun (cs := [0]) en_among rfl rfl (by repeat (first | exact rfl | exact DLead.same | refine ⟨_, _, rfl, ?_, ?_⟩ | refine ⟨_, rfl, ?_⟩)) (by repeat (first | exact True.intro | refine And.intro ?_ ?_ | exact DLead.same | exact rfl | refine ⟨_, _, rfl, rfl, ?_⟩ | refine ⟨_, rfl, ?_⟩ | refine ⟨_, _, rfl, ?_, ?_⟩)) ha1 rfl rfl rfl rfl)) rfl ?_
    refine DF.op 5 [0,1,2,3,4] 8 rfl rfl rfl (.free rfl (NOp.of (by exact g_ia_own (i := 0) (l := (y0 :: lb').length) rfl rfl rfl rfl rfl rfl (by omega) rfl))) rfl ?_
    refine DF.op 6 [0,1,2,3,4,5] 8 rfl rfl rfl (.free rfl (NOp.of (by exact g_fa_ptr rfl rfl rfl rfl rfl))) rfl ?_
    refine DF.op 7 [0,1,2,3,4,5,6] 8 rfl rfl rfl (.free rfl (by exact h_store_arr (i := 0) (j := 0) (cs := labD y0) (d := dI (badSig (pc.pick 3).1)) rfl rfl rfl rfl .same rfl rfl (by decide))) rfl ?_
    refine DF.fin (ps := [(0,2),(0,3),(0,4),(1,2),(1,3),(1,4),(2,0),(2,1),(2,3),(3,0),(3,1),(3,2),(4,0),(4,1)]) 8 rfl (by decide +kernel) (by decide +kernel) (by rfl) ?_
    refine ib_n (th_n ?_)
    (have e := hT.trans ((if_neg h0).trans (if_pos h1)); exact ⟨A, rfl, (Weak.freezeP 3 3 rfl rfl rfl rfl (by simp) (List.take_of_length_le (by simp)) rfl).trans (Weak.ren _ [(200, _), (101, _), (201, _)] hC rfl (by repeat (first | exact True.intro | refine And.intro ?_ ?_ | exact rfl | refine ⟨_, rfl, ?_⟩)) (by rw [e]; repeat (first | exact True.intro | refine And.intro ?_ ?_ | exact DLead.same | exact rfl | refine ⟨_, _, rfl, rfl, ?_⟩ | refine ⟨_, rfl, ?_⟩ | refine ⟨_, _, rfl, ?_, ?_⟩)) rfl rfl rfl)⟩)
   ·refine AC.seq (AC.region ?_)
    refine AL.p (by exact g_cmp rfl rfl rfl) rfl ?_
    refine AL.p (by exact as1 rfl) rfl ?_
    refine AL.nil (th_n ?_)
    refine AC.condD rfl (fun h2 => ?_) (fun h2 => ?_)
    ·refine AC.drawn' mixed_ok [[], [0], [], [], [2,3], [0,1,2,3,4], [0,1,2,3,4,5], [0,1,2,3,4,5,6]] (by decide) ?_
     refine DF.op 0 [] 8 rfl rfl rfl (.free rfl (NOp.of (by exact g_fa_ptr rfl rfl rfl rfl rfl))) rfl ?_
     refine DF.op 1 [0] 8 rfl rfl rfl (.free rfl (NOp.of (by exact g_load_ptr rfl rfl rfl rfl rfl))) rfl ?_
     refine DF.op 2 [] 8 rfl rfl rfl (.free rfl (NOp.of (by exact mv3 rfl))) rfl ?_
     refine DF.op 3 [] 8 rfl rfl rfl (.free rfl (by exact h_litF rfl rfl rfl rfl rfl rfl rfl rfl)) rfl ?_
     refine DF.op 4 [2,3] 8 rfl rfl rfl (.free rfl (by exact h_fun (cs := [0]) en_of rfl rfl (by repeat (first | exact rfl | exact DLead.same | refine ⟨_, _, rfl, ?_, ?_⟩ | refine ⟨_, rfl, ?_⟩)) (by repeat (first | exact True.intro | refine And.intro ?_ ?_ | exact DLead.same | exact rfl | refine ⟨_, _, rfl, rfl, ?_⟩ | refine ⟨_, rfl, ?_⟩ | refine ⟨_, _, rfl, ?_, ?_⟩)) ha2 rfl rfl rfl rfl)) rfl ?_
     refine DF.op 5 [0,1,2,3,4] 8 rfl rfl rfl (.free rfl (NOp.of (by exact g_ia_own (i := 0) (l := (x0 :: sg').length) rfl rfl rfl rfl rfl rfl (by omega) rfl))) rfl ?_
     refine DF.op 6 [0,1,2,3,4,5] 8 rfl rfl rfl (.free rfl (NOp.of (by exact g_fa_ptr rfl rfl rfl rfl rfl))) rfl ?_
     refine DF.op 7 [0,1,2,3,4,5,6] 8 rfl rfl rfl (.free rfl (by exact h_store_arr (i := 0) (j := 0) (cs := sigD x0) (d := dS (bstr (badName (pc.pick 4).1))) rfl rfl rfl rfl .same rfl rfl (by decide))) rfl ?_
     refine DF.fin (ps := [(0,2),(0,3),(0,4),(1,2),(1,3),(1,4),(2,0),(2,1),(2,3),(3,0),(3,1),(3,2),(4,0),(4,1)]) 8 rfl (by decide +kernel) (by decide +kernel) (by rfl) ?_
     refine ib_n (th_n ?_)
     (have e := hT.trans ((if_neg h0).trans ((if_neg h1).trans (if_pos h2))); exact ⟨A, rfl, (Weak.freezeP 3 3 rfl rfl rfl rfl (ownl _ _) (ownt _ _) rfl).trans (Weak.ren _ [(200, _), (101, _), (201, _)] hC rfl (by repeat (first | exact True.intro | refine And.intro ?_ ?_ | exact rfl | refine ⟨_, rfl, ?_⟩)) (by rw [e]; repeat (first | exact True.intro | refine And.intro ?_ ?_ | exact DLead.same | exact rfl | refine ⟨_, _, rfl, rfl, ?_⟩ | refine ⟨_, rfl, ?_⟩ | refine ⟨_, _, rfl, ?_, ?_⟩)) rfl rfl rfl)⟩)
    ·refine AC.seq (AC.region ?_)
     refine AL.p (by exact g_cmp rfl rfl rfl) rfl ?_
     refine AL.p (by exact as1 rfl) rfl ?_
     refine AL.nil (th_n ?_)
     refine AC.condD rfl (fun h3 => ?_) (fun h3 => ?_)
     ·refine AC.drawn' mixed_ok [[], [0], [], [], [2,3], [0,1,2,3,4], [0,1,2,3,4,5], [0,1,2,3,4,5,6]] (by decide) ?_
      refine DF.op 0 [] 8 rfl rfl rfl (.free rfl (NOp.of (by exact g_fa_ptr rfl rfl rfl rfl rfl))) rfl ?_
      refine DF.op 1 [0] 8 rfl rfl rfl (.free rfl (NOp.of (by exact g_load_ptr rfl rfl rfl rfl rfl))) rfl ?_
      refine DF.op 2 [] 8 rfl rfl rfl (.free rfl (NOp.of (by exact mv3 rfl))) rfl ?_
      refine DF.op 3 [] 8 rfl rfl rfl (.free rfl (by exact h_litF rfl rfl rfl rfl rfl rfl rfl rfl)) rfl ?_
      refine DF.op 4 [2,3] 8 rfl rfl rfl (.free rfl (by exact h_fun (cs := [0]) en_among rfl rfl (by repeat (first | exact rfl | exact DLead.same | refine ⟨_, _, rfl, ?_, ?_⟩ | refine ⟨_, rfl, ?_⟩)) (by repeat (first | exact True.intro | refine And.intro ?_ ?_ | exact DLead.same | exact rfl | refine ⟨_, _, rfl, rfl, ?_⟩ | refine ⟨_, rfl, ?_⟩ | refine ⟨_, _, rfl, ?_, ?_⟩)) ha3 rfl rfl rfl rfl)) rfl ?_
      refine DF.op 5 [0,1,2,3,4] 8 rfl rfl rfl (.free rfl (NOp.of (by exact g_ia_own (i := 0) (l := (x0 :: sg').length) rfl rfl rfl rfl rfl rfl (by omega) rfl))) rfl ?_
      refine DF.op 6 [0,1,2,3,4,5] 8 rfl rfl rfl (.free rfl (NOp.of (by exact g_fa_ptr rfl rfl rfl rfl rfl))) rfl ?_
      refine DF.op 7 [0,1,2,3,4,5,6] 8 rfl rfl rfl (.free rfl (by exact h_store_arr (i := 0) (j := 1) (cs := sigD x0) (d := dI (badKind (pc.pick 3).1)) rfl rfl rfl rfl .same rfl rfl (by decide))) rfl ?_
      refine DF.fin (ps := [(0,2),(0,3),(0,4),(1,2),(1,3),(1,4),(2,0),(2,1),(2,3),(3,0),(3,1),(3,2),(4,0),(4,1)]) 8 rfl (by decide +kernel) (by decide +kernel) (by rfl) ?_
      refine ib_n (th_n ?_)
      (have e := hT.trans ((if_neg h0).trans ((if_neg h1).trans ((if_neg h2).trans (if_pos h3)))); exact ⟨A, rfl, (Weak.freezeP 3 3 rfl rfl rfl rfl (ownl _ _) (ownt _ _) rfl).trans (Weak.ren _ [(200, _), (101, _), (201, _)] hC rfl (by repeat (first | exact True.intro | refine And.intro ?_ ?_ | exact rfl | refine ⟨_, rfl, ?_⟩)) (by rw [e]; repeat (first | exact True.intro | refine And.intro ?_ ?_ | exact DLead.same | exact rfl | refine ⟨_, _, rfl, rfl, ?_⟩ | refine ⟨_, rfl, ?_⟩ | refine ⟨_, _, rfl, ?_, ?_⟩)) rfl rfl rfl)⟩)
     ·refine AC.seq (AC.region ?_)
      refine AL.p (by exact g_cmp rfl rfl rfl) rfl ?_
      refine AL.p (by exact as1 rfl) rfl ?_
      refine AL.nil (th_n ?_)
      refine AC.condD rfl (fun h4 => ?_) (fun h4 => ?_)
      ·refine AC.region ?_
       refine AL.weak (Weak.freezeP 3 3 rfl rfl rfl rfl (ownl _ _) (ownt _ _) rfl) ?_
       refine AL.p (by exact g_fa_ptr rfl rfl rfl rfl rfl) rfl ?_
       refine AL.p (by exact g_load_ptr rfl rfl rfl rfl rfl) rfl ?_
       refine AL.p (by exact g_slice_view (r := labsL lb') (l := 1) (h := (labsL (y0 :: lb')).length) rfl rfl rfl rfl (.some rfl rfl) .none (by rw [labsL_len]; omega) (Nat.le_refl _) (by rw [List.take_length]; rfl)) rfl ?_
       refine AL.p (by exact g_fa_ptr rfl rfl rfl rfl rfl) rfl ?_
       refine AL.q (by exact h_store rfl rfl rfl rfl rfl rfl) rfl ?_
       refine AL.nil (ib_n (th_n ?_))
       (have e := hT.trans ((if_neg h0).trans ((if_neg h1).trans ((if_neg h2).trans ((if_neg h3).trans (if_pos h4))))); exact ⟨A, rfl, Weak.ren _ [(200, _), (101, _), (201, _)] hC rfl (by repeat (first | exact True.intro | refine And.intro ?_ ?_ | exact rfl | refine ⟨_, rfl, ?_⟩)) (by rw [e]; repeat (first | exact True.intro | refine And.intro ?_ ?_ | exact DLead.same | exact rfl | refine ⟨_, _, rfl, rfl, ?_⟩ | refine ⟨_, rfl, ?_⟩ | refine ⟨_, _, rfl, ?_, ?_⟩)) rfl rfl rfl⟩)
      ·refine AC.skip (ib_n (th_n ?_))
       (have e := hT.trans ((if_neg h0).trans ((if_neg h1).trans ((if_neg h2).trans ((if_neg h3).trans (if_neg h4))))); exact ⟨A, rfl, (Weak.freezeP 3 3 rfl rfl rfl rfl (ownl _ _) (ownt _ _) rfl).trans (Weak.ren _ [(200, _), (101, _), (201, _)] hC rfl (by repeat (first | exact True.intro | refine And.intro ?_ ?_ | exact rfl | refine ⟨_, rfl, ?_⟩)) (by rw [e]; repeat (first | exact True.intro | refine And.intro ?_ ?_ | exact DLead.same | exact rfl | refine ⟨_, _, rfl, rfl, ?_⟩ | refine ⟨_, rfl, ?_⟩ | refine ⟨_, _, rfl, ?_, ?_⟩)) rfl rfl rfl)⟩)
 ·rintro x rfl
  refine AC.seq (AC.region ?_)
  refine AL.p (by exact g_load_ptrN rfl rfl rfl rfl rfl) rfl ?_
  refine AL.q (by exact h_store rfl rfl rfl rfl rfl rfl) rfl ?_
  refine AL.nil (th_n (AC.ret (bq_r ?_)))
  exact retN [(1, 101)] rfl (by repeat (first | exact rfl | exact DLead.same | refine ⟨_, _, rfl, ?_, ?_⟩ | refine ⟨_, rfl, ?_⟩)) (by repeat (first | exact True.intro | refine And.intro ?_ ?_ | exact DLead.same | exact rfl | refine ⟨_, _, rfl, rfl, ?_⟩ | refine ⟨_, rfl, ?_⟩ | refine ⟨_, _, rfl, ?_, ?_⟩)) rfl rfl
theorem en_anyStg : Enters Tryz.prog 126 := enters_of Tryz.func126 rfl rfl
theorem of_any (c : Cur) (L : List (List UInt8)) (h0 : 0 < L.length) (hl : L.length ≤ 65536) (hp : c.pos ≤ 100000000000000) : ASpec Tryz.prog 131 [.ptr 0 0, .d (vSx L)] [(0, curC c)] (Fun1 (aS (bstr (L.getD (c.pick L.length).1.toNat []))) [(0, curC (c.pick L.length).2)]) := by
 have hi := c.pick_in L.length (by omega)
 have h := of_spec c (sxL L) (bstr (L.getD (c.pick L.length).1.toNat [])) (by rw [sxL_len]; exact h0) (by rw [sxL_len]; exact hl) hp (by
  rw [sxL_len, sxL_get (show (c.pick L.length).1.toNat < L.length by omega), List.getD_eq_getElem?_getD, List.getElem?_eq_getElem (show (c.pick L.length).1.toNat < L.length by omega)]; rfl)
 rw [sxL_len] at h
 exact h
def StgE (pos : Nat) : AV → List (Nat × Chunk) → Prop := fun r chs => ∃ (s : Stg) (c : Cur), (StgS s ∧ c.pos ≤ pos) ∧ r = stgA s ∧ chs = [(0, curC c)]
def StgE0 : AV → List (Nat × Chunk) → Prop := fun r chs => ∃ (s : Stg), StgS s ∧ r = stgA s ∧ chs = []
structure ExS (x : Ex) : Prop where
 n : x.marks.length ≤ 1000
 l : x.moves.length ≤ 10000
def RgE (pos : Nat) : AV → List (Nat × Chunk) → Prop := fun r chs => ∃ (x : Ex) (c : Cur), (ExS x ∧ c.pos ≤ pos) ∧ r = rgA x ∧ chs = [(0, curC c)]
def RgN : AV → List (Nat × Chunk) → Prop := fun r chs => ∃ (x : Ex) (k : Int), (ExS x ∧ -10 ≤ k ∧ k ≤ 2000) ∧ r = .tup [rgA x, aI k] ∧ chs = []
set_option maxHeartbeats 4000000 in
theorem looseStg_spec (c : Cur) (hp : c.pos ≤ 100000) : ASpec Tryz.prog 95 [.ptr 0 0] [(0, curC c)] (StgE (c.pos + 300)) := by
 have hO := one_spec c 2 (by decide) (by omega)
 have hp2 := c.pick_pos 2
 obtain ⟨d, hd⟩ : ∃ d, d = (c.pick 2).2 := ⟨_, rfl⟩
 obtain ⟨b, hb⟩ : ∃ b, b = decide ((c.pick 2).1 = 0) := ⟨_, rfl⟩
 rw [← hd] at hO hp2
 rw [← hb] at hO
 have hA := anyStg_spec d (by omega)
 have hAi := anyI_in d
 obtain ⟨A, hAA⟩ : ∃ A, A = anyI d := ⟨_, rfl⟩
 rw [← hAA] at hA hAi
 have hN := net_spec d (by omega)
 have hNi := d.netT_in
 have hPi := d.netP_in
 obtain ⟨T, hT⟩ : ∃ T, T = d.netT := ⟨_, rfl⟩
 obtain ⟨p, hpp⟩ : ∃ p, p = d.netP := ⟨_, rfl⟩
 rw [← hT] at hN hNi
 rw [← hpp] at hN hPi
 have hM := markOf_spec T.2 p (by omega) (by omega) (by have := hNi.2.2.1; omega)
 have hMl := markOf_len T.2 p
 obtain ⟨m, hm⟩ : ∃ m, m = T.2.markOf p := ⟨_, rfl⟩
 rw [← hm] at hM hMl
 clear hd hb hAA hT hpp hm
 refine ASpec.of Tryz.func95 rfl rfl fun C hC => ?_
 refine AC.seq (AC.region ?_)
 refine AL.q (by exact h_alloc rfl) rfl ?_
 refine AL.nil (th_n (AC.seq (AC.seq (AC.region ?_))))
 refine AL.p (by exact mv3 rfl) rfl ?_
 refine AL.q (by exact h_fun (cs := [0]) en_one rfl rfl (by repeat (first | exact rfl | exact DLead.same | refine ⟨_, _, rfl, ?_, ?_⟩ | refine ⟨_, rfl, ?_⟩)) (by repeat (first | exact True.intro | refine And.intro ?_ ?_ | exact DLead.same | exact rfl | refine ⟨_, _, rfl, rfl, ?_⟩ | refine ⟨_, rfl, ?_⟩ | refine ⟨_, _, rfl, ?_, ?_⟩)) hO rfl rfl rfl rfl) rfl ?_
 refine AL.nil (th_n ?_)
 refine AC.condB rfl (fun h0 => ?_) (fun h0 => ?_)
 ·refine AC.seq (AC.region ?_)
  refine AL.p (by exact mv3 rfl) rfl ?_
  refine AL.q (by exact h_fun (cs := [0]) en_anyStg rfl rfl (by repeat (first | exact rfl | refine ⟨_, _, rfl, ?_, ?_⟩ | refine ⟨_, rfl, ?_⟩)) (by repeat (first | exact True.intro | refine And.intro ?_ ?_ | exact DLead.same | exact rfl | refine ⟨_, _, rfl, rfl, ?_⟩ | refine ⟨_, rfl, ?_⟩ | refine ⟨_, _, rfl, ?_, ?_⟩)) hA rfl rfl rfl rfl) rfl ?_
  refine AL.weak (Weak.freezeA (i := 8) (k := 2) rfl rfl rfl (ownl _ _) (ownt _ _)) ?_
  refine AL.q (by exact h_store rfl rfl rfl rfl rfl rfl) rfl ?_
  refine AL.nil (th_n (AC.ret (th_r (bq_r ?_))))
  exact retX [] rfl ⟨A.1, A.2, ⟨hAi.1, by omega⟩, rfl, rfl⟩ (by repeat (first | exact DLead.same | exact rfl | refine ⟨_, rfl, ?_⟩ | refine ⟨_, _, rfl, ?_, ?_⟩)) (by repeat (first | exact True.intro | refine And.intro ?_ ?_ | exact DLead.same | exact rfl | refine ⟨_, _, rfl, rfl, ?_⟩ | refine ⟨_, rfl, ?_⟩ | refine ⟨_, _, rfl, ?_, ?_⟩)) rfl rfl
 ·refine AC.skip (th_n (AC.seq (AC.region ?_)))
  refine AL.p (by exact mv3 rfl) rfl ?_
  refine AL.q (by exact h_fun (cs := [0]) en_net rfl rfl (by repeat (first | exact rfl | refine ⟨_, _, rfl, ?_, ?_⟩ | refine ⟨_, rfl, ?_⟩)) (by repeat (first | exact True.intro | refine And.intro ?_ ?_ | exact DLead.same | exact rfl | refine ⟨_, _, rfl, rfl, ?_⟩ | refine ⟨_, rfl, ?_⟩ | refine ⟨_, _, rfl, ?_, ?_⟩)) hN rfl rfl rfl rfl) rfl ?_
  refine AL.weak (Weak.freezeA (i := 10) (k := 1) rfl rfl rfl (ownl _ _) (ownt _ _)) ?_
  refine AL.q (by exact h_alloc rfl) rfl ?_
  refine AL.q (by exact h_store rfl rfl rfl rfl rfl rfl) rfl ?_
  refine AL.nil (th_n (AC.seq ?_))
  refine AC.weak (t := ⟨35, 300, [(0, .ptr 0 0), (2, .ptr 201 0), (3, .ptr 202 0)], [(0, some (curC T.2)), (201, some (.cells 30 zStg)), (202, some (.cells 26 [aI p, .d (vTs T.1)]))]⟩) (Weak.ren _ [(201, _), (202, _)] hC rfl (by repeat (first | exact True.intro | refine And.intro ?_ ?_ | exact rfl | refine ⟨_, rfl, ?_⟩)) (by repeat (first | exact True.intro | refine And.intro ?_ ?_ | exact DLead.same | exact rfl | refine ⟨_, _, rfl, rfl, ?_⟩ | refine ⟨_, rfl, ?_⟩ | refine ⟨_, _, rfl, ?_, ?_⟩)) rfl rfl rfl) ?_
  refine AC.drawn' mixed_ok [[], [], [1], [], [], [4], [3,4,5], [0,1,2,3,4,5,6], [], [0,1,2,3,4,5,6,7,8]] (by decide) ?_
  refine DF.op 0 [] 10 rfl rfl rfl (.free rfl (NOp.of (by exact g_load_ptrN rfl rfl rfl rfl rfl))) rfl ?_
  refine DF.op 1 [] 10 rfl rfl rfl (.free rfl (NOp.of (by exact g_build rfl rfl rfl))) rfl ?_
  refine DF.op 2 [1] 10 rfl rfl rfl (.free rfl (by exact h_litF rfl rfl rfl rfl rfl rfl rfl rfl)) rfl ?_
  refine DF.op 3 [] 10 rfl rfl rfl (.free rfl (NOp.of (by exact mv3 rfl))) rfl ?_
  refine DF.op 4 [] 10 rfl rfl rfl (.free rfl (NOp.of (by exact g_fa_ptr rfl rfl rfl rfl rfl))) rfl ?_
  refine DF.op 5 [4] 10 rfl rfl rfl (.free rfl (NOp.of (by exact g_load_ptr rfl rfl rfl rfl rfl))) rfl ?_
  refine DF.op 6 [3,4,5] 10 rfl rfl rfl (.free rfl (by exact h_fun (cs := [0]) en_markOf rfl rfl (by repeat (first | exact rfl | exact DLead.same | refine ⟨_, _, rfl, ?_, ?_⟩ | refine ⟨_, rfl, ?_⟩)) (by repeat (first | exact True.intro | refine And.intro ?_ ?_ | exact DLead.same | exact rfl | refine ⟨_, _, rfl, rfl, ?_⟩ | refine ⟨_, rfl, ?_⟩ | refine ⟨_, _, rfl, ?_, ?_⟩)) hM rfl rfl rfl rfl)) rfl ?_
  refine DF.op 7 [0,1,2,3,4,5,6] 10 rfl rfl rfl (.free rfl (NOp.of (by exact g_build rfl rfl rfl))) rfl ?_
  refine DF.op 8 [] 10 rfl rfl rfl (.free rfl (by exact h_alloc rfl)) rfl ?_
  refine DF.op 9 (List.range 9) 10 rfl rfl rfl (.free rfl (by exact h_store rfl rfl rfl rfl rfl rfl)) rfl ?_
  refine DF.fin (ps := [(0,1),(0,2),(0,3),(0,4),(0,5),(0,6),(0,8),(1,0),(1,3),(1,4),(1,5),(1,6),(1,8),(2,0),(2,3),(2,4),(2,5),(2,6),(2,8),(3,0),(3,1),(3,2),(3,4),(3,5),(3,8),(4,0),(4,1),(4,2),(4,3),(4,8),(5,0),(5,1),(5,2),(5,3),(5,8),(6,0),(6,1),(6,2),(6,8),(7,8),(8,0),(8,1),(8,2),(8,3),(8,4),(8,5),(8,6),(8,7)]) 10 rfl (by decide +kernel) (by decide +kernel) (by rfl) ?_
  refine th_n (AC.seq (AC.seq ?_))
  refine AC.weak (t := ⟨35, 500, [(0, .ptr 0 0), (2, .ptr 201 0), (3, .ptr 202 0), (4, .ptr 200 0)], [(0, some (curC m.2)), (201, some (.cells 30 zStg)), (202, some (.cells 26 [aI p, .d (vTs T.1)])), (200, some (.cells 30 [aI p, .d (vTs T.1), .d (vSigs [⟨[97], 1⟩]), .d (.val (.slice none 0 0)), aS (bstr m.1)]))]⟩) (Weak.ren _ [(201, 201), (202, 202), (200, _)] hC rfl (by repeat (first | exact True.intro | refine And.intro ?_ ?_ | exact rfl | refine ⟨_, rfl, ?_⟩)) (by repeat (first | exact True.intro | refine And.intro ?_ ?_ | exact DLead.same | exact rfl | refine ⟨_, _, rfl, rfl, ?_⟩ | refine ⟨_, rfl, ?_⟩ | refine ⟨_, _, rfl, ?_, ?_⟩)) rfl rfl rfl) ?_
  refine AC.region ?_
  refine AL.p (by exact g_fa_ptr rfl rfl rfl rfl rfl) rfl ?_
  refine AL.p (by exact g_load_ptr rfl rfl rfl rfl rfl) rfl ?_
  refine AL.p (by exact g_len_view (k := T.1.length) rfl rfl (tsL_len _)) rfl ?_
  refine AL.p (by exact mv1 rfl) rfl ?_
  refine AL.nil (th_n (AC.block ?_))
  refine AC.loop (ι := Nat × Cur × List Lab) (fun y => ⟨35, 800, [(0, .ptr 0 0), (2, .ptr 201 0), (4, .ptr 200 0), (21, aI T.1.length), (22, aI y.1)], [(0, some (curC y.2.1)), (201, some (.cells 30 zStg)), (200, some (.cells 30 [aI p, .d (vTs T.1), .d (vSigs [⟨[97], 1⟩]), .own 100 y.2.2.length, aS (bstr m.1)])), (100, some (.arr 156 2 (labsL y.2.2)))]⟩) (fun y => y.1 ≤ T.1.length ∧ y.2.2.length = y.1 ∧ y.2.1.pos ≤ m.2.pos + 2 * y.1 ∧ ∀ x, x ∈ y.2.2 → -10 ≤ x.sig ∧ x.sig ≤ 10) (fun y => T.1.length - y.1) ((0, m.2, [])) ?_ (⟨Nat.zero_le _, rfl, Nat.le_refl _, fun x hx => by simp at hx⟩) ?_
  ·exact (Weak.nilOwnP 4 3 (e := 156) (sz := 2) rfl rfl rfl rfl rfl).trans (Weak.ren _ [(201, 201), (200, 200), (100, _)] hC rfl (by repeat (first | exact True.intro | refine And.intro ?_ ?_ | exact DLead.same | exact rfl | refine ⟨_, rfl, ?_⟩)) (by repeat (first | exact True.intro | refine And.intro ?_ ?_ | exact DLead.same | exact rfl | refine ⟨_, _, rfl, rfl, ?_⟩ | refine ⟨_, rfl, ?_⟩ | refine ⟨_, _, rfl, ?_, ?_⟩)) rfl rfl rfl)
  ·rintro ⟨j, e, acc⟩ ⟨hj, hal, hep, hax⟩
   dsimp only at hj hal hep hax ⊢
   refine AC.seq (AC.region ?_)
   refine AL.p (by exact g_cmp rfl rfl rfl) rfl ?_
   refine AL.nil (th_n (AC.seq ?_))
   refine AC.condD rfl (fun h1 => ?_) (fun h1 => ?_)
   ·refine AC.skip (th_n (AC.seq (AC.block ?_)))
    have hT4 := hNi.1
    have hK := pick_spec e 2 (by decide) (by omega)
    have hKi := e.pick_in 2 (by decide)
    have hKp := e.pick_pos 2
    obtain ⟨q, hq⟩ : ∃ q, q = e.pick 2 := ⟨_, rfl⟩
    rw [← hq] at hK hKi hKp
    refine AC.drawn' mixed_ok [[], [0], [], [2], [2,3], [2,3,4], [2,3,4,5], [0,1,2,3,4,5,6], [0,1,2,3,4,5,6,7], [0,1,2,3,4,5,6,7,8]] (by decide) ?_
    refine DF.op 0 [] 10 rfl rfl rfl (.free rfl (NOp.of (by exact g_fa_ptr rfl rfl rfl rfl rfl))) rfl ?_
    refine DF.op 1 [0] 10 rfl rfl rfl (.free rfl (NOp.of (by exact g_load_ptr rfl rfl rfl rfl rfl))) rfl ?_
    refine DF.op 2 [] 10 rfl rfl rfl (.free rfl (NOp.of (by exact mv3 rfl))) rfl ?_
    refine DF.op 3 [2] 10 rfl rfl rfl (.free rfl (by exact h_fun (cs := [0]) en_pick rfl rfl (by repeat (first | exact rfl | exact DLead.same | refine ⟨_, _, rfl, ?_, ?_⟩ | refine ⟨_, rfl, ?_⟩)) (by repeat (first | exact True.intro | refine And.intro ?_ ?_ | exact DLead.same | exact rfl | refine ⟨_, _, rfl, rfl, ?_⟩ | refine ⟨_, rfl, ?_⟩ | refine ⟨_, _, rfl, ?_, ?_⟩)) hK rfl rfl rfl rfl)) rfl ?_
    refine DF.op 4 [2,3] 10 rfl rfl rfl (.free rfl (NOp.of (by exact g_neg rfl (by exact wrap_i64 (by omega))))) rfl ?_
    refine DF.op 5 [2,3,4] 10 rfl rfl rfl (.free rfl (NOp.of (by exact g_build rfl rfl rfl))) rfl ?_
    refine DF.op 6 [2,3,4,5] 10 rfl rfl rfl (.free rfl (by exact h_litF rfl rfl rfl rfl rfl rfl rfl rfl)) rfl ?_
    refine DF.op 7 [0,1,2,3,4,5,6] 10 rfl rfl rfl (.free rfl (by exact h_appendLx acc [⟨0 - q.1, false⟩] (.own rfl rfl (labsL_len _).symm) (.view rfl) (by rw [List.length_append]; simp only [List.length_cons, List.length_nil]; omega) (by simp))) rfl ?_
    refine DF.op 8 [0,1,2,3,4,5,6,7] 10 rfl rfl rfl (.free rfl (NOp.of (by exact g_fa_ptr rfl rfl rfl rfl rfl))) rfl ?_
    refine DF.op 9 (List.range 9) 10 rfl rfl rfl (.free rfl (by exact h_store rfl rfl rfl rfl rfl rfl)) rfl ?_
    refine DF.fin (ps := [(0,2),(0,3),(0,4),(0,5),(0,6),(1,2),(1,3),(1,4),(1,5),(1,6),(2,0),(2,1),(3,0),(3,1),(4,0),(4,1),(5,0),(5,1),(6,0),(6,1)]) 10 rfl (by decide +kernel) (by decide +kernel) (by rfl) ?_
    refine ib_n (th_n (AC.region ?_))
    refine AL.p (by exact g_arith rfl rfl rfl (by exact wrap_i64 (by omega))) rfl ?_
    refine AL.p (by exact mv1 rfl) rfl ?_
    refine AL.nil (th_n ?_)
    exact ⟨(j + 1, q.2, acc ++ [⟨0 - q.1, false⟩]), ⟨by dsimp only; omega, by dsimp only; rw [List.length_append]; simp only [List.length_cons, List.length_nil]; omega, by dsimp only; omega, fun x hx => (List.mem_append.1 hx).elim (hax x) (fun g => by rw [List.mem_singleton.1 g]; dsimp only; omega)⟩, by dsimp only; omega, Weak.ren _ [(201, 201), (200, 200), (100, _)] hC rfl (by repeat (first | exact True.intro | refine And.intro ?_ ?_ | exact DLead.same | exact rfl | refine ⟨_, rfl, ?_⟩)) (by repeat (first | exact True.intro | refine And.intro ?_ ?_ | exact DLead.same | exact rfl | refine ⟨_, _, rfl, rfl, ?_⟩ | refine ⟨_, rfl, ?_⟩ | refine ⟨_, _, rfl, ?_, ?_⟩)) rfl rfl rfl⟩
   ·refine AC.exit (th_e (th_e (ib_y (th_n (AC.seq ?_)))))
    refine AC.weak (Weak.freezeP (els' := labsL acc) 4 3 rfl rfl rfl rfl (by rw [labsL_len]; exact Nat.le_refl _) (List.take_of_length_le (by rw [labsL_len]; exact Nat.le_refl _)) rfl) ?_
    refine AC.region ?_
    refine AL.p (by exact g_load_ptrN rfl rfl rfl rfl rfl) rfl ?_
    refine AL.q (by exact h_store rfl rfl rfl rfl rfl rfl) rfl ?_
    refine AL.nil (th_n (AC.ret (bq_r ?_)))
    have hT4 := hNi.1
    exact retX [] rfl ⟨⟨⟨p, T.1⟩, [⟨[97], 1⟩], acc, m.1⟩, e, ⟨⟨⟨by show 0 ≤ p; omega, by show p ≤ 40; omega⟩, by show T.1.length ≤ 13; omega, fun t ht => by have := hNi.2.1 t ht; omega, Nat.le_refl _, by show 1 ≤ 8; omega, fun x hx => by rw [List.mem_singleton.1 hx]; show 1 ≤ 10; omega, by show acc.length ≤ 20; omega, hax, by show m.1.length ≤ 60; omega⟩, by have := hNi.2.2.1; omega⟩, rfl, rfl⟩ (by repeat (first | exact DLead.same | exact rfl | refine ⟨_, rfl, ?_⟩ | refine ⟨_, _, rfl, ?_, ?_⟩)) (by repeat (first | exact True.intro | refine And.intro ?_ ?_ | exact DLead.same | exact rfl | refine ⟨_, _, rfl, rfl, ?_⟩ | refine ⟨_, rfl, ?_⟩ | refine ⟨_, _, rfl, ?_, ?_⟩)) rfl rfl
theorem en_looseStg : Enters Tryz.prog 95 := enters_of Tryz.func95 rfl rfl
theorem sDrawExplore_spec (code : List UInt8) : ASpec Tryz.prog 10 [.d (vB code)] [] StgE0 := by
 have hp0 : (cur0 code).pos = 0 := rfl
 have hL := looseStg_spec (cur0 code) (by omega)
 refine ASpec.of Tryz.func10 rfl rfl fun C hC => ?_
 refine AC.seq (AC.region ?_)
 refine AL.q (by exact h_alloc rfl) rfl ?_
 refine AL.nil (th_n (AC.seq (AC.region ?_)))
 refine AL.p (by exact mv1 rfl) rfl ?_
 refine AL.p (by exact g_build rfl rfl rfl) rfl ?_
 refine AL.q (by exact h_box rfl) rfl ?_
 refine AL.p (by exact as3 rfl) rfl ?_
 refine AL.nil (th_n (AC.seq (AC.region ?_)))
 refine AL.p (by exact mv3 rfl) rfl ?_
 refine AL.r (by exact h_funR (cs := [8]) en_looseStg rfl rfl (by repeat (first | exact rfl | refine ⟨_, _, rfl, ?_, ?_⟩ | refine ⟨_, rfl, ?_⟩)) (by repeat (first | exact True.intro | refine And.intro ?_ ?_ | exact DLead.same | exact rfl | refine ⟨_, _, rfl, rfl, ?_⟩ | refine ⟨_, rfl, ?_⟩ | refine ⟨_, _, rfl, ?_, ?_⟩)) hL rfl rfl rfl) rfl ?_
 rintro _ ⟨_, _, ⟨s, c', ⟨hs, hc'⟩, rfl, rfl⟩, rfl⟩
 refine AL.q (by exact h_store rfl rfl rfl rfl rfl rfl) rfl ?_
 refine AL.nil (th_n (AC.ret (bq_r ?_)))
 exact retX [] rfl ⟨s, hs, rfl, rfl⟩ (by repeat (first | exact DLead.same | exact rfl | refine ⟨_, rfl, ?_⟩ | refine ⟨_, _, rfl, ?_, ?_⟩)) (by repeat (exact True.intro)) rfl rfl
theorem en_sDrawExplore : Enters Tryz.prog 10 := enters_of Tryz.func10 rfl rfl
theorem explS_pos (s : Stg) : 0 < (explS s).1.moves.length → 0 < (explS s).1.marks.length := by
 intro h
 have h2 : (explS s).2 = true := by
  unfold explS at h ⊢
  split
  ·rfl
  ·rename_i hc; rw [if_neg hc] at h; exact absurd h (by decide)
 have := (explS_Expl h2).2.n
 omega
set_option maxHeartbeats 8000000 in
theorem anyReach_spec (c : Cur) (hp : c.pos ≤ 100000) : ASpec Tryz.prog 118 [.ptr 0 0] [(0, curC c)] (RgE (c.pos + 100)) := by
 have hS := stg_spec c (by omega)
 have hSi := stgI_in c
 obtain ⟨A, hAA⟩ : ∃ A, A = stgI c := ⟨_, rfl⟩
 rw [← hAA] at hS hSi
 have hok := (okS_S hSi.1).1
 have hE := sExplore_spec A.1 hok.B
 have hEi := explS_in A.1
 have hE0 := explS_pos A.1
 obtain ⟨X, hX⟩ : ∃ X, X = explS A.1 := ⟨_, rfl⟩
 rw [← hX] at hE hEi hE0
 obtain ⟨⟨M, V⟩, ok⟩ := X
 dsimp only at hE hEi hE0
 have hEi0 := hE0
 clear hAA hX
 refine ASpec.of Tryz.func118 rfl rfl fun C hC => ?_
 refine AC.seq (AC.region ?_)
 refine AL.q (by exact h_alloc rfl) rfl ?_
 refine AL.nil (th_n (AC.seq (AC.region ?_)))
 refine AL.p (by exact mv3 rfl) rfl ?_
 refine AL.q (by exact h_fun (cs := [0]) en_stg rfl rfl (by repeat (first | exact rfl | refine ⟨_, _, rfl, ?_, ?_⟩ | refine ⟨_, rfl, ?_⟩)) (by repeat (first | exact True.intro | refine And.intro ?_ ?_ | exact DLead.same | exact rfl | refine ⟨_, _, rfl, rfl, ?_⟩ | refine ⟨_, rfl, ?_⟩ | refine ⟨_, _, rfl, ?_, ?_⟩)) hS rfl rfl rfl rfl) rfl ?_
 refine AL.weak (Weak.freezeA (i := 7) (k := 2) rfl rfl rfl (ownl _ _) (ownt _ _)) ?_
 refine AL.weak (Weak.freezeA (i := 7) (k := 3) rfl rfl rfl (ownl _ _) (ownt _ _)) ?_
 refine AL.weak (t := ⟨47, 208, [(0, .ptr 0 0), (2, .ptr 201 0), (7, stgA A.1)], [(0, some (curC A.2)), (201, some (.cells 35 zRG))]⟩) (Weak.ren _ [(201, _)] hC rfl (by repeat (first | exact True.intro | refine And.intro ?_ ?_ | exact DLead.same | exact rfl | refine ⟨_, rfl, ?_⟩ | refine ⟨_, _, rfl, ?_, ?_⟩)) (by repeat (first | exact True.intro | refine And.intro ?_ ?_ | exact DLead.same | exact rfl | refine ⟨_, _, rfl, rfl, ?_⟩ | refine ⟨_, rfl, ?_⟩ | refine ⟨_, _, rfl, ?_, ?_⟩)) rfl rfl rfl) ?_
 refine AL.q (by exact h_fun (cs := []) en_sExplore rfl rfl (by repeat (first | exact rfl | exact DLead.same | refine ⟨_, _, rfl, ?_, ?_⟩ | refine ⟨_, rfl, ?_⟩)) (by repeat (exact True.intro)) hE rfl rfl rfl rfl) rfl ?_
 refine AL.p (by exact mv5 rfl) rfl ?_
 refine AL.p (by exact g_extract (r := .agg _) rfl rfl) rfl ?_
 refine AL.p (by exact g_extract (r := .d _) rfl rfl) rfl ?_
 refine AL.q (by exact h_alloc rfl) rfl ?_
 refine AL.q (by exact h_store rfl rfl rfl rfl rfl rfl) rfl ?_
 refine AL.p (by exact as1 rfl) rfl ?_
 refine AL.nil (th_n ?_)
 refine AC.cut (fun (z : Ex × Cur) => ⟨47, 1500, [(2, .ptr 201 0), (3, .ptr 200 0)], [(0, some (curC z.2)), (201, some (.cells 35 zRG)), (200, some (.cells 35 (rgC z.1)))]⟩) (fun z => ExS z.1 ∧ z.2.pos ≤ c.pos + 100) ?_ ?_
 ·refine AC.seq ?_
  refine AC.weak (t := ⟨47, 300, [(0, .ptr 0 0), (2, .ptr 201 0), (3, .ptr 200 0)], [(0, some (curC A.2)), (201, some (.cells 35 zRG)), (200, some (.cells 35 [.own 101 M.length, .own 102 V.length])), (101, some (.arr 9 1 (tsX M))), (102, some (.arr 52 3 (mvL V)))]⟩) (Weak.ren _ [(201, 201), (200, _), (101, _), (102, _)] hC rfl (by repeat (first | exact True.intro | refine And.intro ?_ ?_ | exact rfl | refine ⟨_, rfl, ?_⟩)) (by repeat (first | exact True.intro | refine And.intro ?_ ?_ | exact DLead.same | exact rfl | refine ⟨_, _, rfl, rfl, ?_⟩ | refine ⟨_, rfl, ?_⟩ | refine ⟨_, _, rfl, ?_, ?_⟩)) rfl rfl rfl) ?_
  refine AC.region ?_
  refine AL.p (by exact g_fa_ptr rfl rfl rfl rfl rfl) rfl ?_
  refine AL.p (by exact g_load_ptr rfl rfl rfl rfl rfl) rfl ?_
  refine AL.p (by exact g_len_own (sz := 1) (els := []) (e' := 0) rfl rfl (by simp only [maxLen]; omega)) rfl ?_
  refine AL.p (by exact g_cmp rfl rfl rfl) rfl ?_
  refine AL.nil (th_n ?_)
  refine AC.condD rfl (fun h0 => ?_) (fun h0 => ?_)
  ·refine AC.seq ?_
   have hK := pick_spec A.2 12 (by decide) (by omega)
   have hKp := A.2.pick_pos 12
   obtain ⟨q, hq⟩ : ∃ q, q = A.2.pick 12 := ⟨_, rfl⟩
   rw [← hq] at hK hKp
   have hK2 := pick_spec q.2 12 (by decide) (by omega)
   have hK2i := q.2.pick_in 12 (by decide)
   have hK2p := q.2.pick_pos 12
   obtain ⟨u, hu⟩ : ∃ u, u = q.2.pick 12 := ⟨_, rfl⟩
   rw [← hu] at hK2 hK2i hK2p
   clear hq hu
   refine AC.region ?_
   refine AL.p (by exact mv3 rfl) rfl ?_
   refine AL.q (by exact h_fun (cs := [0]) en_pick rfl rfl (by repeat (first | exact rfl | exact DLead.same | refine ⟨_, _, rfl, ?_, ?_⟩ | refine ⟨_, rfl, ?_⟩)) (by repeat (first | exact True.intro | refine And.intro ?_ ?_ | exact DLead.same | exact rfl | refine ⟨_, _, rfl, rfl, ?_⟩ | refine ⟨_, rfl, ?_⟩ | refine ⟨_, _, rfl, ?_, ?_⟩)) hK rfl rfl rfl rfl) rfl ?_
   refine AL.nil (th_n (AC.block (AC.seq (AC.region ?_))))
   refine AL.p (by exact g_cmp rfl rfl rfl) rfl ?_
   refine AL.p (by exact as1 rfl) rfl ?_
   refine AL.nil (th_n ?_)
   refine AC.condD rfl (fun h1 => ?_) (fun h1 => ?_)
   ·have hV0 : 0 < V.length := by omega
    have hrow := mvL_get hV0
    have hset : (mvL V).set 0 ([dI V[0].from_, dI V[0].by_, dI V[0].to_].set 2 (dI (u.1 - 1))) = mvL (V.set 0 ⟨V[0].from_, V[0].by_, u.1 - 1⟩) := by unfold mvL; rw [List.map_set]; rfl
    have hsl : (V.set 0 ⟨V[0].from_, V[0].by_, u.1 - 1⟩).length = V.length := List.length_set ..
    refine AC.drawn' mixed_ok [[], [0], [], [2], [2,3], [0,1,2,3,4], [0,1,2,3,4,5], [0,1,2,3,4,5,6]] (by decide) ?_
    refine DF.op 0 [] 8 rfl rfl rfl (.free rfl (NOp.of (by exact g_fa_ptr rfl rfl rfl rfl rfl))) rfl ?_
    refine DF.op 1 [0] 8 rfl rfl rfl (.free rfl (NOp.of (by exact g_load_ptr rfl rfl rfl rfl rfl))) rfl ?_
    refine DF.op 2 [] 8 rfl rfl rfl (.free rfl (NOp.of (by exact mv3 rfl))) rfl ?_
    refine DF.op 3 [2] 8 rfl rfl rfl (.free rfl (by exact h_fun (cs := [0]) en_pick rfl rfl (by repeat (first | exact rfl | exact DLead.same | refine ⟨_, _, rfl, ?_, ?_⟩ | refine ⟨_, rfl, ?_⟩)) (by repeat (first | exact True.intro | refine And.intro ?_ ?_ | exact DLead.same | exact rfl | refine ⟨_, _, rfl, rfl, ?_⟩ | refine ⟨_, rfl, ?_⟩ | refine ⟨_, _, rfl, ?_, ?_⟩)) hK2 rfl rfl rfl rfl)) rfl ?_
    refine DF.op 4 [2,3] 8 rfl rfl rfl (.free rfl (NOp.of (by exact g_arith rfl rfl rfl (by exact wrap_i64 (by omega))))) rfl ?_
    refine DF.op 5 [0,1,2,3,4] 8 rfl rfl rfl (.free rfl (NOp.of (by exact g_ia_own (i := 0) (l := V.length) rfl rfl rfl rfl rfl rfl hV0 rfl))) rfl ?_
    refine DF.op 6 [0,1,2,3,4,5] 8 rfl rfl rfl (.free rfl (NOp.of (by exact g_fa_ptr rfl rfl rfl rfl rfl))) rfl ?_
    refine DF.op 7 [0,1,2,3,4,5,6] 8 rfl rfl rfl (.free rfl (by exact h_store_arr (i := 0) (j := 2) (d := dI (u.1 - 1)) rfl rfl rfl rfl .same rfl hrow (by decide))) rfl ?_
    refine DF.fin (ps := [(0,2),(0,3),(0,4),(1,2),(1,3),(1,4),(2,0),(2,1),(3,0),(3,1),(4,0),(4,1)]) 8 rfl (by decide +kernel) (by decide +kernel) (by rfl) ?_
    refine ib_n (th_n ?_)
    (have hg := ‹q.1 = 0›; exact ⟨(⟨M, V.set 0 ⟨V[0].from_, V[0].by_, u.1 - 1⟩⟩, u.2), ⟨⟨by dsimp only; omega, by dsimp only; rw [hsl]; omega⟩, by dsimp only; omega⟩, ((Weak.freezeP (els' := tsX M) 3 0 rfl rfl rfl rfl (by rw [tsX_len]; exact Nat.le_refl _) (List.take_of_length_le (by rw [tsX_len]; exact Nat.le_refl _)) rfl).trans (Weak.freezeP (els' := mvL (V.set 0 ⟨V[0].from_, V[0].by_, u.1 - 1⟩)) 3 1 rfl rfl rfl rfl (by rw [List.length_set, mvL_len]; exact Nat.le_refl _) ((List.take_of_length_le (by rw [List.length_set, mvL_len]; exact Nat.le_refl _)).trans hset) rfl)).trans (Weak.ren _ [(201, 201), (200, 200)] hC rfl (by repeat (first | exact True.intro | refine And.intro ?_ ?_ | exact rfl | refine ⟨_, rfl, ?_⟩)) (by repeat (first | exact True.intro | refine And.intro ?_ ?_ | exact DLead.same | exact rfl | refine ⟨_, _, rfl, rfl, ?_⟩ | refine ⟨_, rfl, ?_⟩ | refine ⟨_, _, rfl, ?_, ?_⟩)) rfl rfl rfl)⟩)
   ·refine AC.seq (AC.region ?_)
    refine AL.p (by exact g_cmp rfl rfl rfl) rfl ?_
    refine AL.p (by exact as1 rfl) rfl ?_
    refine AL.nil (th_n ?_)
    refine AC.condD rfl (fun h2 => ?_) (fun h2 => ?_)
    ·refine AC.weak (Weak.freezeP (els' := mvL V) 3 1 rfl rfl rfl rfl (by rw [mvL_len]; exact Nat.le_refl _) (List.take_of_length_le (by rw [mvL_len]; exact Nat.le_refl _)) rfl) ?_
     refine AC.region ?_
     refine AL.p (by exact g_fa_ptr rfl rfl rfl rfl rfl) rfl ?_
     refine AL.p (by exact g_load_ptr rfl rfl rfl rfl rfl) rfl ?_
     refine AL.p (by exact g_slice_view (l := 1) (h := V.length) (els := mvL V) (r := mvL (V.drop 1)) rfl rfl rfl rfl (.some rfl rfl) (by rw [← mvL_len V]; exact .none) (by omega) (by rw [mvL_len]; exact Nat.le_refl _) (by rw [List.take_of_length_le (by rw [mvL_len]; exact Nat.le_refl _)]; unfold mvL; rw [List.map_drop])) rfl ?_
     refine AL.p (by exact g_fa_ptr rfl rfl rfl rfl rfl) rfl ?_
     refine AL.q (by exact h_store rfl rfl rfl rfl rfl rfl) rfl ?_
     refine AL.nil (ib_n (th_n ?_))
     (have hg := ‹q.1 = 1›; exact ⟨(⟨M, V.drop 1⟩, q.2), ⟨⟨by dsimp only; omega, by dsimp only; rw [List.length_drop]; omega⟩, by dsimp only; omega⟩, (Weak.freezeP (els' := tsX M) 3 0 rfl rfl rfl rfl (by rw [tsX_len]; exact Nat.le_refl _) (List.take_of_length_le (by rw [tsX_len]; exact Nat.le_refl _)) rfl).trans (Weak.ren _ [(201, 201), (200, 200)] hC rfl (by repeat (first | exact True.intro | refine And.intro ?_ ?_ | exact rfl | refine ⟨_, rfl, ?_⟩)) (by repeat (first | exact True.intro | refine And.intro ?_ ?_ | exact DLead.same | exact rfl | refine ⟨_, _, rfl, rfl, ?_⟩ | refine ⟨_, rfl, ?_⟩ | refine ⟨_, _, rfl, ?_, ?_⟩)) rfl rfl rfl)⟩)
    ·refine AC.seq (AC.region ?_)
     refine AL.p (by exact g_cmp rfl rfl rfl) rfl ?_
     refine AL.p (by exact as1 rfl) rfl ?_
     refine AL.nil (th_n ?_)
     refine AC.condD rfl (fun h3 => ?_) (fun h3 => ?_)
     ·have hM0 : 0 < M.length := hEi0 (by omega)
      have hM1 := tsX_get hM0
      have hOf := of_any q.2 [[120], M[0]] (by simp) (by simp) (by omega)
      have hOfp := q.2.pick_pos ((2 : Nat) : Int)
      obtain ⟨r, hr⟩ : ∃ r, r = q.2.pick ((2 : Nat) : Int) := ⟨_, rfl⟩
      rw [show ([[120], M[0]] : List (List UInt8)).length = 2 from rfl, ← hr] at hOf
      rw [← hr] at hOfp
      obtain ⟨st, hst⟩ : ∃ st, st = ([[120], M[0]] : List (List UInt8)).getD r.1.toNat [] := ⟨_, rfl⟩
      rw [← hst] at hOf
      refine AC.drawn' mixed_ok [[], [0], [], [], [3], [3,4], [3,4,5], [3,4,5,6], [2,3,4,5,6,7], [2,3,4,5,6,7,8], [0,1,2,3,4,5,6,7,8,9], [0,1,2,3,4,5,6,7,8,9,10], [0,1,2,3,4,5,6,7,8,9,10,11]] (by decide) ?_
      refine DF.op 0 [] 13 rfl rfl rfl (.free rfl (NOp.of (by exact g_fa_ptr rfl rfl rfl rfl rfl))) rfl ?_
      refine DF.op 1 [0] 13 rfl rfl rfl (.free rfl (NOp.of (by exact g_load_ptr rfl rfl rfl rfl rfl))) rfl ?_
      refine DF.op 2 [] 13 rfl rfl rfl (.free rfl (NOp.of (by exact mv3 rfl))) rfl ?_
      refine DF.op 3 [] 13 rfl rfl rfl (.free rfl (NOp.of (by exact g_fa_ptr rfl rfl rfl rfl rfl))) rfl ?_
      refine DF.op 4 [3] 13 rfl rfl rfl (.free rfl (NOp.of (by exact g_load_ptr rfl rfl rfl rfl rfl))) rfl ?_
      refine DF.op 5 [3,4] 13 rfl rfl rfl (.free rfl (NOp.of (by exact g_ia_own (i := 0) (l := M.length) rfl rfl rfl rfl rfl rfl hM0 rfl))) rfl ?_
      refine DF.op 6 [3,4,5] 13 rfl rfl rfl (.free rfl (NOp.of (by exact g_load_arr1 rfl rfl rfl rfl (by rw [Nat.mul_one]; exact hM1)))) rfl ?_
      refine DF.op 7 [3,4,5,6] 13 rfl rfl rfl (.free rfl (by exact h_litF rfl rfl rfl rfl rfl rfl rfl rfl)) rfl ?_
      refine DF.op 8 [2,3,4,5,6,7] 13 rfl rfl rfl (.free rfl (by exact h_fun (cs := [0]) en_of rfl rfl (by repeat (first | exact rfl | exact DLead.same | refine ⟨_, _, rfl, ?_, ?_⟩ | refine ⟨_, rfl, ?_⟩)) (by repeat (first | exact True.intro | refine And.intro ?_ ?_ | exact DLead.same | exact rfl | refine ⟨_, _, rfl, rfl, ?_⟩ | refine ⟨_, rfl, ?_⟩ | refine ⟨_, _, rfl, ?_, ?_⟩)) hOf rfl rfl rfl rfl)) rfl ?_
      refine DF.op 9 [2,3,4,5,6,7,8] 13 rfl rfl rfl (.free rfl (by exact h_litF rfl rfl rfl rfl rfl rfl rfl rfl)) rfl ?_
      refine DF.op 10 (List.range 10) 13 rfl rfl rfl (.free rfl (by exact h_appendX M [st] (.own rfl rfl (tsX_len _).symm) (.view rfl) (by rw [List.length_append]; simp only [List.length_cons, List.length_nil]; omega) (by simp))) rfl ?_
      refine DF.op 11 (List.range 11) 13 rfl rfl rfl (.free rfl (NOp.of (by exact g_fa_ptr rfl rfl rfl rfl rfl))) rfl ?_
      refine DF.op 12 (List.range 12) 13 rfl rfl rfl (.free rfl (by exact h_store rfl rfl rfl rfl rfl rfl)) rfl ?_
      refine DF.fin (ps := [(0,2),(0,3),(0,4),(0,5),(0,6),(0,7),(0,8),(0,9),(1,2),(1,3),(1,4),(1,5),(1,6),(1,7),(1,8),(1,9),(2,0),(2,1),(2,3),(2,4),(2,5),(2,6),(2,7),(3,0),(3,1),(3,2),(4,0),(4,1),(4,2),(5,0),(5,1),(5,2),(6,0),(6,1),(6,2),(7,0),(7,1),(7,2),(8,0),(8,1),(9,0),(9,1)]) 13 rfl (by decide +kernel) (by decide +kernel) (by rfl) ?_
      refine ib_n (th_n ?_)
      (have hg := ‹q.1 = 2›; exact ⟨(⟨M ++ [st], V⟩, r.2), ⟨⟨by dsimp only; rw [List.length_append, List.length_singleton]; omega, by dsimp only; omega⟩, by dsimp only; omega⟩, ((Weak.freezeP (els' := tsX (M ++ [st])) 3 0 rfl rfl rfl rfl (by rw [tsX_len]; exact Nat.le_refl _) (List.take_of_length_le (by rw [tsX_len]; exact Nat.le_refl _)) rfl).trans (Weak.freezeP (els' := mvL V) 3 1 rfl rfl rfl rfl (by rw [mvL_len]; exact Nat.le_refl _) (List.take_of_length_le (by rw [mvL_len]; exact Nat.le_refl _)) rfl)).trans (Weak.ren _ [(201, 201), (200, 200)] hC rfl (by repeat (first | exact True.intro | refine And.intro ?_ ?_ | exact rfl | refine ⟨_, rfl, ?_⟩)) (by repeat (first | exact True.intro | refine And.intro ?_ ?_ | exact DLead.same | exact rfl | refine ⟨_, _, rfl, rfl, ?_⟩ | refine ⟨_, rfl, ?_⟩ | refine ⟨_, _, rfl, ?_, ?_⟩)) rfl rfl rfl)⟩)
     ·refine AC.skip (ib_n (th_n ?_))
      (have hg := ‹¬ q.1 = 2›; exact ⟨(⟨M, V⟩, q.2), ⟨⟨by dsimp only; omega, by dsimp only; omega⟩, by dsimp only; omega⟩, ((Weak.freezeP (els' := tsX M) 3 0 rfl rfl rfl rfl (by rw [tsX_len]; exact Nat.le_refl _) (List.take_of_length_le (by rw [tsX_len]; exact Nat.le_refl _)) rfl).trans (Weak.freezeP (els' := mvL V) 3 1 rfl rfl rfl rfl (by rw [mvL_len]; exact Nat.le_refl _) (List.take_of_length_le (by rw [mvL_len]; exact Nat.le_refl _)) rfl)).trans (Weak.ren _ [(201, 201), (200, 200)] hC rfl (by repeat (first | exact True.intro | refine And.intro ?_ ?_ | exact rfl | refine ⟨_, rfl, ?_⟩)) (by repeat (first | exact True.intro | refine And.intro ?_ ?_ | exact DLead.same | exact rfl | refine ⟨_, _, rfl, rfl, ?_⟩ | refine ⟨_, rfl, ?_⟩ | refine ⟨_, _, rfl, ?_, ?_⟩)) rfl rfl rfl)⟩)
  ·refine AC.skip (th_n ?_)
   (have hg := ‹¬ (0 : Int) < (V.length : Int)›; exact ⟨(⟨M, V⟩, A.2), ⟨⟨by dsimp only; omega, by dsimp only; omega⟩, by dsimp only; omega⟩, ((Weak.freezeP (els' := tsX M) 3 0 rfl rfl rfl rfl (by rw [tsX_len]; exact Nat.le_refl _) (List.take_of_length_le (by rw [tsX_len]; exact Nat.le_refl _)) rfl).trans (Weak.freezeP (els' := mvL V) 3 1 rfl rfl rfl rfl (by rw [mvL_len]; exact Nat.le_refl _) (List.take_of_length_le (by rw [mvL_len]; exact Nat.le_refl _)) rfl)).trans (Weak.ren _ [(201, 201), (200, 200)] hC rfl (by repeat (first | exact True.intro | refine And.intro ?_ ?_ | exact rfl | refine ⟨_, rfl, ?_⟩)) (by repeat (first | exact True.intro | refine And.intro ?_ ?_ | exact DLead.same | exact rfl | refine ⟨_, _, rfl, rfl, ?_⟩ | refine ⟨_, rfl, ?_⟩ | refine ⟨_, _, rfl, ?_, ?_⟩)) rfl rfl rfl)⟩)
 ·rintro ⟨z, e⟩ ⟨hz, he⟩
  dsimp only at hz he ⊢
  refine AC.seq (AC.region ?_)
  refine AL.p (by exact g_load_ptrN rfl rfl rfl rfl rfl) rfl ?_
  refine AL.q (by exact h_store rfl rfl rfl rfl rfl rfl) rfl ?_
  refine AL.nil (th_n (AC.ret (bq_r ?_)))
  exact retX [] rfl ⟨z, e, ⟨hz, he⟩, rfl, rfl⟩ (by repeat (first | exact DLead.same | exact rfl | refine ⟨_, rfl, ?_⟩ | refine ⟨_, _, rfl, ?_, ?_⟩)) (by repeat (first | exact True.intro | refine And.intro ?_ ?_ | exact DLead.same | exact rfl | refine ⟨_, _, rfl, rfl, ?_⟩ | refine ⟨_, rfl, ?_⟩ | refine ⟨_, _, rfl, ?_, ?_⟩)) rfl rfl
theorem en_anyReach : Enters Tryz.prog 118 := enters_of Tryz.func118 rfl rfl
theorem quo19 {u : Int} (h : 0 ≤ u ∧ u < 20) : IntKind.i64.wrap (u.tdiv 19) = u / 19 := by
 rw [Int.tdiv_eq_ediv_of_nonneg h.1]
 exact wrap_i64 (by omega)
theorem by_at {N : Net} {x : Ex} {q k : Nat} (h : ByI N x q) (h1 : 1 ≤ k) (h2 : k < x.marks.length) : ∃ i, ∃ hi : i < x.moves.length, findI (fun v : Mv => decide (v.to_ = (k : Int))) x.moves = (i : Int) ∧ byF x.moves k = x.moves[i] ∧ 0 ≤ x.moves[i].from_ ∧ x.moves[i].from_ < k := by
 obtain ⟨v, hv, hf⟩ := h.met k h1 h2
 obtain ⟨hp, i, hi, e, hb⟩ := List.find?_eq_some_iff_getElem.1 hv
 refine ⟨i, hi, findI_at hi (by rw [e]; exact hp) (fun j hj => by simpa using hb j hj), ?_, ?_, ?_⟩
 ·unfold byF; rw [hv, e]; rfl
 ·have := h.inn _ (List.getElem_mem hi); omega
 ·rw [e]; exact hf
theorem upL_step {L : List Mv} {n k : Nat} (h : k ≠ 0) : upL L (n + 1) k = (byF L k).by_ :: upL L n (byF L k).from_.toNat := by rw [upL, if_neg h]
theorem upL_zero (L : List Mv) (n : Nat) : upL L n 0 = [] := by cases n <;> rfl
theorem upL_len (L : List Mv) : ∀ (n k : Nat), (upL L n k).length ≤ n
 | 0, k => Nat.le_refl _
 | n + 1, k => by
  rw [upL]
  split
  ·exact Nat.zero_le _
  ·rw [List.length_cons]; have := upL_len L n (byF L k).from_.toNat; omega
def unsT (F : Ex × Option (Int × Int)) : List Int × Bool := match F.2 with | some p => (if 0 ≤ p.1 then ((upL F.1.moves F.1.marks.length p.1.toNat).reverse ++ [p.2], true) else ([], false)) | none => ([], false)
def unsR (s : Stg) : List Int × Bool := if goodS s = true then unsT (explR s.net s.start) else ([], false)
theorem unsT_none {F : Ex × Option (Int × Int)} (h : exB F = true) : unsT F = ([], false) := by
 unfold exB at h; unfold unsT
 split at h
 ·cases h
 ·rename_i e; rw [e]
theorem unsT_nat {F : Ex × Option (Int × Int)} {j : Nat} {t : Int} (h : F.2 = some ((j : Int), t)) : unsT F = ((upL F.1.moves F.1.marks.length j).reverse ++ [t], true) := by
 unfold unsT; rw [h]
 show (if (0 : Int) ≤ (j : Int) then _ else _) = _
 rw [if_pos (Int.natCast_nonneg j)]; rfl
theorem unsT_full {F : Ex × Option (Int × Int)} (h : F.2 = some (-1, -1)) : unsT F = ([], false) := by unfold unsT; rw [h]; rfl
theorem iUnsafe1_spec (v : Mv) (k : Int) : ASpec Tryz.prog 102 [mvA v, .d (.ref [dI k])] [] (Pure1 (aT (decide (v.to_ = k)))) := by
 refine ASpec.of Tryz.func102 rfl rfl fun C hC => ?_
 refine AC.seq (AC.region ?_)
 refine AL.q (by exact h_boxF rfl rfl) rfl ?_
 refine AL.p (by exact as1 rfl) rfl ?_
 refine AL.nil (th_n (AC.seq (AC.region ?_)))
 refine AL.p (by exact g_fa_ref rfl rfl rfl rfl rfl rfl) rfl ?_
 refine AL.p (by exact g_load_ref rfl rfl rfl) rfl ?_
 refine AL.p (by exact g_load_ref rfl rfl rfl) rfl ?_
 refine AL.p (by exact g_cmp rfl rfl rfl) rfl ?_
 refine AL.p (by exact as1 rfl) rfl ?_
 refine AL.nil (th_n (AC.ret (bq_r ?_)))
 exact ret1 rfl rfl
theorem en_iUnsafe1 : Enters Tryz.prog 102 := enters_of Tryz.func102 rfl rfl
set_option maxHeartbeats 8000000 in
theorem iUnsafe_spec (s : Stg) (hB : StgB s) : ASpec Tryz.prog 14 [stgA s] [] (Pure1 (.tup [.d (vI (unsR s).1), aT (unsR s).2])) := by
 have hV := iIsValidSTG_spec s hB.L
 have hX := iExplored_spec s hB
 have hend := explR_end s.net s.start
 obtain ⟨kk, hBy⟩ := explR_By s.net s.start
 have hI : goodS s = true → (explR s.net s.start).1.marks.length ≤ 300 ∧ (explR s.net s.start).1.moves.length ≤ 24 * 301 := fun hg => by
  have h1 : goodN s.net = true ∧ bitsB s.start s.net.places = true := by
   simp only [goodS, Bool.and_eq_true] at hg
   exact hg.1
  have := exOut_I (good_places h1.1).2.2 301 0 (x := ⟨[s.start], []⟩) (q := 0) ⟨by show 1 ≤ 300; omega, fun m hm => by rw [List.mem_singleton.1 hm]; exact h1.2, Nat.le_refl _⟩
  exact ⟨this.n, Nat.le_trans this.l (by omega)⟩
 have hR : unsR s = if goodS s = true then unsT (explR s.net s.start) else ([], false) := rfl
 obtain ⟨b, hb⟩ : ∃ b, b = goodS s := ⟨_, rfl⟩
 rw [← hb] at hV hX hR hI
 obtain ⟨F, hF⟩ : ∃ F, F = explR s.net s.start := ⟨_, rfl⟩
 rw [← hF] at hX hR hend hBy hI
 have hby := fun k h1 h2 => by_at (k := k) hBy h1 h2
 obtain ⟨G, hG⟩ : ∃ G, G = unsR s := ⟨_, rfl⟩
 rw [← hG] at hR ⊢
 clear hG hb hF hBy
 have hfin : b = true → (exB F = true ∨ exK F < 0) → G = ([], false) := fun q1 q2 => by
  rw [hR, if_pos q1]
  rcases q2 with q | q
  ·exact unsT_none q
  ·rcases hend with g | g | ⟨j, t, g, _⟩
   ·exact unsT_none (by unfold exB; rw [g])
   ·exact unsT_full g
   ·exfalso; unfold exK at q; rw [g] at q; exact absurd q (by show ¬ ((j : Int) < 0); omega)
 have hgo : ¬ exK F < 0 → ∃ (j : Nat) (t : Int), exK F = (j : Int) ∧ exT F = t ∧ j < F.1.marks.length ∧ unsT F = ((upL F.1.moves F.1.marks.length j).reverse ++ [t], true) := fun q => by
  rcases hend with g | g | ⟨j, t, g, h1, h2, h3⟩
  ·exfalso; unfold exK at q; rw [g] at q; exact q (by decide)
  ·exfalso; unfold exK at q; rw [g] at q; exact q (by decide)
  ·exact ⟨j, t, by unfold exK; rw [g], by unfold exT; rw [g], h1, unsT_nat g⟩
 refine ASpec.of Tryz.func14 rfl rfl fun C hC => ?_
 refine AC.seq (AC.region ?_)
 refine AL.q (by exact h_boxF rfl rfl) rfl ?_
 refine AL.p (by exact as1 rfl) rfl ?_
 refine AL.p (by exact as1 rfl) rfl ?_
 refine AL.nil (th_n (AC.seq (AC.seq (AC.region ?_))))
 refine AL.p (by exact g_load_refN rfl rfl rfl rfl) rfl ?_
 refine AL.q (by exact h_pure en_iIsValidSTG rfl rfl (by repeat (first | exact rfl | exact DLead.same | refine ⟨_, _, rfl, ?_, ?_⟩ | refine ⟨_, rfl, ?_⟩)) hV rfl) rfl ?_
 refine AL.p (by exact g_not rfl) rfl ?_
 refine AL.nil (th_n ?_)
 refine AC.condB rfl (fun h0 => ?_) (fun h0 => ?_)
 ·refine AC.seq (AC.region ?_)
  refine AL.p (by exact as1 rfl) rfl ?_
  refine AL.p (by exact as1 rfl) rfl ?_
  refine AL.nil (th_n (AC.ret (th_r (bq_r ?_))))
  have e : G = ([], false) := hR.trans (if_neg (by simp_all))
  exact ret0 rfl (by rw [e]; show AV.leads _ (.tup [.d (vI []), aT false]) _; repeat (first | exact DLead.same | exact DLead.nil | exact rfl | refine ⟨_, rfl, ?_⟩ | refine ⟨_, _, rfl, ?_, ?_⟩))
 ·refine AC.skip (th_n (AC.seq ?_))
  have q1 : b = true := by simpa using h0
  have hX2 := hX q1
  have hI2 := hI q1
  refine AC.region ?_
  refine AL.p (by exact g_load_refN rfl rfl rfl rfl) rfl ?_
  refine AL.q (by exact h_pure en_iExplored rfl rfl (by repeat (first | exact rfl | exact DLead.same | refine ⟨_, _, rfl, ?_, ?_⟩ | refine ⟨_, rfl, ?_⟩)) hX2 rfl) rfl ?_
  refine AL.p (by exact mv5 rfl) rfl ?_
  refine AL.p (by exact g_extract (r := .agg _) rfl rfl) rfl ?_
  refine AL.p (by exact g_extract (r := .d _) rfl rfl) rfl ?_
  refine AL.p (by exact g_extract (r := .d _) rfl rfl) rfl ?_
  refine AL.p (by exact g_extract (r := .d _) rfl rfl) rfl ?_
  refine AL.q (by exact h_alloc rfl) rfl ?_
  refine AL.q (by exact h_alloc rfl) rfl ?_
  refine AL.q (by exact h_store rfl rfl rfl rfl rfl rfl) rfl ?_
  refine AL.q (by exact h_store rfl rfl rfl rfl rfl rfl) rfl ?_
  refine AL.p (by exact as1 rfl) rfl ?_
  refine AL.p (by exact as1 rfl) rfl ?_
  refine AL.nil (th_n (AC.seq (AC.seq (AC.region ?_))))
  refine AL.p (by exact mv1 rfl) rfl ?_
  refine AL.p (by exact mv1 rfl) rfl ?_
  refine AL.caseGB rfl rfl (fun h1 => ?_) (fun h1 => ?_)
  ·refine AL.not rfl rfl rfl rfl rfl ?_
   refine AL.not rfl rfl rfl rfl rfl ?_
   refine AL.p (by exact g_pickT (r := .d _) rfl rfl) rfl ?_
   refine AL.nil (th_n ?_)
   refine AC.condT rfl ?_
   refine AC.seq (AC.region ?_)
   refine AL.p (by exact as1 rfl) rfl ?_
   refine AL.p (by exact as1 rfl) rfl ?_
   refine AL.nil (th_n (AC.ret (th_r (bq_r ?_))))
   have e := hfin q1 (by (left; assumption))
   exact ret0 rfl (by rw [e]; show AV.leads _ (.tup [.d (vI []), aT false]) _; repeat (first | exact DLead.same | exact DLead.nil | exact rfl | refine ⟨_, rfl, ?_⟩ | refine ⟨_, _, rfl, ?_, ?_⟩))
  ·refine AL.yes rfl rfl rfl ?_
   refine AL.p (by exact g_load_ptr rfl rfl rfl rfl rfl) rfl ?_
   refine AL.yes rfl rfl rfl ?_
   refine AL.p (by exact g_cmp rfl rfl rfl) rfl ?_
   refine AL.p (by exact g_pickF (r := .d _) rfl rfl) rfl ?_
   refine AL.nil (th_n ?_)
   refine AC.condD rfl (fun h2 => ?_) (fun h2 => ?_)
   ·refine AC.seq (AC.region ?_)
    refine AL.p (by exact as1 rfl) rfl ?_
    refine AL.p (by exact as1 rfl) rfl ?_
    refine AL.nil (th_n (AC.ret (th_r (bq_r ?_))))
    have e := hfin q1 (by (right; assumption))
    exact ret0 rfl (by rw [e]; show AV.leads _ (.tup [.d (vI []), aT false]) _; repeat (first | exact DLead.same | exact DLead.nil | exact rfl | refine ⟨_, rfl, ?_⟩ | refine ⟨_, _, rfl, ?_, ?_⟩))
   ·refine AC.skip (th_n (AC.seq ?_))
    obtain ⟨k0, t, hk0, ht, hkl, hG⟩ := hgo (by assumption)
    rw [if_pos q1, hG] at hR
    refine AC.weak (t := ⟨51, 300, [(4, .ptr 200 0), (5, .ptr 201 0), (6, aI t)], [(200, some (.cells 35 (rgC F.1))), (201, some (.cells 3 [aI k0]))]⟩) (Weak.ren _ [(200, _), (201, _)] hC rfl (by rw [← ht]; repeat (first | exact True.intro | refine And.intro ?_ ?_ | exact DLead.same | exact rfl | refine ⟨_, rfl, ?_⟩)) (by rw [← hk0]; repeat (first | exact True.intro | refine And.intro ?_ ?_ | exact DLead.same | exact rfl | refine ⟨_, _, rfl, rfl, ?_⟩ | refine ⟨_, rfl, ?_⟩ | refine ⟨_, _, rfl, ?_, ?_⟩)) rfl rfl rfl) ?_
    refine AC.region ?_
    refine AL.p (by exact mv1 rfl) rfl ?_
    refine AL.q (by exact h_lit rfl rfl rfl rfl rfl rfl rfl rfl) rfl ?_
    refine AL.p (by exact as2 rfl) rfl ?_
    refine AL.nil (th_n (AC.seq (AC.block ?_)))
    refine AC.loop (ι := Nat × Nat × List Int) (fun y => ⟨51, 600, [(4, .ptr 200 0), (5, .ptr 201 0), (8, .own 100 y.2.2.length)], [(200, some (.cells 35 (rgC F.1))), (201, some (.cells 3 [aI y.2.1])), (100, some (.arr 3 1 (ints y.2.2)))]⟩) (fun y => y.2.1 < y.1 ∧ y.2.1 < F.1.marks.length ∧ y.2.2 ++ upL F.1.moves y.1 y.2.1 = [t] ++ upL F.1.moves F.1.marks.length k0 ∧ y.2.2.length + y.1 ≤ 400) (fun y => y.1) ((F.1.marks.length, k0, [t])) ?_ (⟨hkl, hkl, rfl, by show 1 + _ ≤ _; omega⟩) ?_
    ·exact Weak.ren _ [(200, 200), (201, 201), (100, _)] hC rfl (by repeat (first | exact True.intro | refine And.intro ?_ ?_ | exact rfl | refine ⟨_, rfl, ?_⟩)) (by repeat (first | exact True.intro | refine And.intro ?_ ?_ | exact DLead.same | exact rfl | refine ⟨_, _, rfl, rfl, ?_⟩ | refine ⟨_, rfl, ?_⟩ | refine ⟨_, _, rfl, ?_, ?_⟩)) rfl rfl rfl
    ·rintro ⟨n, k, acc⟩ ⟨hkn, hk, hacc, hal⟩
     dsimp only at hkn hk hacc hal ⊢
     refine AC.seq (AC.seq (AC.region ?_))
     refine AL.p (by exact g_load_ptr rfl rfl rfl rfl rfl) rfl ?_
     refine AL.p (by exact g_cmp rfl rfl rfl) rfl ?_
     refine AL.nil (th_n ?_)
     refine AC.condD rfl (fun h3 => ?_) (fun h3 => ?_)
     ·refine AC.skip (th_n (AC.block (AC.seq ?_)))
      obtain ⟨i, hi, hfi, hbf, hf0, hfk⟩ := hby k (by omega) hk
      obtain ⟨n', rfl⟩ : ∃ n', n = n' + 1 := ⟨n - 1, by omega⟩
      rw [upL_step (by omega), hbf] at hacc
      have hIx := ixMv_spec F.1.moves (by omega) 102 [.ref [dI (k : Int)]] en_iUnsafe1 (fun v => decide (v.to_ = (k : Int))) (fun v _ => iUnsafe1_spec v k)
      rw [hfi] at hIx
      have hget := mvL_get hi
      obtain ⟨v, hv⟩ : ∃ v, v = F.1.moves[i] := ⟨_, rfl⟩
      rw [← hv] at hget hf0 hfk hacc
      obtain ⟨f, hf⟩ : ∃ f, f = v.from_.toNat := ⟨_, rfl⟩
      have e1 : v.from_ = (f : Int) := by omega
      rw [← hf] at hacc
      rw [e1] at hget
      refine AC.region ?_
      refine AL.p (by exact g_fa_ptr rfl rfl rfl rfl rfl) rfl ?_
      refine AL.p (by exact g_load_ptr rfl rfl rfl rfl rfl) rfl ?_
      refine AL.p (by exact g_fn rfl) rfl ?_
      refine AL.q (by exact h_borrow [201] en_ixMv rfl rfl hIx (.cons (.of .d) (.cons (.cloB (.cons (.ptr rfl rfl (.cons .d .nil)) .nil)) .nil)) rfl) rfl ?_
      refine AL.p (by exact as1 rfl) rfl ?_
      refine AL.nil (th_n (AC.seq (AC.region ?_)))
      refine AL.p (by exact mv2 rfl) rfl ?_
      refine AL.p (by exact g_fa_ptr rfl rfl rfl rfl rfl) rfl ?_
      refine AL.p (by exact g_load_ptr rfl rfl rfl rfl rfl) rfl ?_
      refine AL.p (by exact mv1 rfl) rfl ?_
      refine AL.p (by exact g_ia_view (i := i) rfl rfl rfl rfl rfl rfl hget) rfl ?_
      refine AL.p (by exact g_fa_ref rfl rfl rfl rfl rfl rfl) rfl ?_
      refine AL.p (by exact g_load_ref rfl rfl rfl) rfl ?_
      refine AL.q (by exact h_litF rfl rfl rfl rfl rfl rfl rfl rfl) rfl ?_
      refine AL.q (by exact h_appendI acc [v.by_] (.own rfl rfl (ints_len _).symm) (.view rfl) (by rw [List.length_append]; simp only [List.length_cons, List.length_nil]; omega) (by simp)) rfl ?_
      refine AL.p (by exact as2 rfl) rfl ?_
      refine AL.nil (th_n (AC.region ?_))
      refine AL.p (by exact g_fa_ptr rfl rfl rfl rfl rfl) rfl ?_
      refine AL.p (by exact g_load_ptr rfl rfl rfl rfl rfl) rfl ?_
      refine AL.p (by exact mv1 rfl) rfl ?_
      refine AL.p (by exact g_ia_view (i := i) rfl rfl rfl rfl rfl rfl hget) rfl ?_
      refine AL.p (by exact g_fa_ref rfl rfl rfl rfl rfl rfl) rfl ?_
      refine AL.p (by exact g_load_ref rfl rfl rfl) rfl ?_
      refine AL.q (by exact h_store rfl rfl rfl rfl rfl rfl) rfl ?_
      refine AL.nil (ib_n (th_n ?_))
      exact ⟨(n', f, acc ++ [v.by_]), ⟨by dsimp only; omega, by dsimp only; omega, by dsimp only; rw [List.append_assoc]; exact hacc, by dsimp only; rw [List.length_append]; simp only [List.length_cons, List.length_nil]; omega⟩, by dsimp only; omega, Weak.ren _ [(200, 200), (201, 201), (100, _)] hC rfl (by repeat (first | exact True.intro | refine And.intro ?_ ?_ | exact rfl | refine ⟨_, rfl, ?_⟩)) (by repeat (first | exact True.intro | refine And.intro ?_ ?_ | exact DLead.same | exact rfl | refine ⟨_, _, rfl, rfl, ?_⟩ | refine ⟨_, rfl, ?_⟩ | refine ⟨_, _, rfl, ?_, ?_⟩)) rfl rfl rfl⟩
     ·refine AC.exit (th_e (th_e (ib_y (th_n (AC.seq ?_)))))
      have hkz : k = 0 := by omega
      rw [hkz, upL_zero, List.append_nil] at hacc
      have hRev := revInts_spec acc (by omega)
      refine AC.region ?_
      refine AL.p (by exact mv2 rfl) rfl ?_
      refine AL.q (by exact h_fun (cs := [100]) en_revInts rfl rfl (by repeat (first | exact rfl | refine ⟨_, _, rfl, ?_, ?_⟩ | refine ⟨_, rfl, ?_⟩)) (by repeat (first | exact True.intro | refine And.intro ?_ ?_ | exact rfl | refine ⟨_, _, rfl, rfl, ?_⟩)) hRev rfl rfl rfl rfl) rfl ?_
      refine AL.nil (th_n (AC.seq (AC.region ?_)))
      refine AL.p (by exact mv2 rfl) rfl ?_
      refine AL.p (by exact as2 rfl) rfl ?_
      refine AL.p (by exact as1 rfl) rfl ?_
      refine AL.nil (th_n ?_)
      refine AC.weak (Weak.freeze (i := 2) (els' := ints acc.reverse) rfl rfl (by rw [ints_len, List.length_reverse]; exact Nat.le_refl _) (List.take_of_length_le (by rw [ints_len, List.length_reverse]; exact Nat.le_refl _))) ?_
      refine AC.ret (bq_r ?_)
      have e : G = (acc.reverse, true) := hR.trans (by rw [hacc, List.reverse_append]; rfl)
      exact ret0 rfl (by rw [e]; show AV.leads _ (.tup [.d (vI acc.reverse), aT true]) _; repeat (first | exact DLead.same | exact rfl | refine ⟨_, rfl, ?_⟩ | refine ⟨_, _, rfl, ?_, ?_⟩))
theorem en_iUnsafe : Enters Tryz.prog 14 := enters_of Tryz.func14 rfl rfl
set_option maxHeartbeats 8000000 in
theorem sUnsafe_spec (s : Stg) (hB : StgB s) : ASpec Tryz.prog 15 [stgA s] [] (Pure1 (.tup [.d (vI (unsR s).1), aT (unsR s).2])) := by
 have hV := l2Good_spec s hB.L
 have hX := sReach_spec s hB
 have hend := explR_end s.net s.start
 obtain ⟨kk, hBy⟩ := explR_By s.net s.start
 have hI : goodS s = true → (explR s.net s.start).1.marks.length ≤ 300 ∧ (explR s.net s.start).1.moves.length ≤ 24 * 301 := fun hg => by
  have h1 : goodN s.net = true ∧ bitsB s.start s.net.places = true := by
   simp only [goodS, Bool.and_eq_true] at hg
   exact hg.1
  have := exOut_I (good_places h1.1).2.2 301 0 (x := ⟨[s.start], []⟩) (q := 0) ⟨by show 1 ≤ 300; omega, fun m hm => by rw [List.mem_singleton.1 hm]; exact h1.2, Nat.le_refl _⟩
  exact ⟨this.n, Nat.le_trans this.l (by omega)⟩
 have hR : unsR s = if goodS s = true then unsT (explR s.net s.start) else ([], false) := rfl
 obtain ⟨b, hb⟩ : ∃ b, b = goodS s := ⟨_, rfl⟩
 rw [← hb] at hV hX hR hI
 obtain ⟨F, hF⟩ : ∃ F, F = explR s.net s.start := ⟨_, rfl⟩
 rw [← hF] at hX hR hend hBy hI
 have hby := fun k h1 h2 => by_at (k := k) hBy h1 h2
 have hbl := byL_len hBy.pos
 obtain ⟨G, hG⟩ : ∃ G, G = unsR s := ⟨_, rfl⟩
 rw [← hG] at hR ⊢
 clear hG hb hF hBy
 have hfin : b = true → rBad F.2 < 0 → G = ([], false) := fun q1 q => by
  rw [hR, if_pos q1]
  rcases hend with g | g | ⟨j, t, g, _, h2, _⟩
  ·exact unsT_none (by unfold exB; rw [g])
  ·exact unsT_full g
  ·exfalso; unfold rBad at q; rw [g] at q; exact absurd q (by show ¬ (t < 0); omega)
 have hgo : ¬ rBad F.2 < 0 → ∃ (j : Nat) (t : Int), rMark F.2 = (j : Int) ∧ rBad F.2 = t ∧ j < F.1.marks.length ∧ unsT F = ((upL F.1.moves F.1.marks.length j).reverse ++ [t], true) := fun q => by
  rcases hend with g | g | ⟨j, t, g, h1, h2, h3⟩
  ·exfalso; unfold rBad at q; rw [g] at q; exact q (by decide)
  ·exfalso; unfold rBad at q; rw [g] at q; exact q (by decide)
  ·exact ⟨j, t, by rw [g, rMark_nat], by unfold rBad; rw [g], h1, unsT_nat g⟩
 refine ASpec.of Tryz.func15 rfl rfl fun C hC => ?_
 refine AC.seq (AC.region ?_)
 refine AL.q (by exact h_boxF rfl rfl) rfl ?_
 refine AL.p (by exact as1 rfl) rfl ?_
 refine AL.p (by exact as1 rfl) rfl ?_
 refine AL.nil (th_n (AC.seq (AC.seq (AC.region ?_))))
 refine AL.p (by exact g_load_refN rfl rfl rfl rfl) rfl ?_
 refine AL.q (by exact h_pure en_l2Good rfl rfl (by repeat (first | exact rfl | exact DLead.same | refine ⟨_, _, rfl, ?_, ?_⟩ | refine ⟨_, rfl, ?_⟩)) hV rfl) rfl ?_
 refine AL.p (by exact g_not rfl) rfl ?_
 refine AL.nil (th_n ?_)
 refine AC.condB rfl (fun h0 => ?_) (fun h0 => ?_)
 ·refine AC.seq (AC.region ?_)
  refine AL.p (by exact as1 rfl) rfl ?_
  refine AL.p (by exact as1 rfl) rfl ?_
  refine AL.nil (th_n (AC.ret (th_r (bq_r ?_))))
  have e : G = ([], false) := hR.trans (if_neg (by simp_all))
  exact ret0 rfl (by rw [e]; show AV.leads _ (.tup [.d (vI []), aT false]) _; repeat (first | exact DLead.same | exact DLead.nil | exact rfl | refine ⟨_, rfl, ?_⟩ | refine ⟨_, _, rfl, ?_, ?_⟩))
 ·refine AC.skip (th_n (AC.seq ?_))
  have q1 : b = true := by simpa using h0
  have hX2 := hX q1
  have hI2 := hI q1
  refine AC.region ?_
  refine AL.p (by exact g_load_refN rfl rfl rfl rfl) rfl ?_
  refine AL.q (by exact h_fun (cs := []) en_sReach rfl rfl (by repeat (first | exact rfl | exact DLead.same | refine ⟨_, _, rfl, ?_, ?_⟩ | refine ⟨_, rfl, ?_⟩)) (by repeat (exact True.intro)) hX2 rfl rfl rfl rfl) rfl ?_
  refine AL.q (by exact h_alloc rfl) rfl ?_
  refine AL.q (by exact h_store rfl rfl rfl rfl rfl rfl) rfl ?_
  refine AL.nil (th_n (AC.seq (AC.seq ?_)))
  refine AC.weak (t := ⟨38, 300, [(4, .ptr 200 0)], [(200, some (.cells 118 (refA F 101 102 103))), (103, some (.arr 52 3 (mvL (byL F.1)))), (101, some (.arr 9 1 (tsX F.1.marks))), (102, some (.arr 52 3 (mvL F.1.moves)))]⟩) (Weak.ren _ [(200, _), (101, _), (102, _), (103, _)] hC rfl (by repeat (first | exact True.intro | refine And.intro ?_ ?_ | exact rfl | refine ⟨_, rfl, ?_⟩)) (by repeat (first | exact True.intro | refine And.intro ?_ ?_ | exact DLead.same | exact rfl | refine ⟨_, _, rfl, rfl, ?_⟩ | refine ⟨_, rfl, ?_⟩ | refine ⟨_, _, rfl, ?_, ?_⟩)) rfl rfl rfl) ?_
  refine AC.region ?_
  refine AL.p (by exact g_fa_ptr rfl rfl rfl rfl rfl) rfl ?_
  refine AL.p (by exact g_load_ptr rfl rfl rfl rfl rfl) rfl ?_
  refine AL.p (by exact g_cmp rfl rfl rfl) rfl ?_
  refine AL.nil (th_n ?_)
  refine AC.condD rfl (fun h1 => ?_) (fun h1 => ?_)
  ·refine AC.seq (AC.region ?_)
   refine AL.p (by exact as1 rfl) rfl ?_
   refine AL.p (by exact as1 rfl) rfl ?_
   refine AL.nil (th_n (AC.ret (th_r (bq_r ?_))))
   have e := hfin q1 (by assumption)
   exact ret0 rfl (by rw [e]; show AV.leads _ (.tup [.d (vI []), aT false]) _; repeat (first | exact DLead.same | exact DLead.nil | exact rfl | refine ⟨_, rfl, ?_⟩ | refine ⟨_, _, rfl, ?_, ?_⟩))
  ·refine AC.skip (th_n (AC.seq ?_))
   obtain ⟨k0, t, hk0, ht, hkl, hG⟩ := hgo (by assumption)
   rw [if_pos q1, hG] at hR
   refine AC.weak (t := ⟨38, 500, [(4, .ptr 200 0)], [(200, some (.cells 118 [.own 101 F.1.marks.length, .own 102 F.1.moves.length, .own 103 (byL F.1).length, aI k0, aI t, aT (rFull F.2)])), (103, some (.arr 52 3 (mvL (byL F.1)))), (101, some (.arr 9 1 (tsX F.1.marks))), (102, some (.arr 52 3 (mvL F.1.moves)))]⟩) (Weak.ren _ [(200, 200), (101, 101), (102, 102), (103, 103)] hC rfl (by repeat (first | exact True.intro | refine And.intro ?_ ?_ | exact rfl | refine ⟨_, rfl, ?_⟩)) (by rw [← hk0, ← ht]; repeat (first | exact True.intro | refine And.intro ?_ ?_ | exact DLead.same | exact rfl | refine ⟨_, _, rfl, rfl, ?_⟩ | refine ⟨_, rfl, ?_⟩ | refine ⟨_, _, rfl, ?_, ?_⟩)) rfl rfl rfl) ?_
   refine AC.region ?_
   refine AL.p (by exact g_fa_ptr rfl rfl rfl rfl rfl) rfl ?_
   refine AL.p (by exact g_load_ptr rfl rfl rfl rfl rfl) rfl ?_
   refine AL.q (by exact h_lit rfl rfl rfl rfl rfl rfl rfl rfl) rfl ?_
   refine AL.p (by exact as2 rfl) rfl ?_
   refine AL.nil (th_n (AC.seq (AC.seq (AC.region ?_))))
   refine AL.p (by exact g_fa_ptr rfl rfl rfl rfl rfl) rfl ?_
   refine AL.p (by exact g_load_ptr rfl rfl rfl rfl rfl) rfl ?_
   refine AL.p (by exact as1 rfl) rfl ?_
   refine AL.nil (th_n (AC.block ?_))
   refine AC.loop (ι := Nat × Nat × List Int) (fun y => ⟨38, 800, [(4, .ptr 200 0), (5, .own 100 y.2.2.length), (6, aI y.2.1)], [(200, some (.cells 118 [.own 101 F.1.marks.length, .own 102 F.1.moves.length, .own 103 (byL F.1).length, aI k0, aI t, aT (rFull F.2)])), (103, some (.arr 52 3 (mvL (byL F.1)))), (101, some (.arr 9 1 (tsX F.1.marks))), (102, some (.arr 52 3 (mvL F.1.moves))), (100, some (.arr 3 1 (ints y.2.2)))]⟩) (fun y => y.2.1 < y.1 ∧ y.2.1 < F.1.marks.length ∧ (upL F.1.moves y.1 y.2.1).reverse ++ y.2.2 = (upL F.1.moves F.1.marks.length k0).reverse ++ [t] ∧ y.2.2.length + y.1 ≤ 400) (fun y => y.1) ((F.1.marks.length, k0, [t])) ?_ (⟨hkl, hkl, rfl, by show 1 + _ ≤ _; omega⟩) ?_
   ·exact Weak.ren _ [(200, 200), (101, 101), (102, 102), (103, 103), (100, _)] hC rfl (by repeat (first | exact True.intro | refine And.intro ?_ ?_ | exact DLead.same | exact rfl | refine ⟨_, rfl, ?_⟩)) (by repeat (first | exact True.intro | refine And.intro ?_ ?_ | exact DLead.same | exact rfl | refine ⟨_, _, rfl, rfl, ?_⟩ | refine ⟨_, rfl, ?_⟩ | refine ⟨_, _, rfl, ?_, ?_⟩)) rfl rfl rfl
   ·rintro ⟨n, k, acc⟩ ⟨hkn, hk, hacc, hal⟩
    dsimp only at hkn hk hacc hal ⊢
    refine AC.seq (AC.seq (AC.region ?_))
    refine AL.p (by exact mv1 rfl) rfl ?_
    refine AL.p (by exact g_cmp rfl rfl rfl) rfl ?_
    refine AL.nil (th_n ?_)
    refine AC.condND rfl (fun h2 => ?_) (fun h2 => ?_)
    ·refine AC.skip (th_n (AC.seq (AC.block ?_)))
     obtain ⟨i, hi, hfi, hbf, hf0, hfk⟩ := hby k (by omega) hk
     obtain ⟨n', rfl⟩ : ∃ n', n = n' + 1 := ⟨n - 1, by omega⟩
     rw [upL_step (by omega), List.reverse_cons, List.append_assoc] at hacc
     have hget : (mvL (byL F.1))[k]? = some (mvD (byF F.1.moves k)) := by rw [List.getElem?_map, byL_get (by omega) hk]; rfl
     rw [← hbf] at hf0 hfk
     obtain ⟨v, hv⟩ : ∃ v, v = byF F.1.moves k := ⟨_, rfl⟩
     rw [← hv] at hget hf0 hfk hacc
     obtain ⟨f, hf⟩ : ∃ f, f = v.from_.toNat := ⟨_, rfl⟩
     have e1 : v.from_ = (f : Int) := by omega
     rw [← hf] at hacc
     refine AC.region ?_
     refine AL.p (by exact g_fa_ptr rfl rfl rfl rfl rfl) rfl ?_
     refine AL.p (by exact g_load_ptr rfl rfl rfl rfl rfl) rfl ?_
     refine AL.p (by exact mv1 rfl) rfl ?_
     refine AL.p (by exact g_ia_own (i := k) (l := (byL F.1).length) rfl rfl rfl rfl rfl rfl (by rw [hbl]; exact hk) rfl) rfl ?_
     refine AL.p (by exact g_fa_ptr rfl rfl rfl rfl rfl) rfl ?_
     refine AL.p (by exact g_load_arr (i := k) (j := 1) rfl rfl rfl rfl rfl hget rfl) rfl ?_
     refine AL.q (by exact h_lit rfl rfl rfl rfl rfl rfl rfl rfl) rfl ?_
     refine AL.p (by exact mv2 rfl) rfl ?_
     refine AL.q (by exact h_appendI [v.by_] acc (.own rfl rfl rfl) (.own rfl rfl (Nat.le_of_eq (ints_len _).symm) (List.take_of_length_le (Nat.le_of_eq (ints_len _)))) (by rw [List.length_append]; simp only [List.length_cons, List.length_nil]; omega) (by simp)) rfl ?_
     refine AL.p (by exact as2 rfl) rfl ?_
     refine AL.nil (ib_n (th_n (AC.region ?_)))
     refine AL.p (by exact g_fa_ptr rfl rfl rfl rfl rfl) rfl ?_
     refine AL.p (by exact g_load_ptr rfl rfl rfl rfl rfl) rfl ?_
     refine AL.p (by exact mv1 rfl) rfl ?_
     refine AL.p (by exact g_ia_own (i := k) (l := (byL F.1).length) rfl rfl rfl rfl rfl rfl (by rw [hbl]; exact hk) rfl) rfl ?_
     refine AL.p (by exact g_fa_ptr rfl rfl rfl rfl rfl) rfl ?_
     refine AL.p (by exact g_load_arr (i := k) (j := 0) rfl rfl rfl rfl rfl hget rfl) rfl ?_
     refine AL.p (by exact as1 rfl) rfl ?_
     refine AL.nil (th_n ?_)
     exact ⟨(n', f, [v.by_] ++ acc), ⟨by dsimp only; omega, by dsimp only; omega, hacc, by dsimp only; rw [List.length_append]; simp only [List.length_cons, List.length_nil]; omega⟩, by dsimp only; omega, Weak.ren _ [(200, 200), (101, 101), (102, 102), (103, 103), (100, _)] hC rfl (by rw [← e1]; repeat (first | exact True.intro | refine And.intro ?_ ?_ | exact DLead.same | exact rfl | refine ⟨_, rfl, ?_⟩)) (by repeat (first | exact True.intro | refine And.intro ?_ ?_ | exact DLead.same | exact rfl | refine ⟨_, _, rfl, rfl, ?_⟩ | refine ⟨_, rfl, ?_⟩ | refine ⟨_, _, rfl, ?_, ?_⟩)) rfl rfl rfl⟩
    ·refine AC.exit (th_e (th_e (ib_y (th_n (AC.seq ?_)))))
     have hkz : k = 0 := by omega
     rw [hkz, upL_zero, List.reverse_nil, List.nil_append] at hacc
     rw [← hacc] at hR
     refine AC.weak (Weak.freeze (i := 5) rfl rfl (Nat.le_of_eq (ints_len _).symm) (List.take_of_length_le (Nat.le_of_eq (ints_len _)))) ?_
     refine AC.region ?_
     refine AL.p (by exact mv1 rfl) rfl ?_
     refine AL.p (by exact as1 rfl) rfl ?_
     refine AL.p (by exact as1 rfl) rfl ?_
     refine AL.nil (th_n (AC.ret (bq_r ?_)))
     exact ret0 rfl (by rw [hR]; show AV.leads _ (.tup [.d (vI acc), aT true]) _; repeat (first | exact DLead.same | exact rfl | refine ⟨_, rfl, ?_⟩ | refine ⟨_, _, rfl, ?_, ?_⟩))
theorem en_sUnsafe : Enters Tryz.prog 15 := enters_of Tryz.func15 rfl rfl
set_option maxHeartbeats 4000000 in
theorem sDrawMovesFrom_spec (code : List UInt8) : ASpec Tryz.prog 25 [.d (vB code)] [] RgN := by
 have hp0 : (cur0 code).pos = 0 := rfl
 have hA := anyReach_spec (cur0 code) (by omega)
 refine ASpec.of Tryz.func25 rfl rfl fun C hC => ?_
 refine AC.seq (AC.region ?_)
 refine AL.q (by exact h_alloc rfl) rfl ?_
 refine AL.p (by exact as1 rfl) rfl ?_
 refine AL.nil (th_n (AC.seq (AC.region ?_)))
 refine AL.p (by exact mv1 rfl) rfl ?_
 refine AL.p (by exact g_build rfl rfl rfl) rfl ?_
 refine AL.q (by exact h_box rfl) rfl ?_
 refine AL.p (by exact as3 rfl) rfl ?_
 refine AL.nil (th_n (AC.seq (AC.region ?_)))
 refine AL.p (by exact mv3 rfl) rfl ?_
 refine AL.r (by exact h_funR (cs := [8]) en_anyReach rfl rfl (by repeat (first | exact rfl | refine ⟨_, _, rfl, ?_, ?_⟩ | refine ⟨_, rfl, ?_⟩)) (by repeat (first | exact True.intro | refine And.intro ?_ ?_ | exact DLead.same | exact rfl | refine ⟨_, _, rfl, rfl, ?_⟩ | refine ⟨_, rfl, ?_⟩ | refine ⟨_, _, rfl, ?_, ?_⟩)) hA rfl rfl rfl) rfl ?_
 rintro _ ⟨_, _, ⟨x, c', ⟨hx, hc'⟩, rfl, rfl⟩, rfl⟩
 refine AL.q (by exact h_alloc rfl) rfl ?_
 refine AL.q (by exact h_store rfl rfl rfl rfl rfl rfl) rfl ?_
 refine AL.nil (th_n (AC.seq ?_))
 refine AC.weak (t := ⟨22, 300, [(2, .ptr 201 0), (4, .ptr 202 0), (5, .ptr 200 0)], [(201, some (.cells 35 zRG)), (202, some (curC c')), (200, some (.cells 35 (rgC x)))]⟩) (Weak.ren _ [(201, _), (202, _), (200, _)] hC rfl (by repeat (first | exact True.intro | refine And.intro ?_ ?_ | exact rfl | refine ⟨_, rfl, ?_⟩)) (by repeat (first | exact True.intro | refine And.intro ?_ ?_ | exact DLead.same | exact rfl | refine ⟨_, _, rfl, rfl, ?_⟩ | refine ⟨_, rfl, ?_⟩ | refine ⟨_, _, rfl, ?_, ?_⟩)) rfl rfl rfl) ?_
 have hxn := hx.n
 have hK1 := pick_spec c' ((x.marks.length : Int) + 1) (by omega) (by omega)
 have b1 := c'.pick_in ((x.marks.length : Int) + 1) (by omega)
 have p1 := c'.pick_pos ((x.marks.length : Int) + 1)
 obtain ⟨p, hp⟩ : ∃ p, p = c'.pick ((x.marks.length : Int) + 1) := ⟨_, rfl⟩
 rw [← hp] at hK1 b1 p1
 have hK2 := pick_spec p.2 20 (by decide) (by omega)
 have b2 := p.2.pick_in 20 (by decide)
 obtain ⟨q, hq⟩ : ∃ q, q = p.2.pick 20 := ⟨_, rfl⟩
 rw [← hq] at hK2 b2
 have hq19 := quo19 b2
 refine AC.drawn' mixed_ok [[], [], [], [2], [2,3], [2,3,4], [1,2,3,4,5], [], [1,2,3,4,5,6,7], [1,2,3,4,5,6,7,8], [1,2,3,4,5,6,7,8,9], [0,1,2,3,4,5,6,7,8], [0,1,2,3,4,5,6,7,8,9,10,11]] (by decide) ?_
 refine DF.op 0 [] 13 rfl rfl rfl (.free rfl (NOp.of (by exact g_load_ptrN rfl rfl rfl rfl rfl))) rfl ?_
 refine DF.op 1 [] 13 rfl rfl rfl (.free rfl (NOp.of (by exact mv3 rfl))) rfl ?_
 refine DF.op 2 [] 13 rfl rfl rfl (.free rfl (NOp.of (by exact g_fa_ptr rfl rfl rfl rfl rfl))) rfl ?_
 refine DF.op 3 [2] 13 rfl rfl rfl (.free rfl (NOp.of (by exact g_load_ptr rfl rfl rfl rfl rfl))) rfl ?_
 refine DF.op 4 [2,3] 13 rfl rfl rfl (.free rfl (NOp.of (by exact g_len_view (k := x.marks.length) rfl rfl (tsX_len _)))) rfl ?_
 refine DF.op 5 [2,3,4] 13 rfl rfl rfl (.free rfl (NOp.of (by exact g_arith rfl rfl rfl (by exact wrap_i64 (by omega))))) rfl ?_
 refine DF.op 6 [1,2,3,4,5] 13 rfl rfl rfl (.free rfl (by exact h_fun (cs := [202]) en_pick rfl rfl (by repeat (first | exact rfl | exact DLead.same | refine ⟨_, _, rfl, ?_, ?_⟩ | refine ⟨_, rfl, ?_⟩)) (by repeat (first | exact True.intro | refine And.intro ?_ ?_ | exact DLead.same | exact rfl | refine ⟨_, _, rfl, rfl, ?_⟩ | refine ⟨_, rfl, ?_⟩ | refine ⟨_, _, rfl, ?_, ?_⟩)) hK1 rfl rfl rfl rfl)) rfl ?_
 refine DF.op 7 [] 13 rfl rfl rfl (.free rfl (NOp.of (by exact mv3 rfl))) rfl ?_
 refine DF.op 8 [1,2,3,4,5,6,7] 13 rfl rfl rfl (.free rfl (by exact h_fun (cs := [202]) en_pick rfl rfl (by repeat (first | exact rfl | exact DLead.same | refine ⟨_, _, rfl, ?_, ?_⟩ | refine ⟨_, rfl, ?_⟩)) (by repeat (first | exact True.intro | refine And.intro ?_ ?_ | exact DLead.same | exact rfl | refine ⟨_, _, rfl, rfl, ?_⟩ | refine ⟨_, rfl, ?_⟩ | refine ⟨_, _, rfl, ?_, ?_⟩)) hK2 rfl rfl rfl rfl)) rfl ?_
 refine DF.op 9 [1,2,3,4,5,6,7,8] 13 rfl rfl rfl (.free rfl (NOp.of (by exact g_quo (c := q.1 / 19) rfl rfl (by decide) hq19))) rfl ?_
 refine DF.op 10 [1,2,3,4,5,6,7,8,9] 13 rfl rfl rfl (.free rfl (NOp.of (by exact g_arith rfl rfl rfl (by exact wrap_i64 (by omega))))) rfl ?_
 refine DF.op 11 (List.range 9) 13 rfl rfl rfl (.free rfl (by exact h_store rfl rfl rfl rfl rfl rfl)) rfl ?_
 refine DF.op 12 (List.range 12) 13 rfl rfl rfl (.free rfl (NOp.of (by exact as1 rfl))) rfl ?_
 refine DF.fin (ps := [(0,1),(0,2),(0,3),(0,4),(0,5),(0,6),(0,7),(0,8),(0,9),(0,10),(1,0),(1,2),(1,3),(1,4),(1,5),(1,7),(2,0),(2,1),(2,7),(3,0),(3,1),(3,7),(4,0),(4,1),(4,7),(5,0),(5,1),(5,7),(6,0),(6,7),(7,0),(7,1),(7,2),(7,3),(7,4),(7,5),(7,6),(8,0),(9,0),(9,11),(10,0),(10,11),(11,9),(11,10)]) 13 rfl (by decide +kernel) (by decide +kernel) (by rfl) ?_
 refine th_n (AC.ret (bq_r ?_))
 exact retX [] rfl ⟨x, p.1 - q.1 / 19, ⟨hx, by omega⟩, rfl, rfl⟩ (by repeat (first | exact DLead.same | exact rfl | refine ⟨_, rfl, ?_⟩ | refine ⟨_, _, rfl, ?_, ?_⟩)) (by repeat (exact True.intro)) rfl rfl
theorem en_sDrawMovesFrom : Enters Tryz.prog 25 := enters_of Tryz.func25 rfl rfl
theorem sDrawShortFS_spec (code : List UInt8) : ASpec Tryz.prog 23 [.d (vB code)] [] RgN := by
 have hA := sDrawMovesFrom_spec code
 refine ASpec.of Tryz.func23 rfl rfl fun C hC => ?_
 refine AC.seq (AC.region ?_)
 refine AL.q (by exact h_alloc rfl) rfl ?_
 refine AL.p (by exact as1 rfl) rfl ?_
 refine AL.nil (th_n (AC.seq (AC.region ?_)))
 refine AL.p (by exact mv1 rfl) rfl ?_
 refine AL.r (by exact h_funR (cs := []) en_sDrawMovesFrom rfl rfl (by repeat (first | exact rfl | exact DLead.same | refine ⟨_, _, rfl, ?_, ?_⟩)) (by repeat (exact True.intro)) hA rfl rfl rfl) rfl ?_
 rintro _ ⟨_, _, ⟨x, k, ⟨hx, hk⟩, rfl, rfl⟩, rfl⟩
 refine AL.p (by exact g_extract (r := .agg _) rfl rfl) rfl ?_
 refine AL.p (by exact g_extract (r := .d _) rfl rfl) rfl ?_
 refine AL.q (by exact h_store rfl rfl rfl rfl rfl rfl) rfl ?_
 refine AL.p (by exact as1 rfl) rfl ?_
 refine AL.nil (th_n (AC.ret (bq_r ?_)))
 exact retX [] rfl ⟨x, k, ⟨hx, hk⟩, rfl, rfl⟩ (by repeat (first | exact DLead.same | exact rfl | refine ⟨_, rfl, ?_⟩ | refine ⟨_, _, rfl, ?_, ?_⟩)) (by repeat (exact True.intro)) rfl rfl
theorem en_sDrawShortFS : Enters Tryz.prog 23 := enters_of Tryz.func23 rfl rfl
theorem markIx_at {x : Ex} (hg : goodR x = true) {k : Nat} (hk : k < x.marks.length) : markIxR x x.marks[k] = ((k : Int), true) := by
 have hn := (goodR_iff.1 hg).2.2.1
 have hp : posI x.marks[k] x.marks = (k : Int) := by unfold posI; rw [posL_nodup hn hk]
 unfold markIxR
 rw [if_pos (by rw [hg, hp]; simp), hp]
theorem moves_at {s : Stg} {x : Ex} (h : Expl s x) (hg : goodR x = true) {k : Nat} (hk : k < x.marks.length) : movesR x (k : Int) = (fromL x k, true) := by
 unfold movesR
 rw [if_pos (by rw [hg, Bool.true_and, Bool.and_eq_true, decide_eq_true_eq, decide_eq_true_eq]; omega)]
 rfl
theorem way_at {s : Stg} {x : Ex} (h : Expl s x) (hg : goodR x = true) {k : Nat} (hk : k < x.marks.length) : wayR x (k : Int) = (wayL x k, true) := by
 unfold wayR
 rw [if_pos (by rw [hg, Bool.true_and, Bool.and_eq_true, decide_eq_true_eq, decide_eq_true_eq]; omega), Int.toNat_natCast, if_neg (by have := h.far hk; omega)]
theorem way_fire {s : Stg} {x : Ex} (h : Expl s x) (hgs : goodS s = true) {k : Nat} (hk : k < x.marks.length) (hw : (wayL x k).length ≤ 200) : SeqI s.net s.start (wayL x k) = (x.marks[k], ((wayL x k).length : Int), true) := by
 obtain ⟨hg1, hg2⟩ : goodN s.net = true ∧ bitsB s.start s.net.places = true := by
  simp only [goodS, Bool.and_eq_true] at hgs
  exact hgs.1
 have hf := h.far hk
 have hv : oa (distF (edgesR x) x.marks.length 0) k = ((oa (distF (edgesR x) x.marks.length 0) k).toNat : Int) := by omega
 have := fire_way h _ k hv
 rw [SeqI_yes (by rw [hg1, hg2, Bool.true_and, Bool.true_and, decide_eq_true_eq]; omega)]
 have hl : (wayL x k).length = (oa (distF (edgesR x) x.marks.length 0) k).toNat := by unfold wayL; rw [List.length_map, List.length_reverse, backI_len]
 rw [hl, ← mkAt_nat hk]
 exact this
theorem enR_at {s : Stg} {x : Ex} (h : Expl s x) (hgs : goodS s = true) {k : Nat} (hk : k < x.marks.length) : enR s.net x.marks[k] = ((fromL x k).map Mv.by_, true) := by
 obtain ⟨hg1, hg2⟩ : goodN s.net = true ∧ bitsB s.start s.net.places = true := by
  simp only [goodS, Bool.and_eq_true] at hgs
  exact hgs.1
 have hb := h.b _ (List.getElem_mem hk)
 have ho := h.out k hk
 rw [mkAt_nat hk] at ho
 unfold enR
 rw [hg1, hb, ho]; rfl
theorem fire_at {s : Stg} {x : Ex} (h : Expl s x) (hgs : goodS s = true) {k : Nat} (hk : k < x.marks.length) {v : Mv} (hv : v ∈ fromL x k) : ∃ t : Nat, ∃ ht : t < x.marks.length, v.to_ = (t : Int) ∧ FireI s.net x.marks[k] v.by_ = (x.marks[t], true) := by
 obtain ⟨hg1, hg2⟩ : goodN s.net = true ∧ bitsB s.start s.net.places = true := by
  simp only [goodS, Bool.and_eq_true] at hgs
  exact hgs.1
 obtain ⟨hm, hfr⟩ := List.mem_filter.1 hv
 simp only [decide_eq_true_eq] at hfr
 obtain ⟨f, t, h1, h2, h3, h4, h5⟩ := h.ok v hm
 obtain rfl : f = k := by omega
 have hb := h.b _ (List.getElem_mem hk)
 refine ⟨t, h4, h2, ?_⟩
 rw [FireI_yes (by rw [hg1, hb]; rfl), ← mkAt_nat hk, ← mkAt_nat h4]
 exact h5
def untilL (x : Ex) (k : Nat) : Nat := (x.moves.filter fun v => decide (v.from_ < (k : Int))).length
theorem until_succ (x : Ex) (k : Nat) : untilL x (k + 1) = untilL x k + (fromL x k).length := by
 unfold untilL fromL
 induction x.moves with
 | nil => rfl
 | cons a l ih =>
  rw [List.filter_cons, List.filter_cons, List.filter_cons]
  split <;> split <;> split <;> simp only [decide_eq_true_eq, List.length_cons] at * <;> omega
theorem until_all {s : Stg} {x : Ex} (h : Expl s x) : untilL x x.marks.length = x.moves.length := by
 unfold untilL
 rw [List.filter_eq_self.2]
 intro v hv
 have := h.inn v hv
 simp only [decide_eq_true_eq]; omega
theorem until_zero {s : Stg} {x : Ex} (h : Expl s x) : untilL x 0 = 0 := by
 unfold untilL
 rw [List.length_eq_zero_iff, List.filter_eq_nil_iff]
 intro v hv
 have := h.inn v hv
 simp only [decide_eq_true_eq]; omega
theorem uns_clash {s : Stg} (h : (explS s).2 = true) : (unsR s).2 = false := by
 unfold explS at h
 split at h
 ·rename_i hc
  obtain ⟨h1, h2⟩ := Bool.and_eq_true_iff.1 hc
  unfold unsR
  rw [if_pos h1, unsT_none h2]
 ·exact absurd h (by simp)
theorem unsR_len (s : Stg) : (unsR s).1.length ≤ 1000 := by
 unfold unsR
 split
 ·rename_i hg
  have h1 : goodN s.net = true ∧ bitsB s.start s.net.places = true := by
   simp only [goodS, Bool.and_eq_true] at hg
   exact hg.1
  have := exOut_I (good_places h1.1).2.2 301 0 (x := ⟨[s.start], []⟩) (q := 0) ⟨by show 1 ≤ 300; omega, fun m hm => by rw [List.mem_singleton.1 hm]; exact h1.2, Nat.le_refl _⟩
  have hn : (explR s.net s.start).1.marks.length ≤ 300 := this.n
  unfold unsT
  split
  ·split
   ·have h2 := upL_len (explR s.net s.start).1.moves (explR s.net s.start).1.marks.length
    rename_i p _ _
    have h3 := h2 p.1.toNat
    rw [List.length_append, List.length_reverse, List.length_singleton]
    omega
   ·exact Nat.zero_le _
  ·exact Nat.zero_le _
 ·exact Nat.zero_le _
theorem wayR_len (x : Ex) (k : Int) (h : x.marks.length ≤ 1000) : (wayR x k).1.length ≤ 1000 := by
 unfold wayR
 split
 ·rename_i hc
  obtain ⟨hg, hk⟩ := Bool.and_eq_true_iff.1 hc
  split
  ·exact Nat.zero_le _
  ·have := distF_le (s := 0) (by have := (goodR_iff.1 hg).1; omega) (goodR_edges hg) k.toNat
   show (wayL x k.toNat).length ≤ _
   unfold wayL
   rw [List.length_map, List.length_reverse, backI_len]
   omega
 ·exact Nat.zero_le _
end Go.Proofs.YthafkkgmekgmoaaGreat
