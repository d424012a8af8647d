/- Contracts of the functions of the program and of the reference, each proved by a walk through its code. -/
import Derived.Lib.SliceRun
import Derived.Laws.RangeString
import Derived.Lib.LaidTab
import Derived.ChangeSame
import Derived.ChangeVars
import Derived.JoinedOf
import Derived.RowKit
import Derived.RowKitTokens
import Derived.LaidLaws
import Derived.LaidHandle
import Derived.Stop.Joined
import Derived.MakeChecks
import Derived.SevenTiedAt
import Derived.Stop.LaidErr
import Derived.WalkKit
import Derived.WalkSpells
import Derived.WalkLawsBesides
import Derived.Deep.Draws
import Derived.Lib.Hide
import Derived.Maps.AppendAt
import Derived.OwnWalk
import Derived.Deep.MidRow
import Derived.Laws.ResultCell
import Derived.Deep.Upon
import Derived.Great.FillDense
import Derived.Laws.Tables
import Derived.Laws.BytesArg
import Derived.Laws.MakeOwn
import Derived.Great.BuildSlice
import Derived.ArgAppend
import Derived.Deep.AppendSrc
import Derived.Test.YtmacodlgmebikaaGreatDoorProg
import Derived.KernelRfl
import Derived.Orders
import Derived.Laws.IdiomStrings
import Derived.Lib.AppendZerosOnto
import Derived.ProofKit
import Derived.OpenShut
import Derived.Laws.StructEq
import Derived.ChangeKeysEq
import Derived.Laws.IdiomCopy
import Derived.Shelf.Strings.Builder1
import Derived.Shelf.Strings.Builder2
import Derived.Shelf.Strings.OnBuilder
import Derived.Shelf.Strconv.Itoa0
import Derived.Shelf.Strconv.Itoa1
import Derived.Shelf.LaysM
import Derived.Shelf.Strconv.Itoa2
import Derived.Shelf.Strconv.Itoa3
import Derived.Shelf.Bits.Mul64
import Derived.Test.YtmacodlgmebikaaGreatDoorRows
import Derived.Sort.Grow
import Derived.Below
import Derived.Laws.Small
import Derived.Test.YtmacodlgmebikaaGreatDoorGSo9
set_option linter.all false
set_option maxRecDepth 20000
namespace Go.Proofs.YtmacodlgmebikaaGreatDoor
open Go.RowKit
def sig0 (s : Stg) : Sig := s.sigs.getD 0 ⟨[], 0⟩
def lab0 (s : Stg) : Lab := s.labs.getD 0 ⟨0, false⟩
def badSig (i : Int) : Int := if i = 0 then -1 else if i = 1 then -2 else 8
def badName (i : Int) : List UInt8 := if i = 0 then [] else if i = 1 then [65] else if i = 2 then [97, 98, 99, 100, 101, 102, 103] else [49, 97]
def badKind (i : Int) : Int := if i = 0 then 0 else if i = 1 then 4 else 3
def turnS (g : Stg) (p : Int × Cur) : Stg × Cur :=
 if p.1 = 0 then ({ g with start := (p.2.spoilt g.start [48, 49, 50]).1 }, (p.2.spoilt g.start [48, 49, 50]).2)
 else if p.1 = 1 then ({ g with labs := g.labs.set 0 ⟨badSig (p.2.pick 3).1, (lab0 g).up⟩ }, (p.2.pick 3).2)
 else if p.1 = 2 then ({ g with sigs := g.sigs.set 0 ⟨badName (p.2.pick 4).1, (sig0 g).kind⟩ }, (p.2.pick 4).2)
 else if p.1 = 3 then ({ g with sigs := g.sigs.set 0 ⟨(sig0 g).name, badKind (p.2.pick 3).1⟩ }, (p.2.pick 3).2)
 else if p.1 = 4 then ({ g with labs := g.labs.drop 1 }, p.2)
 else (g, p.2)
def anyI (c : Cur) : Stg × Cur := turnS (stgI c).1 ((stgI c).2.pick 30)
theorem bad3 (c : Cur) (f : Int → Int) (a b d : Int) (hf : ∀ i, f i = if i = 0 then a else if i = 1 then b else d) : ([[dI a], [dI b], [dI d]] : List (List DV))[(c.pick 3).1.toNat]? = some [dI (f (c.pick 3).1)] := by
 have hc := c.pick_in 3 (by decide)
 rw [hf]
 have h : (c.pick 3).1 = 0 ∨ (c.pick 3).1 = 1 ∨ (c.pick 3).1 = 2 := by omega
 rcases h with h | h | h <;> rw [h] <;> rfl
theorem badN (c : Cur) : ([[dS (bstr [])], [dS (bstr [65])], [dS (bstr [97, 98, 99, 100, 101, 102, 103])], [dS (bstr [49, 97])]] : List (List DV))[(c.pick 4).1.toNat]? = some [dS (bstr (badName (c.pick 4).1))] := by
 have hc := c.pick_in 4 (by decide)
 unfold badName
 have h : (c.pick 4).1 = 0 ∨ (c.pick 4).1 = 1 ∨ (c.pick 4).1 = 2 ∨ (c.pick 4).1 = 3 := by omega
 rcases h with h | h | h | h <;> rw [h] <;> rfl
theorem mem_set0 {α : Type} {l : List α} {x y : α} (h : y ∈ l.set 0 x) : y ∈ l ∨ y = x := List.mem_or_eq_of_mem_set h
theorem turnS_in (g : Stg) (hg : okS g = true) (p : Int × Cur) : StgS (turnS g p).1 ∧ (turnS g p).2.pos ≤ p.2.pos + 20 ∧ (turnS g p).2.code = p.2.code := by
 obtain ⟨h, h1, h2⟩ := okS_S hg
 have s1 := p.2.spoilt_in g.start [48, 49, 50]
 have p3 := p.2.pick_pos 3
 have p4 := p.2.pick_pos 4
 have k3 := p.2.pick_code 3
 have k4 := p.2.pick_code 4
 have hbs : ∀ i, -10 ≤ badSig i ∧ badSig i ≤ 10 := fun i => by unfold badSig; split; omega; split <;> omega
 have hbn : ∀ i, (badName i).length ≤ 10 := fun i => by unfold badName; split; decide; split; decide; split <;> decide
 have hs0 : (sig0 g).name.length ≤ 10 := by
  unfold sig0
  rw [List.getD_eq_getElem?_getD, List.getElem?_eq_getElem (show 0 < g.sigs.length from h.s0)]
  exact h.sn _ (List.getElem_mem _)
 unfold turnS
 split
 ·exact ⟨⟨h.p, h.tl, h.t, h.s0, h.sl, h.sn, h.ll, h.lb, by dsimp only; omega⟩, by dsimp only; omega, s1.2.2⟩
 split
 ·exact ⟨⟨h.p, h.tl, h.t, h.s0, h.sl, h.sn, by rw [List.length_set]; exact h.ll, (fun x hx => by
   rcases mem_set0 hx with hx | rfl
   ·exact h.lb x hx
   ·exact hbs _), h.st⟩, by dsimp only; omega, k3⟩
 split
 ·exact ⟨⟨h.p, h.tl, h.t, by rw [List.length_set]; exact h.s0, by rw [List.length_set]; exact h.sl, (fun x hx => by
   rcases mem_set0 hx with hx | rfl
   ·exact h.sn x hx
   ·exact hbn _), h.ll, h.lb, h.st⟩, by dsimp only; omega, k4⟩
 split
 ·exact ⟨⟨h.p, h.tl, h.t, by rw [List.length_set]; exact h.s0, by rw [List.length_set]; exact h.sl, (fun x hx => by
   rcases mem_set0 hx with hx | rfl
   ·exact h.sn x hx
   ·exact hs0), h.ll, h.lb, h.st⟩, by dsimp only; omega, k3⟩
 split
 ·exact ⟨⟨h.p, h.tl, h.t, h.s0, h.sl, h.sn, by rw [List.length_drop]; have := h.ll; omega, fun x hx => h.lb x (List.mem_of_mem_drop hx), h.st⟩, by dsimp only; omega, rfl⟩
 ·exact ⟨h, by dsimp only; omega, rfl⟩
theorem anyI_in (c : Cur) : StgS (anyI c).1 ∧ (anyI c).2.pos ≤ c.pos + 30 ∧ (anyI c).2.code = c.code := by
 have h := stgI_in c
 have h1 := (stgI c).2.pick_pos 30
 have h2 := (stgI c).2.pick_code 30
 have h3 := turnS_in (stgI c).1 h.1 ((stgI c).2.pick 30)
 exact ⟨h3.1, by have := h3.2.1; show (turnS _ _).2.pos ≤ _; omega, h3.2.2.trans (h2.trans h.2.2)⟩
abbrev stgR (s : Stg) (j : Nat) : AV := .agg [aI s.net.places, .d (vTs s.net.ts), .own j s.sigs.length, .d (vLabs s.labs), aS (bstr s.start)]
set_option maxHeartbeats 8000000 in
theorem anyStg_spec (c : Cur) (hp : c.pos ≤ 1000000) : ASpec Tryz.prog 16 [.ptr 0 0] [(0, curC c)] (Fun1 (stgR (anyI c).1 1) [(0, curC (anyI c).2), (1, .arr 80 2 (sigsL (anyI c).1.sigs))]) := by
 have hG := stg_spec c (by omega)
 have hgi := stgI_in c
 have hA : anyI c = turnS (stgI c).1 ((stgI c).2.pick 30) := rfl
 obtain ⟨g, hg⟩ : ∃ g, g = stgI c := ⟨_, rfl⟩
 rw [← hg] at hG hgi hA
 have hpk := g.2.pick_pos 30
 have hK := pick_spec g.2 30 (by decide) (by omega)
 obtain ⟨p, hpp⟩ : ∃ p, p = g.2.pick 30 := ⟨_, rfl⟩
 rw [← hpp] at hK hA hpk
 obtain ⟨hs, hl0, hst⟩ := okS_S hgi.1
 have hs0 := hs.s0
 have hsl := hs.sl
 have hll := hs.ll
 have hsp := spoilt_spec p.2 g.1.start [48, 49, 50] (by omega) (by decide) (by decide) (by omega)
 have ha1 := am_spec p.2 [[dI (-1)], [dI (-2)], [dI 8]] (badSig (p.2.pick 3).1) (by decide) (by decide) (by omega) (bad3 p.2 badSig _ _ _ (fun _ => rfl))
 have ha2 := of_spec p.2 [[dS (bstr [])], [dS (bstr [65])], [dS (bstr [97, 98, 99, 100, 101, 102, 103])], [dS (bstr [49, 97])]] (bstr (badName (p.2.pick 4).1)) (by decide) (by decide) (by omega) (badN p.2)
 have ha3 := am_spec p.2 [[dI 0], [dI 4], [dI 3]] (badKind (p.2.pick 3).1) (by decide) (by decide) (by omega) (bad3 p.2 badKind _ _ _ (fun _ => rfl))
 have hT : turnS g.1 p = if p.1 = 0 then ({ g.1 with start := (p.2.spoilt g.1.start [48, 49, 50]).1 }, (p.2.spoilt g.1.start [48, 49, 50]).2)
  else if p.1 = 1 then ({ g.1 with labs := g.1.labs.set 0 ⟨badSig (p.2.pick 3).1, (lab0 g.1).up⟩ }, (p.2.pick 3).2)
  else if p.1 = 2 then ({ g.1 with sigs := g.1.sigs.set 0 ⟨badName (p.2.pick 4).1, (sig0 g.1).kind⟩ }, (p.2.pick 4).2)
  else if p.1 = 3 then ({ g.1 with sigs := g.1.sigs.set 0 ⟨(sig0 g.1).name, badKind (p.2.pick 3).1⟩ }, (p.2.pick 3).2)
  else if p.1 = 4 then ({ g.1 with labs := g.1.labs.drop 1 }, p.2)
  else (g.1, p.2) := rfl
 rw [← hA] at hT
 obtain ⟨A, hAA⟩ : ∃ A, A = anyI c := ⟨_, rfl⟩
 rw [← hAA] at hT ⊢
 obtain ⟨G, cg⟩ := g
 obtain ⟨pi, pc⟩ := p
 dsimp only at *
 obtain ⟨N, sg, lb, st⟩ := G
 dsimp only at *
 obtain ⟨x0, sg', rfl⟩ : ∃ x r, sg = x :: r := by cases sg with | nil => simp at hs0 | cons a b => exact ⟨a, b, rfl⟩
 obtain ⟨y0, lb', rfl⟩ : ∃ x r, lb = x :: r := by cases lb with | nil => simp at hl0 | cons a b => exact ⟨a, b, rfl⟩
 have hls : (x0 :: sg').length = sg'.length + 1 := rfl
 have hlb : (y0 :: lb').length = lb'.length + 1 := rfl
 clear hAA hA hs hgi hg hpp hs0 hl0
 refine ASpec.of Tryz.func16 rfl rfl fun C hC => ?_
 refine AC.seq (AC.region ?_)
 refine AL.q (by exact h_alloc rfl) rfl ?_
 refine AL.nil (th_n (AC.seq (AC.region ?_)))
 refine AL.p (by exact mv3 rfl) rfl ?_
 refine AL.q (by exact h_fun (cs := [0]) en_stg rfl rfl (by repeat (first | exact rfl | refine ⟨_, _, rfl, ?_, ?_⟩ | refine ⟨_, rfl, ?_⟩)) (by repeat (first | exact True.intro | refine And.intro ?_ ?_ | exact DLead.same | exact rfl | refine ⟨_, _, rfl, rfl, ?_⟩ | refine ⟨_, rfl, ?_⟩ | refine ⟨_, _, rfl, ?_, ?_⟩)) hG rfl rfl rfl rfl) rfl ?_
 refine AL.q (by exact h_alloc rfl) rfl ?_
 refine AL.q (by exact h_store rfl rfl rfl rfl rfl rfl) rfl ?_
 refine AL.nil (th_n ?_)
 refine AC.cut (fun (x : Stg × Cur) => ⟨49, 300, [(2, .ptr 201 0), (3, .ptr 200 0)], [(0, some (curC x.2)), (200, some (.cells 29 [aI x.1.net.places, .d (vTs x.1.net.ts), .own 101 x.1.sigs.length, .d (vLabs x.1.labs), aS (bstr x.1.start)])), (101, some (.arr 80 2 (sigsL x.1.sigs))), (201, some (.cells 29 zStg))]⟩) (fun x => x = A) ?_ ?_
 ·refine AC.seq (AC.region ?_)
  refine AL.p (by exact mv3 rfl) rfl ?_
  refine AL.q (by exact h_fun (cs := [0]) en_pick rfl rfl (by repeat (first | exact rfl | exact DLead.same | refine ⟨_, _, rfl, ?_, ?_⟩ | refine ⟨_, rfl, ?_⟩)) (by repeat (first | exact True.intro | refine And.intro ?_ ?_ | exact DLead.same | exact rfl | refine ⟨_, _, rfl, rfl, ?_⟩ | refine ⟨_, rfl, ?_⟩ | refine ⟨_, _, rfl, ?_, ?_⟩)) hK rfl rfl rfl rfl) rfl ?_
  refine AL.nil (th_n (AC.block (AC.seq (AC.region ?_))))
  refine AL.p (by exact g_cmp rfl rfl rfl) rfl ?_
  refine AL.p (by exact as1 rfl) rfl ?_
  refine AL.nil (th_n ?_)
  refine AC.condD rfl (fun h0 => ?_) (fun h0 => ?_)
  ·refine AC.region ?_
   refine AL.p (by exact mv3 rfl) rfl ?_
   refine AL.p (by exact g_fa_ptr rfl rfl rfl rfl rfl) rfl ?_
   refine AL.p (by exact g_load_ptr rfl rfl rfl rfl rfl) rfl ?_
   refine AL.q (by exact h_fun (cs := [0]) en_spoilt rfl rfl (by repeat (first | exact rfl | exact DLead.same | refine ⟨_, _, rfl, ?_, ?_⟩ | refine ⟨_, rfl, ?_⟩)) (by repeat (first | exact True.intro | refine And.intro ?_ ?_ | exact DLead.same | exact rfl | refine ⟨_, _, rfl, rfl, ?_⟩ | refine ⟨_, rfl, ?_⟩ | refine ⟨_, _, rfl, ?_, ?_⟩)) hsp rfl rfl rfl rfl) rfl ?_
   refine AL.p (by exact g_fa_ptr rfl rfl rfl rfl rfl) rfl ?_
   refine AL.q (by exact h_store rfl rfl rfl rfl rfl rfl) rfl ?_
   refine AL.nil (ib_n (th_n ?_))
   (have e := hT.trans (if_pos h0); exact ⟨A, rfl, (Weak.freezeP 3 3 rfl rfl rfl rfl (ownl _ _) (ownt _ _) rfl).trans (Weak.ren _ [(200, _), (101, _), (201, _)] hC rfl (by repeat (first | exact True.intro | refine And.intro ?_ ?_ | exact rfl | refine ⟨_, rfl, ?_⟩)) (by rw [e]; repeat (first | exact True.intro | refine And.intro ?_ ?_ | exact DLead.same | exact rfl | refine ⟨_, _, rfl, rfl, ?_⟩ | refine ⟨_, rfl, ?_⟩ | refine ⟨_, _, rfl, ?_, ?_⟩)) rfl rfl rfl)⟩)
  ·refine AC.seq (AC.region ?_)
   refine AL.p (by exact g_cmp rfl rfl rfl) rfl ?_
   refine AL.p (by exact as1 rfl) rfl ?_
   refine AL.nil (th_n ?_)
   refine AC.condD rfl (fun h1 => ?_) (fun h1 => ?_)
   ·refine AC.drawn' mixed_ok [[], [0], [], [], [2,3], [0,1,2,3,4], [0,1,2,3,4,5], [0,1,2,3,4,5,6]] (by decide) ?_
    refine DF.op 0 [] 8 rfl rfl rfl (.free rfl (NOp.of (by exact g_fa_ptr rfl rfl rfl rfl rfl))) rfl ?_
    refine DF.op 1 [0] 8 rfl rfl rfl (.free rfl (NOp.of (by exact g_load_ptr rfl rfl rfl rfl rfl))) rfl ?_
    refine DF.op 2 [] 8 rfl rfl rfl (.free rfl (NOp.of (by exact mv3 rfl))) rfl ?_
    refine DF.op 3 [] 8 rfl rfl rfl (.free rfl (by exact h_litF rfl rfl rfl rfl rfl rfl rfl rfl)) rfl ?_
    refine DF.op 4 [2,3] 8 rfl rfl rfl (.free rfl (by exact h_fun (cs := [0]) en_among rfl rfl (by repeat (first | exact rfl | exact DLead.same | refine ⟨_, _, rfl, ?_, ?_⟩ | refine ⟨_, rfl, ?_⟩)) (by repeat (first | exact True.intro | refine And.intro ?_ ?_ | exact DLead.same | exact rfl | refine ⟨_, _, rfl, rfl, ?_⟩ | refine ⟨_, rfl, ?_⟩ | refine ⟨_, _, rfl, ?_, ?_⟩)) ha1 rfl rfl rfl rfl)) rfl ?_
    refine DF.op 5 [0,1,2,3,4] 8 rfl rfl rfl (.free rfl (NOp.of (by exact g_ia_own (i := 0) (l := (y0 :: lb').length) rfl rfl rfl rfl rfl rfl (by omega) rfl))) rfl ?_
    refine DF.op 6 [0,1,2,3,4,5] 8 rfl rfl rfl (.free rfl (NOp.of (by exact g_fa_ptr rfl rfl rfl rfl rfl))) rfl ?_
    refine DF.op 7 [0,1,2,3,4,5,6] 8 rfl rfl rfl (.free rfl (by exact h_store_arr (i := 0) (j := 0) (cs := labD y0) (d := dI (badSig (pc.pick 3).1)) rfl rfl rfl rfl .same rfl rfl (by decide))) rfl ?_
    refine DF.fin (ps := [(0,2),(0,3),(0,4),(1,2),(1,3),(1,4),(2,0),(2,1),(2,3),(3,0),(3,1),(3,2),(4,0),(4,1)]) 8 rfl (by decide +kernel) (by decide +kernel) (by rfl) ?_
    refine ib_n (th_n ?_)
    (have e := hT.trans ((if_neg h0).trans (if_pos h1)); exact ⟨A, rfl, (Weak.freezeP 3 3 rfl rfl rfl rfl (by simp) (List.take_of_length_le (by simp)) rfl).trans (Weak.ren _ [(200, _), (101, _), (201, _)] hC rfl (by repeat (first | exact True.intro | refine And.intro ?_ ?_ | exact rfl | refine ⟨_, rfl, ?_⟩)) (by rw [e]; repeat (first | exact True.intro | refine And.intro ?_ ?_ | exact DLead.same | exact rfl | refine ⟨_, _, rfl, rfl, ?_⟩ | refine ⟨_, rfl, ?_⟩ | refine ⟨_, _, rfl, ?_, ?_⟩)) rfl rfl rfl)⟩)
   ·refine AC.seq (AC.region ?_)
    refine AL.p (by exact g_cmp rfl rfl rfl) rfl ?_
    refine AL.p (by exact as1 rfl) rfl ?_
    refine AL.nil (th_n ?_)
    refine AC.condD rfl (fun h2 => ?_) (fun h2 => ?_)
    ·refine AC.drawn' mixed_ok [[], [0], [], [], [2,3], [0,1,2,3,4], [0,1,2,3,4,5], [0,1,2,3,4,5,6]] (by decide) ?_
     refine DF.op 0 [] 8 rfl rfl rfl (.free rfl (NOp.of (by exact g_fa_ptr rfl rfl rfl rfl rfl))) rfl ?_
     refine DF.op 1 [0] 8 rfl rfl rfl (.free rfl (NOp.of (by exact g_load_ptr rfl rfl rfl rfl rfl))) rfl ?_
     refine DF.op 2 [] 8 rfl rfl rfl (.free rfl (NOp.of (by exact mv3 rfl))) rfl ?_
     refine DF.op 3 [] 8 rfl rfl rfl (.free rfl (by exact h_litF rfl rfl rfl rfl rfl rfl rfl rfl)) rfl ?_
     refine DF.op 4 [2,3] 8 rfl rfl rfl (.free rfl (by exact h_fun (cs := [0]) en_of rfl rfl (by repeat (first | exact rfl | exact DLead.same | refine ⟨_, _, rfl, ?_, ?_⟩ | refine ⟨_, rfl, ?_⟩)) (by repeat (first | exact True.intro | refine And.intro ?_ ?_ | exact DLead.same | exact rfl | refine ⟨_, _, rfl, rfl, ?_⟩ | refine ⟨_, rfl, ?_⟩ | refine ⟨_, _, rfl, ?_, ?_⟩)) ha2 rfl rfl rfl rfl)) rfl ?_
     refine DF.op 5 [0,1,2,3,4] 8 rfl rfl rfl (.free rfl (NOp.of (by exact g_ia_own (i := 0) (l := (x0 :: sg').length) rfl rfl rfl rfl rfl rfl (by omega) rfl))) rfl ?_
     refine DF.op 6 [0,1,2,3,4,5] 8 rfl rfl rfl (.free rfl (NOp.of (by exact g_fa_ptr rfl rfl rfl rfl rfl))) rfl ?_
     refine DF.op 7 [0,1,2,3,4,5,6] 8 rfl rfl rfl (.free rfl (by exact h_store_arr (i := 0) (j := 0) (cs := sigD x0) (d := dS (bstr (badName (pc.pick 4).1))) rfl rfl rfl rfl .same rfl rfl (by decide))) rfl ?_
     refine DF.fin (ps := [(0,2),(0,3),(0,4),(1,2),(1,3),(1,4),(2,0),(2,1),(2,3),(3,0),(3,1),(3,2),(4,0),(4,1)]) 8 rfl (by decide +kernel) (by decide +kernel) (by rfl) ?_
     refine ib_n (th_n ?_)
     (have e := hT.trans ((if_neg h0).trans ((if_neg h1).trans (if_pos h2))); exact ⟨A, rfl, (Weak.freezeP 3 3 rfl rfl rfl rfl (ownl _ _) (ownt _ _) rfl).trans (Weak.ren _ [(200, _), (101, _), (201, _)] hC rfl (by repeat (first | exact True.intro | refine And.intro ?_ ?_ | exact rfl | refine ⟨_, rfl, ?_⟩)) (by rw [e]; repeat (first | exact True.intro | refine And.intro ?_ ?_ | exact DLead.same | exact rfl | refine ⟨_, _, rfl, rfl, ?_⟩ | refine ⟨_, rfl, ?_⟩ | refine ⟨_, _, rfl, ?_, ?_⟩)) rfl rfl rfl)⟩)
    ·refine AC.seq (AC.region ?_)
     refine AL.p (by exact g_cmp rfl rfl rfl) rfl ?_
     refine AL.p (by exact as1 rfl) rfl ?_
     refine AL.nil (th_n ?_)
     refine AC.condD rfl (fun h3 => ?_) (fun h3 => ?_)
     ·refine AC.drawn' mixed_ok [[], [0], [], [], [2,3], [0,1,2,3,4], [0,1,2,3,4,5], [0,1,2,3,4,5,6]] (by decide) ?_
      refine DF.op 0 [] 8 rfl rfl rfl (.free rfl (NOp.of (by exact g_fa_ptr rfl rfl rfl rfl rfl))) rfl ?_
      refine DF.op 1 [0] 8 rfl rfl rfl (.free rfl (NOp.of (by exact g_load_ptr rfl rfl rfl rfl rfl))) rfl ?_
      refine DF.op 2 [] 8 rfl rfl rfl (.free rfl (NOp.of (by exact mv3 rfl))) rfl ?_
      refine DF.op 3 [] 8 rfl rfl rfl (.free rfl (by exact h_litF rfl rfl rfl rfl rfl rfl rfl rfl)) rfl ?_
      refine DF.op 4 [2,3] 8 rfl rfl rfl (.free rfl (by exact h_fun (cs := [0]) en_among rfl rfl (by repeat (first | exact rfl | exact DLead.same | refine ⟨_, _, rfl, ?_, ?_⟩ | refine ⟨_, rfl, ?_⟩)) (by repeat (first | exact True.intro | refine And.intro ?_ ?_ | exact DLead.same | exact rfl | refine ⟨_, _, rfl, rfl, ?_⟩ | refine ⟨_, rfl, ?_⟩ | refine ⟨_, _, rfl, ?_, ?_⟩)) ha3 rfl rfl rfl rfl)) rfl ?_
      refine DF.op 5 [0,1,2,3,4] 8 rfl rfl rfl (.free rfl (NOp.of (by exact g_ia_own (i := 0) (l := (x0 :: sg').length) rfl rfl rfl rfl rfl rfl (by omega) rfl))) rfl ?_
      refine DF.op 6 [0,1,2,3,4,5] 8 rfl rfl rfl (.free rfl (NOp.of (by exact g_fa_ptr rfl rfl rfl rfl rfl))) rfl ?_
      refine DF.op 7 [0,1,2,3,4,5,6] 8 rfl rfl rfl (.free rfl (by exact h_store_arr (i := 0) (j := 1) (cs := sigD x0) (d := dI (badKind (pc.pick 3).1)) rfl rfl rfl rfl .same rfl rfl (by decide))) rfl ?_
      refine DF.fin (ps := [(0,2),(0,3),(0,4),(1,2),(1,3),(1,4),(2,0),(2,1),(2,3),(3,0),(3,1),(3,2),(4,0),(4,1)]) 8 rfl (by decide +kernel) (by decide +kernel) (by rfl) ?_
      refine ib_n (th_n ?_)
      (have e := hT.trans ((if_neg h0).trans ((if_neg h1).trans ((if_neg h2).trans (if_pos h3)))); exact ⟨A, rfl, (Weak.freezeP 3 3 rfl rfl rfl rfl (ownl _ _) (ownt _ _) rfl).trans (Weak.ren _ [(200, _), (101, _), (201, _)] hC rfl (by repeat (first | exact True.intro | refine And.intro ?_ ?_ | exact rfl | refine ⟨_, rfl, ?_⟩)) (by rw [e]; repeat (first | exact True.intro | refine And.intro ?_ ?_ | exact DLead.same | exact rfl | refine ⟨_, _, rfl, rfl, ?_⟩ | refine ⟨_, rfl, ?_⟩ | refine ⟨_, _, rfl, ?_, ?_⟩)) rfl rfl rfl)⟩)
     ·refine AC.seq (AC.region ?_)
      refine AL.p (by exact g_cmp rfl rfl rfl) rfl ?_
      refine AL.p (by exact as1 rfl) rfl ?_
      refine AL.nil (th_n ?_)
      refine AC.condD rfl (fun h4 => ?_) (fun h4 => ?_)
      ·refine AC.region ?_
       refine AL.weak (Weak.freezeP 3 3 rfl rfl rfl rfl (ownl _ _) (ownt _ _) rfl) ?_
       refine AL.p (by exact g_fa_ptr rfl rfl rfl rfl rfl) rfl ?_
       refine AL.p (by exact g_load_ptr rfl rfl rfl rfl rfl) rfl ?_
       refine AL.p (by exact g_slice_view (r := labsL lb') (l := 1) (h := (labsL (y0 :: lb')).length) rfl rfl rfl rfl (.some rfl rfl) .none (by rw [labsL_len]; omega) (Nat.le_refl _) (by rw [List.take_length]; rfl)) rfl ?_
       refine AL.p (by exact g_fa_ptr rfl rfl rfl rfl rfl) rfl ?_
       refine AL.q (by exact h_store rfl rfl rfl rfl rfl rfl) rfl ?_
       refine AL.nil (ib_n (th_n ?_))
       (have e := hT.trans ((if_neg h0).trans ((if_neg h1).trans ((if_neg h2).trans ((if_neg h3).trans (if_pos h4))))); exact ⟨A, rfl, Weak.ren _ [(200, _), (101, _), (201, _)] hC rfl (by repeat (first | exact True.intro | refine And.intro ?_ ?_ | exact rfl | refine ⟨_, rfl, ?_⟩)) (by rw [e]; repeat (first | exact True.intro | refine And.intro ?_ ?_ | exact DLead.same | exact rfl | refine ⟨_, _, rfl, rfl, ?_⟩ | refine ⟨_, rfl, ?_⟩ | refine ⟨_, _, rfl, ?_, ?_⟩)) rfl rfl rfl⟩)
      ·refine AC.skip (ib_n (th_n ?_))
       (have e := hT.trans ((if_neg h0).trans ((if_neg h1).trans ((if_neg h2).trans ((if_neg h3).trans (if_neg h4))))); exact ⟨A, rfl, (Weak.freezeP 3 3 rfl rfl rfl rfl (ownl _ _) (ownt _ _) rfl).trans (Weak.ren _ [(200, _), (101, _), (201, _)] hC rfl (by repeat (first | exact True.intro | refine And.intro ?_ ?_ | exact rfl | refine ⟨_, rfl, ?_⟩)) (by rw [e]; repeat (first | exact True.intro | refine And.intro ?_ ?_ | exact DLead.same | exact rfl | refine ⟨_, _, rfl, rfl, ?_⟩ | refine ⟨_, rfl, ?_⟩ | refine ⟨_, _, rfl, ?_, ?_⟩)) rfl rfl rfl)⟩)
 ·rintro x rfl
  refine AC.seq (AC.region ?_)
  refine AL.p (by exact g_load_ptrN rfl rfl rfl rfl rfl) rfl ?_
  refine AL.q (by exact h_store rfl rfl rfl rfl rfl rfl) rfl ?_
  refine AL.nil (th_n (AC.ret (bq_r ?_)))
  exact retN [(1, 101)] rfl (by repeat (first | exact rfl | exact DLead.same | refine ⟨_, _, rfl, ?_, ?_⟩ | refine ⟨_, rfl, ?_⟩)) (by repeat (first | exact True.intro | refine And.intro ?_ ?_ | exact DLead.same | exact rfl | refine ⟨_, _, rfl, rfl, ?_⟩ | refine ⟨_, rfl, ?_⟩ | refine ⟨_, _, rfl, ?_, ?_⟩)) rfl rfl
theorem en_anyStg : Enters Tryz.prog 16 := enters_of Tryz.func16 rfl rfl
def drwN : Nat → Cur → List Int → List Int × Cur
 | 0, c, acc => (acc, c)
 | j + 1, c, acc => drwN j (c.pick 1000).2 (acc ++ [(c.pick 1000).1])
theorem drwN_in : ∀ (j : Nat) (c : Cur) (acc : List Int), (∀ x, x ∈ acc → -1 ≤ x ∧ x ≤ 1000) → (drwN j c acc).1.length = acc.length + j ∧ (∀ x, x ∈ (drwN j c acc).1 → -1 ≤ x ∧ x ≤ 1000) ∧ (drwN j c acc).2.pos ≤ c.pos + 2 * j ∧ (drwN j c acc).2.code = c.code
 | 0, c, acc, h => ⟨rfl, h, Nat.le_refl _, rfl⟩
 | j + 1, c, acc, h => by
  have h1 := c.pick_in 1000 (by decide)
  have h2 := c.pick_pos 1000
  have h3 := c.pick_code 1000
  have ih := drwN_in j (c.pick 1000).2 (acc ++ [(c.pick 1000).1]) (fun x hx => by
   rcases List.mem_append.1 hx with hx | hx
   ·exact h x hx
   ·rw [List.mem_singleton] at hx; omega)
  rw [List.length_append] at ih
  simp only [List.length_cons, List.length_nil] at ih
  rw [drwN]
  exact ⟨by omega, ih.2.1, by omega, ih.2.2.2.trans h3⟩
def drwT (r : List Int × Cur) : List Int × Cur := if (r.2.pick 25).1 = 0 then (r.1 ++ [([-1, 1000] : List Int).getD ((r.2.pick 25).2.pick 2).1.toNat 0], ((r.2.pick 25).2.pick 2).2) else (r.1, (r.2.pick 25).2)
def drwI (c : Cur) : List Int × Cur := drwT (drwN (c.pick 14).1.toNat (c.pick 14).2 [])
theorem drwI_in (c : Cur) : (drwI c).1.length ≤ 20 ∧ (drwI c).2.pos ≤ c.pos + 60 ∧ (drwI c).2.code = c.code := by
 have h1 := c.pick_in 14 (by decide)
 have h2 := c.pick_pos 14
 have h3 := c.pick_code 14
 have hN := drwN_in (c.pick 14).1.toNat (c.pick 14).2 [] (fun x hx => by cases hx)
 simp only [List.length_nil] at hN
 unfold drwI drwT
 obtain ⟨r, hr⟩ : ∃ r, r = drwN (c.pick 14).1.toNat (c.pick 14).2 [] := ⟨_, rfl⟩
 rw [← hr] at hN ⊢
 have p1 := r.2.pick_pos 25
 have p2 := (r.2.pick 25).2.pick_pos 2
 have k1 := r.2.pick_code 25
 have k2 := (r.2.pick 25).2.pick_code 2
 split
 ·exact ⟨by rw [List.length_append]; simp only [List.length_cons, List.length_nil]; omega, by dsimp only; omega, by dsimp only; rw [k2, k1, hN.2.2.2, h3]⟩
 ·exact ⟨by dsimp only; omega, by dsimp only; omega, by dsimp only; rw [k1, hN.2.2.2, h3]⟩
set_option maxHeartbeats 4000000 in
theorem curDraws_spec (c : Cur) (hp : c.pos ≤ 1000000) : ASpec Tryz.prog 76 [.ptr 0 0] [(0, curC c)] (Fun1 (.d (vI (drwI c).1)) [(0, curC (drwI c).2)]) := by
 have h1 := c.pick_in 14 (by decide)
 have h2 := c.pick_pos 14
 have hK := pick_spec c 14 (by decide) (by omega)
 have hN := drwN_in (c.pick 14).1.toNat (c.pick 14).2 [] (fun x hx => by cases hx)
 simp only [List.length_nil] at hN
 have hI : drwI c = drwT (drwN (c.pick 14).1.toNat (c.pick 14).2 []) := rfl
 obtain ⟨p, hpp⟩ : ∃ p, p = c.pick 14 := ⟨_, rfl⟩
 rw [← hpp] at h1 h2 hK hN hI
 obtain ⟨r, hr⟩ : ∃ r, r = drwN p.1.toNat p.2 [] := ⟨_, rfl⟩
 rw [← hr] at hN hI
 have hT : drwT r = if (r.2.pick 25).1 = 0 then (r.1 ++ [([-1, 1000] : List Int).getD ((r.2.pick 25).2.pick 2).1.toNat 0], ((r.2.pick 25).2.pick 2).2) else (r.1, (r.2.pick 25).2) := rfl
 have p1 := r.2.pick_pos 25
 have hO := one_spec r.2 25 (by decide) (by omega)
 have hA := among_spec (r.2.pick 25).2 [-1, 1000] (by decide) (by decide) (by omega)
 rw [hI]
 clear hI hpp
 refine ASpec.of Tryz.func76 rfl rfl fun C hC => ?_
 refine AC.seq (AC.region ?_)
 refine AL.p (by exact as1 rfl) rfl ?_
 refine AL.nil (th_n (AC.seq (AC.region ?_)))
 refine AL.p (by exact as1 rfl) rfl ?_
 refine AL.nil (th_n (AC.seq (AC.seq (AC.region ?_))))
 refine AL.p (by exact mv3 rfl) rfl ?_
 refine AL.q (by exact h_fun (cs := [0]) en_pick rfl rfl (by repeat (first | exact rfl | exact DLead.same | refine ⟨_, _, rfl, ?_, ?_⟩ | refine ⟨_, rfl, ?_⟩)) (by repeat (first | exact True.intro | refine And.intro ?_ ?_ | exact DLead.same | exact rfl | refine ⟨_, _, rfl, rfl, ?_⟩ | refine ⟨_, rfl, ?_⟩ | refine ⟨_, _, rfl, ?_, ?_⟩)) hK rfl rfl rfl rfl) rfl ?_
 refine AL.p (by exact as1 rfl) rfl ?_
 refine AL.nil (th_n (AC.block ?_))
 refine AC.loop (ι := Nat × Cur × List Int) (fun x => ⟨25, 500, [(0, .ptr 0 0), (3, .own 100 x.2.2.length), (4, aI x.1)], [(0, some (curC x.2.1)), (100, some (.arr 3 1 (ints x.2.2)))]⟩) (fun x => drwN x.1 x.2.1 x.2.2 = r ∧ x.2.2.length + x.1 ≤ 20 ∧ x.2.1.pos + 2 * x.1 ≤ 2000000) (fun x => x.1) ((p.1.toNat, p.2, [])) ?_ (⟨hr.symm, by simp only [List.length_nil]; omega, by dsimp only; omega⟩) ?_
 ·exact (Weak.nilOwn (i := 3) (e := 3) (sz := 1) rfl (by decide)).trans (Weak.ren _ [(100, _)] hC rfl (by repeat (first | exact True.intro | refine And.intro ?_ ?_ | exact DLead.eqI (by omega) | exact rfl | refine ⟨_, rfl, ?_⟩)) (by repeat (first | exact True.intro | refine And.intro ?_ ?_ | exact DLead.same | exact rfl | refine ⟨_, _, rfl, rfl, ?_⟩ | refine ⟨_, rfl, ?_⟩ | refine ⟨_, _, rfl, ?_, ?_⟩)) rfl rfl rfl)
 ·rintro ⟨j, cc, acc⟩ ⟨hrun, hlen, hpos⟩
  dsimp only at hrun hlen hpos ⊢
  refine AC.seq (AC.seq (AC.region ?_))
  refine AL.p (by exact mv1 rfl) rfl ?_
  refine AL.p (by exact g_cmp rfl rfl rfl) rfl ?_
  refine AL.nil (th_n ?_)
  refine AC.condD rfl (fun h0 => ?_) (fun h0 => ?_)
  ·refine AC.skip (th_n (AC.seq (AC.block ?_)))
   obtain ⟨i, rfl⟩ : ∃ i, j = i + 1 := ⟨j - 1, by omega⟩
   rw [drwN] at hrun
   have hKi := pick_spec cc 1000 (by decide) (by omega)
   have hpi := cc.pick_pos 1000
   obtain ⟨q, hq⟩ : ∃ q, q = cc.pick 1000 := ⟨_, rfl⟩
   rw [← hq] at hKi hpi hrun
   refine AC.region ?_
   refine AL.p (by exact mv2 rfl) rfl ?_
   refine AL.p (by exact mv3 rfl) rfl ?_
   refine AL.q (by exact h_fun (cs := [0]) en_pick rfl rfl (by repeat (first | exact rfl | exact DLead.same | refine ⟨_, _, rfl, ?_, ?_⟩ | refine ⟨_, rfl, ?_⟩)) (by repeat (first | exact True.intro | refine And.intro ?_ ?_ | exact DLead.same | exact rfl | refine ⟨_, _, rfl, rfl, ?_⟩ | refine ⟨_, rfl, ?_⟩ | refine ⟨_, _, rfl, ?_, ?_⟩)) hKi rfl rfl rfl rfl) rfl ?_
   refine AL.q (by exact h_litF rfl rfl rfl rfl rfl rfl rfl rfl) rfl ?_
   refine AL.q (by exact h_appendI acc [q.1] (.own rfl rfl (ints_len _).symm) (.view rfl) (by rw [List.length_append]; simp only [List.length_cons, List.length_nil]; omega) (by simp)) rfl ?_
   refine AL.p (by exact as2 rfl) rfl ?_
   refine AL.nil (ib_n (th_n (AC.region ?_)))
   refine AL.p (by exact mv1 rfl) rfl ?_
   refine AL.p (by exact g_arith rfl rfl rfl (by exact wrap_i64 (by omega))) rfl ?_
   refine AL.p (by exact as1 rfl) rfl ?_
   refine AL.nil (th_n ?_)
   exact ⟨(i, q.2, acc ++ [q.1]), ⟨hrun, by rw [List.length_append]; simp only [List.length_cons, List.length_nil]; omega, by dsimp only; omega⟩, by dsimp only; omega, Weak.ren _ [(100, _)] hC rfl (by repeat (first | exact True.intro | refine And.intro ?_ ?_ | exact DLead.eqI (by omega) | exact rfl | refine ⟨_, rfl, ?_⟩)) (by repeat (first | exact True.intro | refine And.intro ?_ ?_ | exact DLead.same | exact rfl | refine ⟨_, _, rfl, rfl, ?_⟩ | refine ⟨_, rfl, ?_⟩ | refine ⟨_, _, rfl, ?_, ?_⟩)) rfl rfl rfl⟩
  ·refine AC.exit (th_e (th_e (ib_y (th_n (AC.seq (AC.seq ?_))))))
   have hj : j = 0 := by omega
   subst hj
   rw [drwN] at hrun
   obtain ⟨e1, e2⟩ : acc = r.1 ∧ cc = r.2 := by rw [← hrun]; exact ⟨rfl, rfl⟩
   subst e1 e2
   refine AC.region ?_
   refine AL.p (by exact mv3 rfl) rfl ?_
   refine AL.q (by exact h_fun (cs := [0]) en_one rfl rfl (by repeat (first | exact rfl | exact DLead.same | refine ⟨_, _, rfl, ?_, ?_⟩ | refine ⟨_, rfl, ?_⟩)) (by repeat (first | exact True.intro | refine And.intro ?_ ?_ | exact DLead.same | exact rfl | refine ⟨_, _, rfl, rfl, ?_⟩ | refine ⟨_, rfl, ?_⟩ | refine ⟨_, _, rfl, ?_, ?_⟩)) hO rfl rfl rfl rfl) rfl ?_
   refine AL.nil (th_n ?_)
   refine AC.condD rfl (fun h1 => ?_) (fun h1 => ?_)
   ·refine AC.region ?_
    refine AL.p (by exact mv2 rfl) rfl ?_
    refine AL.p (by exact mv3 rfl) rfl ?_
    refine AL.q (by exact h_litF rfl rfl rfl rfl rfl rfl rfl rfl) rfl ?_
    refine AL.q (by exact h_fun (cs := [0]) en_among rfl rfl (by repeat (first | exact rfl | exact DLead.same | refine ⟨_, _, rfl, ?_, ?_⟩ | refine ⟨_, rfl, ?_⟩)) (by repeat (first | exact True.intro | refine And.intro ?_ ?_ | exact DLead.same | exact rfl | refine ⟨_, _, rfl, rfl, ?_⟩ | refine ⟨_, rfl, ?_⟩ | refine ⟨_, _, rfl, ?_, ?_⟩)) hA rfl rfl rfl rfl) rfl ?_
    refine AL.q (by exact h_litF rfl rfl rfl rfl rfl rfl rfl rfl) rfl ?_
    refine AL.q (by exact h_appendI r.1 [([-1, 1000] : List Int).getD ((r.2.pick 25).2.pick 2).1.toNat 0] (.own rfl rfl (ints_len _).symm) (.view rfl) (by rw [List.length_append]; simp only [List.length_cons, List.length_nil]; omega) (by simp)) rfl ?_
    refine AL.p (by exact as2 rfl) rfl ?_
    refine AL.nil (th_n (AC.seq (AC.region ?_)))
    refine AL.p (by exact mv2 rfl) rfl ?_
    refine AL.weak (Weak.freeze (i := 24) rfl rfl (ownl _ _) (ownt _ _)) ?_
    refine AL.p (by exact as1 rfl) rfl ?_
    refine AL.nil (th_n (AC.ret (bq_r ?_)))
    (have e := hT.trans (if_pos h1); exact retF rfl (by rw [e]; repeat (exact DLead.same)) (by rw [e]; repeat (first | exact True.intro | refine And.intro ?_ ?_ | exact DLead.same | exact rfl | refine ⟨_, _, rfl, rfl, ?_⟩ | refine ⟨_, rfl, ?_⟩ | refine ⟨_, _, rfl, ?_, ?_⟩)) rfl)
   ·refine AC.skip (th_n (AC.seq (AC.region ?_)))
    refine AL.p (by exact mv2 rfl) rfl ?_
    refine AL.weak (Weak.freeze (i := 24) rfl rfl (ownl _ _) (ownt _ _)) ?_
    refine AL.p (by exact as1 rfl) rfl ?_
    refine AL.nil (th_n (AC.ret (bq_r ?_)))
    (have e := hT.trans (if_neg h1); exact retF rfl (by rw [e]; repeat (exact DLead.same)) (by rw [e]; repeat (first | exact True.intro | refine And.intro ?_ ?_ | exact DLead.same | exact rfl | refine ⟨_, _, rfl, rfl, ?_⟩ | refine ⟨_, rfl, ?_⟩ | refine ⟨_, _, rfl, ?_, ?_⟩)) rfl)
theorem en_curDraws : Enters Tryz.prog 76 := enters_of Tryz.func76 rfl rfl
def lowV (c : Cur) : Int := ([0, 1, 2, 5, 10] : List Int).getD (c.pick 5).1.toNat 0
def gapV (c : Cur) : Int := ([0, 1, 4, 20] : List Int).getD (c.pick 4).1.toNat 0
def dlyN : Nat → Cur → List Dl → List Dl × Cur
 | 0, c, acc => (acc, c)
 | j + 1, c, acc => dlyN j ((c.pick 5).2.pick 4).2 (acc ++ [⟨lowV c, lowV c + gapV (c.pick 5).2⟩])
theorem getD_bd {L : List Int} {a b : Int} (h0 : a ≤ 0 ∧ 0 ≤ b) (h : ∀ x, x ∈ L → a ≤ x ∧ x ≤ b) (i : Nat) : a ≤ L.getD i 0 ∧ L.getD i 0 ≤ b := by
 rw [List.getD_eq_getElem?_getD]
 cases e : L[i]? with
 | none => exact h0
 | some x => exact h x (List.mem_of_getElem? e)
theorem lowV_in (c : Cur) : 0 ≤ lowV c ∧ lowV c ≤ 10 := getD_bd (by decide) (by decide) _
theorem gapV_in (c : Cur) : 0 ≤ gapV c ∧ gapV c ≤ 20 := getD_bd (by decide) (by decide) _
theorem dlyN_in : ∀ (j : Nat) (c : Cur) (acc : List Dl), (∀ x, x ∈ acc → -200 ≤ x.low ∧ x.low ≤ 200 ∧ -200 ≤ x.high ∧ x.high ≤ 200) → (dlyN j c acc).1.length = acc.length + j ∧ (∀ x, x ∈ (dlyN j c acc).1 → -200 ≤ x.low ∧ x.low ≤ 200 ∧ -200 ≤ x.high ∧ x.high ≤ 200) ∧ (dlyN j c acc).2.pos ≤ c.pos + 4 * j ∧ (dlyN j c acc).2.code = c.code
 | 0, c, acc, h => ⟨rfl, h, Nat.le_refl _, rfl⟩
 | j + 1, c, acc, h => by
  have h1 := lowV_in c
  have h2 := gapV_in (c.pick 5).2
  have p1 := c.pick_pos 5
  have p2 := (c.pick 5).2.pick_pos 4
  have k1 := c.pick_code 5
  have k2 := (c.pick 5).2.pick_code 4
  have ih := dlyN_in j ((c.pick 5).2.pick 4).2 (acc ++ [⟨lowV c, lowV c + gapV (c.pick 5).2⟩]) (fun x hx => by
   rcases List.mem_append.1 hx with hx | hx
   ·exact h x hx
   ·rw [List.mem_singleton] at hx; subst hx; dsimp only; omega)
  rw [List.length_append] at ih
  simp only [List.length_cons, List.length_nil] at ih
  rw [dlyN]
  exact ⟨by omega, ih.2.1, by omega, ih.2.2.2.trans (k2.trans k1)⟩
theorem h_appendD (acc new : List Dl) {s : ASt} {dst : Option Nat} {ty : Nat} {pos : String} {af : Array Edge} {gd : Option (Nat × Bool)} {x y : Operand} {f : Nat} {ids ids2 : List Nat} {gone : List (Nat × Option Chunk)}
  (hto : AppTo s x 82 2 (dlL acc) ids gone) (harg : AppArg s y 2 (dlL new) ids2) (h : (acc ++ new).length ≤ 100000000) (hnew : gone = [] → 0 < new.length) :
  NOp Tryz.prog (ids ++ ids2) s ⟨dst, .call { callee := .builtin .append, args := #[x, y], argTypes := #[30, 30] }, ty, pos, af, gd⟩ f ⟨.own f (acc ++ new).length, (f, some (.arr 82 2 (dlL (acc ++ new)))) :: gone⟩ := by
 have := h_append (P := Tryz.prog) (s := s) (dst := dst) (ty := ty) (pos := pos) (af := af) (gd := gd) (x := x) (y := y) (f := f) (t := 30) (tx := 30) (k := (acc ++ new).length) rfl rfl rfl rfl rfl rfl hto harg (by simp) (by omega) (by show (acc ++ new).length * 16 ≤ _; omega) (fun h => by rw [dlL_len]; exact hnew h)
 rwa [← List.map_append] at this
def badLow (c : Cur) : Int := ([-1, 101, 100] : List Int).getD (c.pick 3).1.toNat 0
def badHigh (c : Cur) : Int := ([100, 101, 0] : List Int).getD (c.pick 3).1.toNat 0
def dlyT (l : List Dl) (i : Nat) (q : Int × Cur) : List Dl × Cur :=
 if q.1 = 0 then (l.set i ⟨badLow q.2, (dAt l i).high⟩, (q.2.pick 3).2)
 else if q.1 = 1 then (l.set i ⟨(dAt l i).low, badHigh q.2⟩, (q.2.pick 3).2)
 else if q.1 = 2 then (l.drop 1, q.2)
 else (l, q.2)
def dlyE (r : List Dl × Cur) : List Dl × Cur := if 0 < r.1.length then dlyT r.1 (r.2.pick r.1.length).1.toNat ((r.2.pick r.1.length).2.pick 20) else r
def dlyI (n : Nat) (c : Cur) : List Dl × Cur := dlyE (dlyN n c [])
def dlIn (l : List Dl) : Prop := ∀ x, x ∈ l → -200 ≤ x.low ∧ x.low ≤ 200 ∧ -200 ≤ x.high ∧ x.high ≤ 200
theorem dAt_in {l : List Dl} (h : dlIn l) (i : Nat) : -200 ≤ (dAt l i).low ∧ (dAt l i).low ≤ 200 ∧ -200 ≤ (dAt l i).high ∧ (dAt l i).high ≤ 200 := by
 unfold dAt
 rw [List.getD_eq_getElem?_getD]
 cases e : l[i]? with
 | none => decide
 | some x => exact h x (List.mem_of_getElem? e)
theorem dlyI_in (n : Nat) (c : Cur) : (dlyI n c).1.length ≤ n ∧ dlIn (dlyI n c).1 ∧ (dlyI n c).2.pos ≤ c.pos + 4 * n + 10 ∧ (dlyI n c).2.code = c.code := by
 have hN := dlyN_in n c [] (fun x hx => by cases hx)
 simp only [List.length_nil] at hN
 unfold dlyI dlyE
 obtain ⟨r, hr⟩ : ∃ r, r = dlyN n c [] := ⟨_, rfl⟩
 rw [← hr] at hN ⊢
 have hin : dlIn r.1 := hN.2.1
 split
 ·have p1 := r.2.pick_pos r.1.length
  have k1 := r.2.pick_code r.1.length
  obtain ⟨i, hi⟩ : ∃ i, i = r.2.pick r.1.length := ⟨_, rfl⟩
  rw [← hi] at p1 k1 ⊢
  have p2 := i.2.pick_pos 20
  have k2 := i.2.pick_code 20
  obtain ⟨q, hq⟩ : ∃ q, q = i.2.pick 20 := ⟨_, rfl⟩
  rw [← hq] at p2 k2 ⊢
  have p3 := q.2.pick_pos 3
  have k3 := q.2.pick_code 3
  have hd := dAt_in hin i.1.toNat
  have b1 : -200 ≤ badLow q.2 ∧ badLow q.2 ≤ 200 := getD_bd (by decide) (by decide) _
  have b2 : -200 ≤ badHigh q.2 ∧ badHigh q.2 ≤ 200 := getD_bd (by decide) (by decide) _
  have hs : ∀ x : Dl, (-200 ≤ x.low ∧ x.low ≤ 200 ∧ -200 ≤ x.high ∧ x.high ≤ 200) → dlIn (r.1.set i.1.toNat x) := fun x hx y hy => by
   rcases List.mem_or_eq_of_mem_set hy with hy | rfl
   ·exact hin y hy
   ·exact hx
  unfold dlyT
  split
  ·exact ⟨by rw [List.length_set]; omega, hs _ ⟨b1.1, b1.2, hd.2.2.1, hd.2.2.2⟩, by dsimp only; omega, k3.trans (k2.trans (k1.trans hN.2.2.2))⟩
  split
  ·exact ⟨by rw [List.length_set]; omega, hs _ ⟨hd.1, hd.2.1, b2.1, b2.2⟩, by dsimp only; omega, k3.trans (k2.trans (k1.trans hN.2.2.2))⟩
  split
  ·exact ⟨by rw [List.length_drop]; omega, fun x hx => hin x (List.mem_of_mem_drop hx), by dsimp only; omega, k2.trans (k1.trans hN.2.2.2)⟩
  ·exact ⟨by dsimp only; omega, hin, by dsimp only; omega, k2.trans (k1.trans hN.2.2.2)⟩
 ·exact ⟨by omega, hin, by omega, hN.2.2.2⟩
theorem dlL_set (l : List Dl) (i : Nat) (x : Dl) : (dlL l).set i (dlD x) = dlL (l.set i x) := by unfold dlL; rw [List.map_set]
set_option maxHeartbeats 8000000 in
theorem curDelays_spec (s : Stg) (c : Cur) (hs : s.net.ts.length ≤ 100) (hp : c.pos ≤ 1000000) : ASpec Tryz.prog 17 [.ptr 0 0, stgA s] [(0, curC c)] (Fun1 (.d (vDls (dlyI s.net.ts.length c).1)) [(0, curC (dlyI s.net.ts.length c).2)]) := by
 have hN := dlyN_in s.net.ts.length c [] (fun x hx => by cases hx)
 simp only [List.length_nil] at hN
 have hI : dlyI s.net.ts.length c = dlyE (dlyN s.net.ts.length c []) := rfl
 obtain ⟨r, hr⟩ : ∃ r, r = dlyN s.net.ts.length c [] := ⟨_, rfl⟩
 rw [← hr] at hN hI
 have hE : dlyE r = if 0 < r.1.length then dlyT r.1 (r.2.pick r.1.length).1.toNat ((r.2.pick r.1.length).2.pick 20) else r := rfl
 rw [hI]
 have p1 := r.2.pick_pos r.1.length
 have hK1 := pick_spec r.2 r.1.length (by omega) (by omega)
 have hKi : 0 < r.1.length → 0 ≤ (r.2.pick r.1.length).1 ∧ (r.2.pick r.1.length).1 < r.1.length := fun h => r.2.pick_in r.1.length (by omega)
 obtain ⟨i, hi⟩ : ∃ i, i = r.2.pick r.1.length := ⟨_, rfl⟩
 rw [← hi] at p1 hK1 hKi hE
 have p2 := i.2.pick_pos 20
 have hK2 := pick_spec i.2 20 (by decide) (by omega)
 obtain ⟨q, hq⟩ : ∃ q, q = i.2.pick 20 := ⟨_, rfl⟩
 rw [← hq] at p2 hK2 hE
 have hA1 := among_spec q.2 [-1, 101, 100] (by decide) (by decide) (by omega)
 have hA2 := among_spec q.2 [100, 101, 0] (by decide) (by decide) (by omega)
 have hT : dlyT r.1 i.1.toNat q = if q.1 = 0 then (r.1.set i.1.toNat ⟨badLow q.2, (dAt r.1 i.1.toNat).high⟩, (q.2.pick 3).2)
  else if q.1 = 1 then (r.1.set i.1.toNat ⟨(dAt r.1 i.1.toNat).low, badHigh q.2⟩, (q.2.pick 3).2)
  else if q.1 = 2 then (r.1.drop 1, q.2)
  else (r.1, q.2) := rfl
 obtain ⟨Z, hZ⟩ : ∃ Z, Z = dlyE r := ⟨_, rfl⟩
 rw [← hZ] at hE ⊢
 clear hI hZ hi hq
 refine ASpec.of Tryz.func17 rfl rfl fun C hC => ?_
 refine AC.seq (AC.region ?_)
 refine AL.q (by exact h_boxF rfl rfl) rfl ?_
 refine AL.p (by exact as1 rfl) rfl ?_
 refine AL.nil (th_n (AC.seq (AC.region ?_)))
 refine AL.p (by exact as1 rfl) rfl ?_
 refine AL.nil (th_n (AC.seq (AC.seq (AC.region ?_))))
 refine AL.p (by exact g_fa_ref rfl rfl rfl rfl rfl rfl) rfl ?_
 refine AL.p (by exact g_fa_ref rfl rfl rfl rfl rfl rfl) rfl ?_
 refine AL.p (by exact g_load_ref rfl rfl rfl) rfl ?_
 refine AL.p (by exact g_len_view (k := s.net.ts.length) rfl rfl (tsL_len _)) rfl ?_
 refine AL.p (by exact mv1 rfl) rfl ?_
 refine AL.nil (th_n (AC.block ?_))
 refine AC.loop (ι := Nat × Cur × List Dl) (fun x => ⟨60, 500, [(0, .ptr 0 0), (5, .own 100 x.2.2.length), (11, aI s.net.ts.length), (12, aI x.1)], [(0, some (curC x.2.1)), (100, some (.arr 82 2 (dlL x.2.2)))]⟩) (fun x => x.1 ≤ s.net.ts.length ∧ dlyN (s.net.ts.length - x.1) x.2.1 x.2.2 = r ∧ x.2.2.length = x.1 ∧ x.2.1.pos + 4 * (s.net.ts.length - x.1) ≤ 2000000) (fun x => s.net.ts.length - x.1) ((0, c, [])) ?_ (⟨Nat.zero_le _, hr.symm, rfl, by dsimp only; omega⟩) ?_
 ·exact (Weak.nilOwn (i := 5) (e := 82) (sz := 2) rfl (by decide)).trans (Weak.ren _ [(100, _)] hC rfl (by repeat (first | exact True.intro | refine And.intro ?_ ?_ | exact DLead.same | exact rfl | refine ⟨_, rfl, ?_⟩)) (by repeat (first | exact True.intro | refine And.intro ?_ ?_ | exact DLead.same | exact rfl | refine ⟨_, _, rfl, rfl, ?_⟩ | refine ⟨_, rfl, ?_⟩ | refine ⟨_, _, rfl, ?_, ?_⟩)) rfl rfl rfl)
 ·rintro ⟨k, cc, acc⟩ ⟨hk, hrun, hlen, hpos⟩
  dsimp only at hk hrun hlen hpos ⊢
  refine AC.seq (AC.region ?_)
  refine AL.p (by exact g_cmp rfl rfl rfl) rfl ?_
  refine AL.nil (th_n (AC.seq ?_))
  refine AC.condD rfl (fun h0 => ?_) (fun h0 => ?_)
  ·refine AC.skip (th_n (AC.seq (AC.block (AC.seq ?_))))
   have hk1 : k < s.net.ts.length := by omega
   rw [show s.net.ts.length - k = (s.net.ts.length - (k + 1)) + 1 by omega, dlyN] at hrun
   have hB1 := among_spec cc [0, 1, 2, 5, 10] (by decide) (by decide) (by omega)
   have hpa := cc.pick_pos 5
   have hB2 := among_spec (cc.pick 5).2 [0, 1, 4, 20] (by decide) (by decide) (by omega)
   have hpb := (cc.pick 5).2.pick_pos 4
   have hlo := lowV_in cc
   have hga := gapV_in (cc.pick 5).2
   have e1 : ([0, 1, 2, 5, 10] : List Int).getD (cc.pick ([0, 1, 2, 5, 10] : List Int).length).1.toNat 0 = lowV cc := rfl
   have e2 : ([0, 1, 4, 20] : List Int).getD ((cc.pick 5).2.pick ([0, 1, 4, 20] : List Int).length).1.toNat 0 = gapV (cc.pick 5).2 := rfl
   rw [e1] at hB1
   rw [e2] at hB2
   obtain ⟨lo, hloE⟩ : ∃ lo, lo = lowV cc := ⟨_, rfl⟩
   obtain ⟨ga, hgaE⟩ : ∃ ga, ga = gapV (cc.pick 5).2 := ⟨_, rfl⟩
   rw [← hloE] at hB1 hlo hrun
   rw [← hgaE] at hB2 hga hrun
   refine AC.region ?_
   refine AL.p (by exact mv3 rfl) rfl ?_
   refine AL.q (by exact h_litF rfl rfl rfl rfl rfl rfl rfl rfl) rfl ?_
   refine AL.q (by exact h_fun (cs := [0]) en_among rfl rfl (by repeat (first | exact rfl | exact DLead.same | refine ⟨_, _, rfl, ?_, ?_⟩ | refine ⟨_, rfl, ?_⟩)) (by repeat (first | exact True.intro | refine And.intro ?_ ?_ | exact DLead.same | exact rfl | refine ⟨_, _, rfl, rfl, ?_⟩ | refine ⟨_, rfl, ?_⟩ | refine ⟨_, _, rfl, ?_, ?_⟩)) hB1 rfl rfl rfl rfl) rfl ?_
   refine AL.p (by exact as1 rfl) rfl ?_
   refine AL.nil (th_n (AC.region ?_))
   refine AL.p (by exact mv2 rfl) rfl ?_
   refine AL.p (by exact mv1 rfl) rfl ?_
   refine AL.p (by exact mv1 rfl) rfl ?_
   refine AL.p (by exact mv3 rfl) rfl ?_
   refine AL.q (by exact h_litF rfl rfl rfl rfl rfl rfl rfl rfl) rfl ?_
   refine AL.q (by exact h_fun (cs := [0]) en_among rfl rfl (by repeat (first | exact rfl | exact DLead.same | refine ⟨_, _, rfl, ?_, ?_⟩ | refine ⟨_, rfl, ?_⟩)) (by repeat (first | exact True.intro | refine And.intro ?_ ?_ | exact DLead.same | exact rfl | refine ⟨_, _, rfl, rfl, ?_⟩ | refine ⟨_, rfl, ?_⟩ | refine ⟨_, _, rfl, ?_, ?_⟩)) hB2 rfl rfl rfl rfl) rfl ?_
   refine AL.p (by exact g_arith rfl rfl rfl (by exact wrap_i64 (by omega))) rfl ?_
   refine AL.p (by exact g_build rfl rfl rfl) rfl ?_
   refine AL.q (by exact h_litF rfl rfl rfl rfl rfl rfl rfl rfl) rfl ?_
   refine AL.q (by exact h_appendD acc [⟨lo, lo + ga⟩] (.own rfl rfl (dlL_len _).symm) (.view rfl) (by rw [List.length_append]; simp only [List.length_cons, List.length_nil]; omega) (by simp)) rfl ?_
   refine AL.p (by exact as2 rfl) rfl ?_
   refine AL.nil (ib_n (th_n (AC.region ?_)))
   refine AL.p (by exact g_arith rfl rfl rfl (by exact wrap_i64 (by omega))) rfl ?_
   refine AL.p (by exact mv1 rfl) rfl ?_
   refine AL.nil (th_n ?_)
   exact ⟨(k + 1, ((cc.pick 5).2.pick 4).2, acc ++ [⟨lo, lo + ga⟩]), ⟨by omega, hrun, by rw [List.length_append]; simp only [List.length_cons, List.length_nil]; omega, by dsimp only; omega⟩, by dsimp only; omega, Weak.ren _ [(100, _)] hC rfl (by repeat (first | exact True.intro | refine And.intro ?_ ?_ | exact DLead.same | exact rfl | refine ⟨_, rfl, ?_⟩)) (by repeat (first | exact True.intro | refine And.intro ?_ ?_ | exact DLead.same | exact rfl | refine ⟨_, _, rfl, rfl, ?_⟩ | refine ⟨_, rfl, ?_⟩ | refine ⟨_, _, rfl, ?_, ?_⟩)) rfl rfl rfl⟩
  ·refine AC.exit (th_e (th_e (ib_y (th_n ?_))))
   refine AC.cut (fun (x : List Dl × Cur) => ⟨60, 900, [(5, .d (vDls x.1))], [(0, some (curC x.2))]⟩) (fun x => x = Z) ?_ ?_
   ·refine AC.seq ?_
    have hkk : s.net.ts.length - k = 0 := by omega
    rw [hkk, dlyN] at hrun
    obtain ⟨e1, e2⟩ : acc = r.1 ∧ cc = r.2 := by rw [← hrun]; exact ⟨rfl, rfl⟩
    subst e1 e2
    refine AC.region ?_
    refine AL.p (by exact mv2 rfl) rfl ?_
    refine AL.p (by exact g_len_own (sz := 1) (els := []) (e' := 0) rfl rfl (by simp only [maxLen]; omega)) rfl ?_
    refine AL.p (by exact g_cmp rfl rfl rfl) rfl ?_
    refine AL.nil (th_n ?_)
    refine AC.condD rfl (fun h1 => ?_) (fun h1 => ?_)
    ·refine AC.seq ?_
     have hEy := hE.trans (if_pos (by omega))
     rw [hT] at hEy
     have hii := hKi (by omega)
     have hI2 : i.1 = ((i.1.toNat : Nat) : Int) := by omega
     have hlt : i.1.toNat < r.1.length := by omega
     have hrow := dlL_get hlt
     have hs1 : (dlL r.1).set i.1.toNat ([dI (dAt r.1 i.1.toNat).low, dI (dAt r.1 i.1.toNat).high].set 0 (dI (badLow q.2))) = dlL (r.1.set i.1.toNat ⟨badLow q.2, (dAt r.1 i.1.toNat).high⟩) := dlL_set _ _ ⟨badLow q.2, (dAt r.1 i.1.toNat).high⟩
     have hs2 : (dlL r.1).set i.1.toNat ([dI (dAt r.1 i.1.toNat).low, dI (dAt r.1 i.1.toNat).high].set 1 (dI (badHigh q.2))) = dlL (r.1.set i.1.toNat ⟨(dAt r.1 i.1.toNat).low, badHigh q.2⟩) := dlL_set _ _ ⟨(dAt r.1 i.1.toNat).low, badHigh q.2⟩
     refine AC.region ?_
     refine AL.p (by exact mv2 rfl) rfl ?_
     refine AL.p (by exact mv3 rfl) rfl ?_
     refine AL.p (by exact mv2 rfl) rfl ?_
     refine AL.p (by exact g_len_own (sz := 1) (els := []) (e' := 0) rfl rfl (by simp only [maxLen]; omega)) rfl ?_
     refine AL.q (by exact h_fun (cs := [0]) en_pick rfl rfl (by repeat (first | exact rfl | exact DLead.same | refine ⟨_, _, rfl, ?_, ?_⟩ | refine ⟨_, rfl, ?_⟩)) (by repeat (first | exact True.intro | refine And.intro ?_ ?_ | exact DLead.same | exact rfl | refine ⟨_, _, rfl, rfl, ?_⟩ | refine ⟨_, rfl, ?_⟩ | refine ⟨_, _, rfl, ?_, ?_⟩)) hK1 rfl rfl rfl rfl) rfl ?_
     refine AL.p (by exact g_ia_own (i := i.1.toNat) (l := r.1.length) rfl rfl rfl rfl rfl hI2 hlt rfl) rfl ?_
     refine AL.p (by exact as3 rfl) rfl ?_
     refine AL.nil (th_n (AC.seq (AC.region ?_)))
     refine AL.p (by exact mv3 rfl) rfl ?_
     refine AL.q (by exact h_fun (cs := [0]) en_pick rfl rfl (by repeat (first | exact rfl | exact DLead.same | refine ⟨_, _, rfl, ?_, ?_⟩ | refine ⟨_, rfl, ?_⟩)) (by repeat (first | exact True.intro | refine And.intro ?_ ?_ | exact DLead.same | exact rfl | refine ⟨_, _, rfl, rfl, ?_⟩ | refine ⟨_, rfl, ?_⟩ | refine ⟨_, _, rfl, ?_, ?_⟩)) hK2 rfl rfl rfl rfl) rfl ?_
     refine AL.nil (th_n (AC.block (AC.seq (AC.region ?_))))
     refine AL.p (by exact g_cmp rfl rfl rfl) rfl ?_
     refine AL.p (by exact as1 rfl) rfl ?_
     refine AL.nil (th_n ?_)
     refine AC.condD rfl (fun h2 => ?_) (fun h2 => ?_)
     ·refine AC.region ?_
      refine AL.p (by exact mv3 rfl) rfl ?_
      refine AL.p (by exact mv3 rfl) rfl ?_
      refine AL.q (by exact h_litF rfl rfl rfl rfl rfl rfl rfl rfl) rfl ?_
      refine AL.q (by exact h_fun (cs := [0]) en_among rfl rfl (by repeat (first | exact rfl | exact DLead.same | refine ⟨_, _, rfl, ?_, ?_⟩ | refine ⟨_, rfl, ?_⟩)) (by repeat (first | exact True.intro | refine And.intro ?_ ?_ | exact DLead.same | exact rfl | refine ⟨_, _, rfl, rfl, ?_⟩ | refine ⟨_, rfl, ?_⟩ | refine ⟨_, _, rfl, ?_, ?_⟩)) hA1 rfl rfl rfl rfl) rfl ?_
      refine AL.p (by exact g_nilP rfl) rfl ?_
      refine AL.p (by exact g_fa_ptr rfl rfl rfl rfl rfl) rfl ?_
      refine AL.q (by exact h_store_arr (i := i.1.toNat) (j := 0) (d := dI (badLow q.2)) rfl rfl rfl rfl .same rfl hrow (by decide)) rfl ?_
      rw [hs1]
      refine AL.nil (ib_n (th_n ?_))
      (have e : Z = (r.1.set i.1.toNat ⟨badLow q.2, (dAt r.1 i.1.toNat).high⟩, (q.2.pick 3).2) := hEy.trans (if_pos h2); exact ⟨Z, rfl, (Weak.freeze (i := 5) (els' := dlL (r.1.set i.1.toNat ⟨badLow q.2, (dAt r.1 i.1.toNat).high⟩)) rfl rfl (by rw [dlL_len, List.length_set]; exact Nat.le_refl _) (List.take_of_length_le (by rw [dlL_len, List.length_set]; exact Nat.le_refl _))).trans (Weak.ren _ [] hC rfl (by rw [e]; repeat (first | exact True.intro | refine And.intro ?_ ?_ | exact DLead.same)) (by rw [e]; repeat (first | exact True.intro | refine And.intro ?_ ?_ | exact DLead.same | exact rfl | refine ⟨_, _, rfl, rfl, ?_⟩ | refine ⟨_, rfl, ?_⟩ | refine ⟨_, _, rfl, ?_, ?_⟩)) rfl rfl rfl)⟩)
     ·refine AC.seq (AC.region ?_)
      refine AL.p (by exact g_cmp rfl rfl rfl) rfl ?_
      refine AL.p (by exact as1 rfl) rfl ?_
      refine AL.nil (th_n ?_)
      refine AC.condD rfl (fun h3 => ?_) (fun h3 => ?_)
      ·refine AC.region ?_
       refine AL.p (by exact mv3 rfl) rfl ?_
       refine AL.p (by exact mv3 rfl) rfl ?_
       refine AL.q (by exact h_litF rfl rfl rfl rfl rfl rfl rfl rfl) rfl ?_
       refine AL.q (by exact h_fun (cs := [0]) en_among rfl rfl (by repeat (first | exact rfl | exact DLead.same | refine ⟨_, _, rfl, ?_, ?_⟩ | refine ⟨_, rfl, ?_⟩)) (by repeat (first | exact True.intro | refine And.intro ?_ ?_ | exact DLead.same | exact rfl | refine ⟨_, _, rfl, rfl, ?_⟩ | refine ⟨_, rfl, ?_⟩ | refine ⟨_, _, rfl, ?_, ?_⟩)) hA2 rfl rfl rfl rfl) rfl ?_
       refine AL.p (by exact g_nilP rfl) rfl ?_
       refine AL.p (by exact g_fa_ptr rfl rfl rfl rfl rfl) rfl ?_
       refine AL.q (by exact h_store_arr (i := i.1.toNat) (j := 1) (d := dI (badHigh q.2)) rfl rfl rfl rfl .same rfl hrow (by decide)) rfl ?_
       rw [hs2]
       refine AL.nil (ib_n (th_n ?_))
       (have e : Z = (r.1.set i.1.toNat ⟨(dAt r.1 i.1.toNat).low, badHigh q.2⟩, (q.2.pick 3).2) := hEy.trans ((if_neg h2).trans (if_pos h3)); exact ⟨Z, rfl, (Weak.freeze (i := 5) (els' := dlL (r.1.set i.1.toNat ⟨(dAt r.1 i.1.toNat).low, badHigh q.2⟩)) rfl rfl (by rw [dlL_len, List.length_set]; exact Nat.le_refl _) (List.take_of_length_le (by rw [dlL_len, List.length_set]; exact Nat.le_refl _))).trans (Weak.ren _ [] hC rfl (by rw [e]; repeat (first | exact True.intro | refine And.intro ?_ ?_ | exact DLead.same)) (by rw [e]; repeat (first | exact True.intro | refine And.intro ?_ ?_ | exact DLead.same | exact rfl | refine ⟨_, _, rfl, rfl, ?_⟩ | refine ⟨_, rfl, ?_⟩ | refine ⟨_, _, rfl, ?_, ?_⟩)) rfl rfl rfl)⟩)
      ·refine AC.seq (AC.region ?_)
       refine AL.p (by exact g_cmp rfl rfl rfl) rfl ?_
       refine AL.p (by exact as1 rfl) rfl ?_
       refine AL.nil (th_n ?_)
       refine AC.condD rfl (fun h4 => ?_) (fun h4 => ?_)
       ·refine AC.region ?_
        refine AL.p (by exact mv2 rfl) rfl ?_
        refine AL.weak (Weak.freeze (i := 57) rfl rfl (ownl _ _) (ownt _ _)) ?_
        refine AL.p (by exact g_slice_view (r := dlL (r.1.drop 1)) (l := 1) (h := (dlL r.1).length) rfl rfl rfl rfl (.some rfl rfl) .none (by rw [dlL_len]; omega) (Nat.le_refl _) (by rw [List.take_length]; exact (List.map_drop ..).symm)) rfl ?_
        refine AL.p (by exact as1 rfl) rfl ?_
        refine AL.nil (ib_n (th_n ?_))
        (have e : Z = (r.1.drop 1, q.2) := hEy.trans ((if_neg h2).trans ((if_neg h3).trans (if_pos h4))); exact ⟨Z, rfl, Weak.ren _ [] hC rfl (by rw [e]; repeat (first | exact True.intro | refine And.intro ?_ ?_ | exact DLead.same)) (by rw [e]; repeat (first | exact True.intro | refine And.intro ?_ ?_ | exact DLead.same | exact rfl | refine ⟨_, _, rfl, rfl, ?_⟩ | refine ⟨_, rfl, ?_⟩ | refine ⟨_, _, rfl, ?_, ?_⟩)) rfl rfl rfl⟩)
       ·refine AC.skip (ib_n (th_n ?_))
        (have e : Z = (r.1, q.2) := hEy.trans ((if_neg h2).trans ((if_neg h3).trans (if_neg h4))); exact ⟨Z, rfl, (Weak.freeze (i := 5) rfl rfl (ownl _ _) (ownt _ _)).trans (Weak.ren _ [] hC rfl (by rw [e]; repeat (first | exact True.intro | refine And.intro ?_ ?_ | exact DLead.same)) (by rw [e]; repeat (first | exact True.intro | refine And.intro ?_ ?_ | exact DLead.same | exact rfl | refine ⟨_, _, rfl, rfl, ?_⟩ | refine ⟨_, rfl, ?_⟩ | refine ⟨_, _, rfl, ?_, ?_⟩)) rfl rfl rfl)⟩)
    ·refine AC.skip (th_n ?_)
     (have e : Z = r := hE.trans (if_neg (by omega)); exact ⟨Z, rfl, (Weak.freeze (i := 5) rfl rfl (ownl _ _) (ownt _ _)).trans (Weak.ren _ [] hC rfl (by rw [e]; repeat (first | exact True.intro | refine And.intro ?_ ?_ | exact DLead.same)) (by rw [e]; repeat (first | exact True.intro | refine And.intro ?_ ?_ | exact DLead.same | exact rfl | refine ⟨_, _, rfl, rfl, ?_⟩ | refine ⟨_, rfl, ?_⟩ | refine ⟨_, _, rfl, ?_, ?_⟩)) rfl rfl rfl)⟩)
   ·rintro x rfl
    refine AC.seq (AC.region ?_)
    refine AL.p (by exact mv1 rfl) rfl ?_
    refine AL.p (by exact as1 rfl) rfl ?_
    refine AL.nil (th_n (AC.ret (bq_r ?_)))
    exact retF rfl (by repeat (exact DLead.same)) (by repeat (first | exact True.intro | refine And.intro ?_ ?_ | exact DLead.same | exact rfl | refine ⟨_, _, rfl, rfl, ?_⟩ | refine ⟨_, rfl, ?_⟩ | refine ⟨_, _, rfl, ?_, ?_⟩)) rfl
theorem en_curDelays : Enters Tryz.prog 17 := enters_of Tryz.func17 rfl rfl
def tfIn (run : List Tf) : Prop := ∀ x, x ∈ run → -100000 ≤ x.tm ∧ x.tm ≤ 100000 ∧ -100000 ≤ x.t ∧ x.t ≤ 100000
theorem runQ_in {N : Net} {l : List Dl} (hd : Dok l N.ts.length) (hgn : N.ts.length ≤ 100) : ∀ (ds : List Int) (c : Ck) (acc : List Tf) (T : Int), CkI N c T → 0 ≤ T → T + 100 * ds.length ≤ 20000 → (∀ d, d ∈ ds → 0 ≤ d ∧ d ≤ 999) → tfIn acc → tfIn (runQ N l ds c acc).1
 | [], c, acc, T, hI, h0, hT, hds, ha => ha
 | d :: ds, c, acc, T, hI, h0, hT, hds, ha => by
  have hdr := hds d (List.mem_cons_self ..)
  simp only [List.length_cons] at hT
  rw [runQ]
  split
  ·rename_i hok
   have hI2 := stepQ_I hI hd (by omega) hdr
   refine runQ_in hd hgn ds _ _ (T + 100) hI2 (by omega) (by omega) (fun x hx => hds x (List.mem_cons_of_mem _ hx)) (fun x hx => ?_)
   rcases List.mem_append.1 hx with hx | hx
   ·exact ha x hx
   ·rw [List.mem_singleton] at hx
    subst hx
    unfold stepQ at hok ⊢
    split at hok
    ·cases hok
    ·rename_i hne
     rw [if_neg hne]
     obtain ⟨u, h1, h2, h3, h4, h5, _⟩ := stepT_in (hI.B hd (by omega)) hdr hne
     have h6 := lsN_le hI hd (by omega) c.since.length (by rw [hI.len]; exact Nat.le_refl _)
     have h7 := hI.n
     have h8 : c.now ≤ earI c l u := Int.le_max_right ..
     have h9 := hI.len
     dsimp only
     omega
  ·exact ha
theorem simR_in {s : Stg} {l : List Dl} {ds : List Int} (hB : StgB s) : tfIn (simR s l ds).1 ∧ (simR s l ds).1.length ≤ 60 := by
 unfold simR
 split
 ·rename_i h
  simp only [simOk, Bool.and_eq_true, Bool.not_eq_true', decide_eq_false_iff_not] at h
  obtain ⟨hg, hd⟩ := Dok.of h.1
  have h2 := goodS_few hg
  have h3 := (goodS_bits hg).2.2
  refine ⟨runQ_in hd (by omega) ds _ _ 0 (newK_I hg) (by omega) (by omega) (drawsB_in h.2.2) (fun x hx => (by cases hx)), ?_⟩
  have := runQ_len s.net l ds (newK s) []
  simp only [List.length_nil] at this
  dsimp only
  omega
 ·exact ⟨fun x hx => (by cases hx), Nat.zero_le _⟩
theorem tfL_set (l : List Tf) (i : Nat) (x : Tf) : (tfL l).set i (tfD x) = tfL (l.set i x) := by unfold tfL; rw [List.map_set]
theorem en_sDrawTR : Enters Tryz.prog 51 := enters_of Tryz.func51 rfl rfl
theorem en_sDrawEnT : Enters Tryz.prog 24 := enters_of Tryz.func24 rfl rfl
def gapQ (run : List Tf) : Nat → Int
 | 0 => 0
 | q + 1 => max (gapQ run q) ((fAt run (q + 1)).tm - (fAt run q).tm)
def gapR (run : List Tf) : Int × Bool := if timesB run = true then (gapQ run (run.length - 1), true) else (0, false)
def tfB (run : List Tf) : Prop := ∀ x, x ∈ run → -1000000 ≤ x.tm ∧ x.tm ≤ 1000000 ∧ -1000000 ≤ x.t ∧ x.t ≤ 1000000
theorem fAt_in {run : List Tf} (h : tfB run) (k : Nat) : -1000000 ≤ (fAt run k).tm ∧ (fAt run k).tm ≤ 1000000 := by
 unfold fAt
 rw [List.getD_eq_getElem?_getD]
 cases e : run[k]? with
 | none => decide
 | some x => have := h x (List.mem_of_getElem? e); exact ⟨this.1, this.2.1⟩
theorem gapQ_in {run : List Tf} (h : tfB run) : ∀ q, 0 ≤ gapQ run q ∧ gapQ run q ≤ 2000000
 | 0 => by simp [gapQ]
 | q + 1 => by
  have ih := gapQ_in h q
  have h1 := fAt_in h q
  have h2 := fAt_in h (q + 1)
  rw [gapQ]
  omega
set_option maxHeartbeats 4000000 in
theorem iMaxGap_spec (run : List Tf) (hn : run.length ≤ 100000) (hr : tfB run) : ASpec Tryz.prog 13 [.d (vTfs run)] [] (Pure1 (.tup [aI (gapR run).1, aT (gapR run).2])) := by
 have hT := areTimes_spec run hn
 have hR : gapR run = if timesB run = true then (gapQ run (run.length - 1), true) else (0, false) := rfl
 obtain ⟨b, hb⟩ : ∃ b, b = timesB run := ⟨_, rfl⟩
 rw [← hb] at hT hR
 obtain ⟨G, hG⟩ : ∃ G, G = gapR run := ⟨_, rfl⟩
 rw [← hG] at hR ⊢
 clear hG hb
 refine ASpec.of Tryz.func13 rfl rfl fun C hC => ?_
 refine AC.seq (AC.region ?_)
 refine AL.p (by exact as1 rfl) rfl ?_
 refine AL.p (by exact as1 rfl) rfl ?_
 refine AL.nil (th_n (AC.seq (AC.seq (AC.region ?_))))
 refine AL.p (by exact mv1 rfl) rfl ?_
 refine AL.q (by exact h_pure en_areTimes rfl rfl (by repeat (first | exact rfl | exact DLead.same | refine ⟨_, _, rfl, ?_, ?_⟩)) hT rfl) rfl ?_
 refine AL.p (by exact g_not rfl) rfl ?_
 refine AL.nil (th_n ?_)
 refine AC.condB rfl (fun h0 => ?_) (fun h0 => ?_)
 ·refine AC.seq (AC.region ?_)
  refine AL.p (by exact as1 rfl) rfl ?_
  refine AL.p (by exact as1 rfl) rfl ?_
  refine AL.nil (th_n (AC.ret (th_r (bq_r ?_))))
  have e : G = (0, false) := by rw [hR, show b = false by simpa using h0]; rfl
  exact ret2 rfl (by rw [e]) (by rw [e])
 ·refine AC.skip (th_n (AC.seq (AC.region ?_)))
  refine AL.p (by exact as1 rfl) rfl ?_
  refine AL.nil (th_n (AC.seq (AC.seq (AC.region ?_))))
  refine AL.p (by exact as1 rfl) rfl ?_
  refine AL.nil (th_n (AC.block ?_))
  refine AC.loop (ι := Nat) (fun q => ⟨30, 300, [(0, .d (vTfs run)), (4, aI (gapQ run q)), (5, aI ((q : Int) + 1))], []⟩) (fun q => q ≤ run.length - 1) (fun q => run.length - q) (0) ?_ (Nat.zero_le _) ?_
  ·refine Weak.ren _ [] hC rfl ?_ ?_ rfl rfl rfl <;> repeat (first | exact True.intro | refine And.intro ?_ ?_ | exact DLead.same)
  ·intro q hq
   refine AC.seq (AC.seq (AC.region ?_))
   refine AL.p (by exact mv1 rfl) rfl ?_
   refine AL.p (by exact mv1 rfl) rfl ?_
   refine AL.p (by exact g_len_view (k := run.length) rfl rfl (tfL_len _)) rfl ?_
   refine AL.p (by exact g_cmp rfl rfl rfl) rfl ?_
   refine AL.nil (th_n ?_)
   refine AC.condD rfl (fun h1 => ?_) (fun h1 => ?_)
   ·refine AC.skip (th_n (AC.seq (AC.block ?_)))
    have hq1 : q + 1 < run.length := by omega
    have hget0 := tfLA_get (l := run) (k := q) (by omega)
    have hget1 := tfLA_get hq1
    have hb0 := fAt_in hr q
    have hb1 := fAt_in hr (q + 1)
    have hgi := gapQ_in hr q
    have hgs : gapQ run (q + 1) = max (gapQ run q) ((fAt run (q + 1)).tm - (fAt run q).tm) := rfl
    refine AC.drawn' mixed_ok [[], [], [], [1,2], [1,2,3], [1,2,3,4], [], [], [7], [6,7,8], [6,7,8,9], [6,7,8,9,10], [1,2,3,4,5,6,7,8,9,10,11], [0,1,2,3,4,5,6,7,8,9,10,11,12], [0,1,2,3,4,5,6,7,8,9,10,11,12,13]] (by decide) ?_
    refine DF.op 0 [] 15 rfl rfl rfl (.free rfl (NOp.of (by exact mv1 rfl))) rfl ?_
    refine DF.op 1 [] 15 rfl rfl rfl (.free rfl (NOp.of (by exact mv1 rfl))) rfl ?_
    refine DF.op 2 [] 15 rfl rfl rfl (.free rfl (NOp.of (by exact mv1 rfl))) rfl ?_
    refine DF.op 3 [1,2] 15 rfl rfl rfl (.free rfl (NOp.of (by exact g_ia_view (i := q + 1) rfl rfl rfl rfl rfl rfl hget1))) rfl ?_
    refine DF.op 4 [1,2,3] 15 rfl rfl rfl (.free rfl (NOp.of (by exact g_fa_ref rfl rfl rfl rfl rfl rfl))) rfl ?_
    refine DF.op 5 [1,2,3,4] 15 rfl rfl rfl (.free rfl (NOp.of (by exact g_load_ref rfl rfl rfl))) rfl ?_
    refine DF.op 6 [] 15 rfl rfl rfl (.free rfl (NOp.of (by exact mv1 rfl))) rfl ?_
    refine DF.op 7 [] 15 rfl rfl rfl (.free rfl (NOp.of (by exact mv1 rfl))) rfl ?_
    refine DF.op 8 [7] 15 rfl rfl rfl (.free rfl (NOp.of (by exact g_arith (e := (q : Int)) rfl rfl rfl (by rw [show ((q : Int) + 1) - 1 = (q : Int) by omega]; exact wrap_i64 (by omega))))) rfl ?_
    refine DF.op 9 [6,7,8] 15 rfl rfl rfl (.free rfl (NOp.of (by exact g_ia_view (i := q) rfl rfl rfl rfl rfl rfl hget0))) rfl ?_
    refine DF.op 10 [6,7,8,9] 15 rfl rfl rfl (.free rfl (NOp.of (by exact g_fa_ref rfl rfl rfl rfl rfl rfl))) rfl ?_
    refine DF.op 11 [6,7,8,9,10] 15 rfl rfl rfl (.free rfl (NOp.of (by exact g_load_ref rfl rfl rfl))) rfl ?_
    refine DF.op 12 [1,2,3,4,5,6,7,8,9,10,11] 15 rfl rfl rfl (.free rfl (NOp.of (by exact g_arith rfl rfl rfl (by exact wrap_i64 (by omega))))) rfl ?_
    refine DF.op 13 (List.range 13) 15 rfl rfl rfl (.free rfl (NOp.of (by exact g_max rfl rfl))) rfl ?_
    refine DF.op 14 (List.range 14) 15 rfl rfl rfl (.free rfl (NOp.of (by exact as1 rfl))) rfl ?_
    refine DF.fin (ps := [(0,1),(0,2),(0,3),(0,4),(0,5),(0,6),(0,7),(0,8),(0,9),(0,10),(0,11),(0,12),(1,0),(1,2),(1,6),(1,7),(1,8),(1,9),(1,10),(1,11),(2,0),(2,1),(2,6),(2,7),(2,8),(2,9),(2,10),(2,11),(3,0),(3,6),(3,7),(3,8),(3,9),(3,10),(3,11),(4,0),(4,6),(4,7),(4,8),(4,9),(4,10),(4,11),(5,0),(5,6),(5,7),(5,8),(5,9),(5,10),(5,11),(6,0),(6,1),(6,2),(6,3),(6,4),(6,5),(6,7),(6,8),(7,0),(7,1),(7,2),(7,3),(7,4),(7,5),(7,6),(8,0),(8,1),(8,2),(8,3),(8,4),(8,5),(8,6),(9,0),(9,1),(9,2),(9,3),(9,4),(9,5),(10,0),(10,1),(10,2),(10,3),(10,4),(10,5),(11,0),(11,1),(11,2),(11,3),(11,4),(11,5),(12,0)]) 15 rfl (by decide +kernel) (by decide +kernel) (by rfl) ?_
    refine ib_n (th_n (AC.region ?_))
    refine AL.p (by exact mv1 rfl) rfl ?_
    refine AL.p (by exact g_arith rfl rfl rfl (by exact wrap_i64 (by omega))) rfl ?_
    refine AL.p (by exact as1 rfl) rfl ?_
    refine AL.nil (th_n ?_)
    exact ⟨q + 1, by omega, by omega, Weak.ren _ [] hC rfl (by rw [hgs]; repeat (first | exact True.intro | refine And.intro ?_ ?_ | exact DLead.same)) (by repeat (exact True.intro)) rfl rfl rfl⟩
   ·refine AC.exit (th_e (th_e (ib_y (th_n (AC.seq (AC.region ?_))))))
    refine AL.p (by exact mv1 rfl) rfl ?_
    refine AL.p (by exact as1 rfl) rfl ?_
    refine AL.p (by exact as1 rfl) rfl ?_
    refine AL.nil (th_n (AC.ret (bq_r ?_)))
    have e : G = (gapQ run (run.length - 1), true) := by rw [hR, show b = true by simpa using h0]; rfl
    have hqq : q = run.length - 1 := by omega
    exact ret2 rfl (by rw [e, ← hqq]) (by rw [e])
theorem en_iMaxGap : Enters Tryz.prog 13 := enters_of Tryz.func13 rfl rfl
set_option maxHeartbeats 4000000 in
theorem sMaxGap_spec (run : List Tf) (hn : run.length ≤ 100000) (hr : tfB run) : ASpec Tryz.prog 14 [.d (vTfs run)] [] (Pure1 (.tup [aI (gapR run).1, aT (gapR run).2])) := by
 have hT := l23Times_spec run hn
 have hR : gapR run = if timesB run = true then (gapQ run (run.length - 1), true) else (0, false) := rfl
 obtain ⟨b, hb⟩ : ∃ b, b = timesB run := ⟨_, rfl⟩
 rw [← hb] at hT hR
 obtain ⟨G, hG⟩ : ∃ G, G = gapR run := ⟨_, rfl⟩
 rw [← hG] at hR ⊢
 clear hG hb
 refine ASpec.of Tryz.func14 rfl rfl fun C hC => ?_
 refine AC.seq (AC.region ?_)
 refine AL.p (by exact as1 rfl) rfl ?_
 refine AL.p (by exact as1 rfl) rfl ?_
 refine AL.nil (th_n (AC.seq (AC.seq (AC.region ?_))))
 refine AL.p (by exact mv1 rfl) rfl ?_
 refine AL.q (by exact h_pure en_l23Times rfl rfl (by repeat (first | exact rfl | exact DLead.same | refine ⟨_, _, rfl, ?_, ?_⟩)) hT rfl) rfl ?_
 refine AL.p (by exact g_not rfl) rfl ?_
 refine AL.nil (th_n ?_)
 refine AC.condB rfl (fun h0 => ?_) (fun h0 => ?_)
 ·refine AC.seq (AC.region ?_)
  refine AL.p (by exact as1 rfl) rfl ?_
  refine AL.p (by exact as1 rfl) rfl ?_
  refine AL.nil (th_n (AC.ret (th_r (bq_r ?_))))
  have e : G = (0, false) := by rw [hR, show b = false by simpa using h0]; rfl
  exact ret2 rfl (by rw [e]) (by rw [e])
 ·refine AC.skip (th_n (AC.seq (AC.region ?_)))
  refine AL.p (by exact as1 rfl) rfl ?_
  refine AL.nil (th_n (AC.seq (AC.seq (AC.region ?_))))
  refine AL.p (by exact as1 rfl) rfl ?_
  refine AL.nil (th_n (AC.block ?_))
  refine AC.loop (ι := Nat) (fun q => ⟨30, 300, [(0, .d (vTfs run)), (4, aI (gapQ run q)), (5, aI ((q : Int) + 1))], []⟩) (fun q => q ≤ run.length - 1) (fun q => run.length - q) (0) ?_ (Nat.zero_le _) ?_
  ·refine Weak.ren _ [] hC rfl ?_ ?_ rfl rfl rfl <;> repeat (first | exact True.intro | refine And.intro ?_ ?_ | exact DLead.same)
  ·intro q hq
   refine AC.seq (AC.seq (AC.region ?_))
   refine AL.p (by exact mv1 rfl) rfl ?_
   refine AL.p (by exact mv1 rfl) rfl ?_
   refine AL.p (by exact g_len_view (k := run.length) rfl rfl (tfL_len _)) rfl ?_
   refine AL.p (by exact g_cmp rfl rfl rfl) rfl ?_
   refine AL.nil (th_n ?_)
   refine AC.condD rfl (fun h1 => ?_) (fun h1 => ?_)
   ·refine AC.skip (th_n (AC.seq (AC.block ?_)))
    have hq1 : q + 1 < run.length := by omega
    have hget0 := tfLA_get (l := run) (k := q) (by omega)
    have hget1 := tfLA_get hq1
    have hb0 := fAt_in hr q
    have hb1 := fAt_in hr (q + 1)
    have hgi := gapQ_in hr q
    have hgs : gapQ run (q + 1) = max (gapQ run q) ((fAt run (q + 1)).tm - (fAt run q).tm) := rfl
    have hM := l1Most_spec (gapQ run q) ((fAt run (q + 1)).tm - (fAt run q).tm)
    refine AC.drawn' mixed_ok [[], [], [], [1,2], [1,2,3], [1,2,3,4], [], [], [7], [6,7,8], [6,7,8,9], [6,7,8,9,10], [1,2,3,4,5,6,7,8,9,10,11], [0,1,2,3,4,5,6,7,8,9,10,11,12], [0,1,2,3,4,5,6,7,8,9,10,11,12,13]] (by decide) ?_
    refine DF.op 0 [] 15 rfl rfl rfl (.free rfl (NOp.of (by exact mv1 rfl))) rfl ?_
    refine DF.op 1 [] 15 rfl rfl rfl (.free rfl (NOp.of (by exact mv1 rfl))) rfl ?_
    refine DF.op 2 [] 15 rfl rfl rfl (.free rfl (NOp.of (by exact mv1 rfl))) rfl ?_
    refine DF.op 3 [1,2] 15 rfl rfl rfl (.free rfl (NOp.of (by exact g_ia_view (i := q + 1) rfl rfl rfl rfl rfl rfl hget1))) rfl ?_
    refine DF.op 4 [1,2,3] 15 rfl rfl rfl (.free rfl (NOp.of (by exact g_fa_ref rfl rfl rfl rfl rfl rfl))) rfl ?_
    refine DF.op 5 [1,2,3,4] 15 rfl rfl rfl (.free rfl (NOp.of (by exact g_load_ref rfl rfl rfl))) rfl ?_
    refine DF.op 6 [] 15 rfl rfl rfl (.free rfl (NOp.of (by exact mv1 rfl))) rfl ?_
    refine DF.op 7 [] 15 rfl rfl rfl (.free rfl (NOp.of (by exact mv1 rfl))) rfl ?_
    refine DF.op 8 [7] 15 rfl rfl rfl (.free rfl (NOp.of (by exact g_arith (e := (q : Int)) rfl rfl rfl (by rw [show ((q : Int) + 1) - 1 = (q : Int) by omega]; exact wrap_i64 (by omega))))) rfl ?_
    refine DF.op 9 [6,7,8] 15 rfl rfl rfl (.free rfl (NOp.of (by exact g_ia_view (i := q) rfl rfl rfl rfl rfl rfl hget0))) rfl ?_
    refine DF.op 10 [6,7,8,9] 15 rfl rfl rfl (.free rfl (NOp.of (by exact g_fa_ref rfl rfl rfl rfl rfl rfl))) rfl ?_
    refine DF.op 11 [6,7,8,9,10] 15 rfl rfl rfl (.free rfl (NOp.of (by exact g_load_ref rfl rfl rfl))) rfl ?_
    refine DF.op 12 [1,2,3,4,5,6,7,8,9,10,11] 15 rfl rfl rfl (.free rfl (NOp.of (by exact g_arith rfl rfl rfl (by exact wrap_i64 (by omega))))) rfl ?_
    refine DF.op 13 (List.range 13) 15 rfl rfl rfl (.free rfl (by exact h_pure en_l1Most rfl rfl (by repeat (first | exact rfl | exact DLead.same | refine ⟨_, _, rfl, ?_, ?_⟩)) hM rfl)) rfl ?_
    refine DF.op 14 (List.range 14) 15 rfl rfl rfl (.free rfl (NOp.of (by exact as1 rfl))) rfl ?_
    refine DF.fin (ps := [(0,1),(0,2),(0,3),(0,4),(0,5),(0,6),(0,7),(0,8),(0,9),(0,10),(0,11),(0,12),(1,0),(1,2),(1,6),(1,7),(1,8),(1,9),(1,10),(1,11),(2,0),(2,1),(2,6),(2,7),(2,8),(2,9),(2,10),(2,11),(3,0),(3,6),(3,7),(3,8),(3,9),(3,10),(3,11),(4,0),(4,6),(4,7),(4,8),(4,9),(4,10),(4,11),(5,0),(5,6),(5,7),(5,8),(5,9),(5,10),(5,11),(6,0),(6,1),(6,2),(6,3),(6,4),(6,5),(6,7),(6,8),(7,0),(7,1),(7,2),(7,3),(7,4),(7,5),(7,6),(8,0),(8,1),(8,2),(8,3),(8,4),(8,5),(8,6),(9,0),(9,1),(9,2),(9,3),(9,4),(9,5),(10,0),(10,1),(10,2),(10,3),(10,4),(10,5),(11,0),(11,1),(11,2),(11,3),(11,4),(11,5),(12,0)]) 15 rfl (by decide +kernel) (by decide +kernel) (by rfl) ?_
    refine ib_n (th_n (AC.region ?_))
    refine AL.p (by exact mv1 rfl) rfl ?_
    refine AL.p (by exact g_arith rfl rfl rfl (by exact wrap_i64 (by omega))) rfl ?_
    refine AL.p (by exact as1 rfl) rfl ?_
    refine AL.nil (th_n ?_)
    exact ⟨q + 1, by omega, by omega, Weak.ren _ [] hC rfl (by rw [hgs]; repeat (first | exact True.intro | refine And.intro ?_ ?_ | exact DLead.same)) (by repeat (exact True.intro)) rfl rfl rfl⟩
   ·refine AC.exit (th_e (th_e (ib_y (th_n (AC.seq (AC.region ?_))))))
    refine AL.p (by exact mv1 rfl) rfl ?_
    refine AL.p (by exact as1 rfl) rfl ?_
    refine AL.p (by exact as1 rfl) rfl ?_
    refine AL.nil (th_n (AC.ret (bq_r ?_)))
    have e : G = (gapQ run (run.length - 1), true) := by rw [hR, show b = true by simpa using h0]; rfl
    have hqq : q = run.length - 1 := by omega
    exact ret2 rfl (by rw [e, ← hqq]) (by rw [e])
theorem en_sMaxGap : Enters Tryz.prog 14 := enters_of Tryz.func14 rfl rfl
def zrs (n : Int) : List Int := List.replicate n.toNat 0
def earR (s : Stg) (l : List Dl) (n : Int) : List Tf × Bool := if (decide (0 ≤ n) && decide (n ≤ 60)) = true then ((simR s l (zrs n)).1, (simR s l (zrs n)).2.2) else ([], false)
theorem zrs_len (n : Int) : (zrs n).length = n.toNat := List.length_replicate
theorem mkZ (n : Int) : (List.replicate n.toNat (([ZK.int .i64] : List ZK).map fun z => DV.val z.val)).take n.toNat = ints (zrs n) := by
 rw [List.take_of_length_le (by simp), rep_zero]; rfl
set_option maxHeartbeats 4000000 in
theorem iEarl_spec (s : Stg) (l : List Dl) (n : Int) (hB : StgB s) (hl : DlB l) : ASpec Tryz.prog 5 [stgA s, .d (vDls l), aI n] [] (Pure1 (.tup [.d (vTfs (earR s l n).1), aT (earR s l n).2])) := by
 have hW := within_spec n 0 60
 have hS : (decide (0 ≤ n) && decide (n ≤ 60)) = true → _ := fun q => iSim_spec s l (zrs n) hB hl (by rw [zrs_len]; simp only [Bool.and_eq_true, decide_eq_true_eq] at q; omega)
 have hR : earR s l n = if (decide (0 ≤ n) && decide (n ≤ 60)) = true then ((simR s l (zrs n)).1, (simR s l (zrs n)).2.2) else ([], false) := rfl
 have hbn : (decide (0 ≤ n) && decide (n ≤ 60)) = true → 0 ≤ n ∧ n ≤ 60 := fun q => by simpa using q
 obtain ⟨b, hb⟩ : ∃ b, b = (decide (0 ≤ n) && decide (n ≤ 60)) := ⟨_, rfl⟩
 rw [← hb] at hW hS hR hbn
 obtain ⟨S, hSS⟩ : ∃ S, S = simR s l (zrs n) := ⟨_, rfl⟩
 rw [← hSS] at hS hR
 obtain ⟨G, hG⟩ : ∃ G, G = earR s l n := ⟨_, rfl⟩
 rw [← hG] at hR ⊢
 clear hG hb hSS
 refine ASpec.of Tryz.func5 rfl rfl fun C hC => ?_
 refine AC.seq (AC.region ?_)
 refine AL.q (by exact h_boxF rfl rfl) rfl ?_
 refine AL.p (by exact as1 rfl) rfl ?_
 refine AL.p (by exact as1 rfl) rfl ?_
 refine AL.nil (th_n (AC.seq (AC.seq (AC.region ?_))))
 refine AL.p (by exact mv1 rfl) rfl ?_
 refine AL.q (by exact h_pure en_within rfl rfl (by repeat (first | exact rfl | exact DLead.same | refine ⟨_, _, rfl, ?_, ?_⟩)) hW rfl) rfl ?_
 refine AL.p (by exact g_not rfl) rfl ?_
 refine AL.nil (th_n ?_)
 refine AC.condB rfl (fun h0 => ?_) (fun h0 => ?_)
 ·refine AC.seq (AC.region ?_)
  refine AL.p (by exact as1 rfl) rfl ?_
  refine AL.p (by exact as1 rfl) rfl ?_
  refine AL.nil (th_n (AC.ret (th_r (bq_r ?_))))
  have e : G = ([], false) := by rw [hR, show b = false by simpa using h0]; rfl
  exact ret0 rfl (by rw [e]; repeat (first | exact rfl | exact DLead.same | exact DLead.nil | refine ⟨_, _, rfl, ?_, ?_⟩ | refine ⟨_, rfl, ?_⟩))
 ·refine AC.skip (th_n (AC.seq ?_))
  have q1 : b = true := by simpa using h0
  have hnb := hbn q1
  have hSn := hS q1
  have hnn : n = ((n.toNat : Nat) : Int) := by omega
  have e : G = (S.1, S.2.2) := by rw [hR, q1]; rfl
  refine AC.drawn' mixed_ok [[], [], [], [2], [0,1,2,3], [0,1,2,3,4], [0,1,2,3,4,5], [0,1,2,3,4,5], [0,1,2,3,4,5], [0,1,2,3,4,5,6], [0,1,2,3,4,5,6,7,9], [0,1,2,3,4,5,6,7,8,9,10]] (by decide) ?_
  refine DF.op 0 [] 12 rfl rfl rfl (.free rfl (NOp.of (by exact g_load_refN rfl rfl rfl rfl))) rfl ?_
  refine DF.op 1 [] 12 rfl rfl rfl (.free rfl (NOp.of (by exact mv1 rfl))) rfl ?_
  refine DF.op 2 [] 12 rfl rfl rfl (.free rfl (NOp.of (by exact mv1 rfl))) rfl ?_
  refine DF.op 3 [2] 12 rfl rfl rfl (.free rfl (by exact NOp.frozen (els' := ints (zrs n)) rfl (h_make (k := n.toNat) rfl rfl rfl rfl rfl rfl rfl hnn (by show 8 * n.toNat ≤ _; omega) (by omega)) (by simp) (mkZ n))) rfl ?_
  refine DF.op 4 [0,1,2,3] 12 rfl rfl rfl (.free rfl (by exact h_pure en_iSim rfl rfl (by repeat (first | exact rfl | exact DLead.same | refine ⟨_, _, rfl, ?_, ?_⟩ | refine ⟨_, rfl, ?_⟩)) hSn rfl)) rfl ?_
  refine DF.op 5 [0,1,2,3,4] 12 rfl rfl rfl (.free rfl (NOp.of (by exact mv5 rfl))) rfl ?_
  refine DF.op 6 [0,1,2,3,4,5] 12 rfl rfl rfl (.free rfl (NOp.of (by exact g_extract (r := .d _) rfl rfl))) rfl ?_
  refine DF.op 7 [0,1,2,3,4,5] 12 rfl rfl rfl (.free rfl (NOp.of (by exact g_extract (r := .d _) rfl rfl))) rfl ?_
  refine DF.op 8 [0,1,2,3,4,5] 12 rfl rfl rfl (.free rfl (NOp.of (by exact g_extract (r := .d _) rfl rfl))) rfl ?_
  refine DF.op 9 [0,1,2,3,4,5,6] 12 rfl rfl rfl (.free rfl (NOp.of (by exact as1 rfl))) rfl ?_
  refine DF.op 10 [0,1,2,3,4,5,6,7,9] 12 rfl rfl rfl (.free rfl (NOp.of (by exact as1 rfl))) rfl ?_
  refine DF.op 11 (List.range 11) 12 rfl rfl rfl (.free rfl (NOp.of (by exact as1 rfl))) rfl ?_
  refine DF.fin (ps := [(0,1),(0,2),(0,3),(1,0),(1,2),(1,3),(2,0),(2,1),(3,0),(3,1),(6,7),(6,8),(7,6),(7,8),(7,9),(8,6),(8,7),(8,9),(8,10),(9,7),(9,8),(10,8)]) 12 rfl (by decide +kernel) (by decide +kernel) (by rfl) ?_
  refine th_n (AC.seq (AC.region ?_))
  refine AL.p (by exact mv1 rfl) rfl ?_
  refine AL.p (by exact mv1 rfl) rfl ?_
  refine AL.p (by exact as1 rfl) rfl ?_
  refine AL.p (by exact as1 rfl) rfl ?_
  refine AL.nil (th_n (AC.ret (bq_r ?_)))
  exact ret0 rfl (by rw [e]; repeat (first | exact rfl | exact DLead.same | refine ⟨_, _, rfl, ?_, ?_⟩ | refine ⟨_, rfl, ?_⟩))
theorem en_iEarl : Enters Tryz.prog 5 := enters_of Tryz.func5 rfl rfl
set_option maxHeartbeats 4000000 in
theorem sEarl_spec (s : Stg) (l : List Dl) (n : Int) (hB : StgB s) (hl : DlB l) : ASpec Tryz.prog 6 [stgA s, .d (vDls l), aI n] [] (Fun1 (.tup [.own 0 (earR s l n).1.length, aT (earR s l n).2]) [(0, .arr 46 2 (tfL (earR s l n).1))]) := by
 have hV := l23Good_spec s l hB hl
 have hW := l1In_spec n 0 60
 have hRun : validD s l = true → (decide (0 ≤ n) && decide (n ≤ 60)) = true → _ := fun h1 q => l23Run_spec s l (zrs n) hB h1 (by rw [zrs_len]; simp only [Bool.and_eq_true, decide_eq_true_eq] at q; omega) (fun d hd => by have := List.eq_of_mem_replicate hd; omega)
 have hY : validD s l = true → (decide (0 ≤ n) && decide (n ≤ 60)) = true → earR s l n = ((runQ s.net l (zrs n) (newK s) []).1, true) := fun h1 q => by
  have q2 : 0 ≤ n ∧ n ≤ 60 := by simpa using q
  have hz : drawsB (zrs n) = true := List.all_eq_true.2 fun d hd => by rw [List.eq_of_mem_replicate hd]; rfl
  have ho : simOk s l (zrs n) = true := by unfold simOk; rw [h1, hz, decide_eq_false (by rw [zrs_len]; omega)]; rfl
  unfold earR simR
  rw [q, if_pos rfl, if_pos ho]
 have hN : (validD s l && (decide (0 ≤ n) && decide (n ≤ 60))) = false → earR s l n = ([], false) := fun q => by
  unfold earR
  split
  ·rename_i h2
   rw [h2, Bool.and_true] at q
   have ho : simOk s l (zrs n) = false := by unfold simOk; rw [q]; rfl
   unfold simR
   rw [ho]; rfl
  ·rfl
 have hbn : (decide (0 ≤ n) && decide (n ≤ 60)) = true → 0 ≤ n ∧ n ≤ 60 := fun q => by simpa using q
 obtain ⟨b2, hb2⟩ : ∃ b, b = (decide (0 ≤ n) && decide (n ≤ 60)) := ⟨_, rfl⟩
 obtain ⟨b1, hb1⟩ : ∃ b, b = validD s l := ⟨_, rfl⟩
 rw [← hb2] at hW hRun hY hN hbn
 rw [← hb1] at hV hRun hY hN
 obtain ⟨Z, hZ⟩ : ∃ Z, Z = runQ s.net l (zrs n) (newK s) [] := ⟨_, rfl⟩
 rw [← hZ] at hRun hY
 obtain ⟨G, hG⟩ : ∃ G, G = earR s l n := ⟨_, rfl⟩
 rw [← hG] at hY hN ⊢
 clear hG hb1 hb2 hZ
 refine ASpec.of Tryz.func6 rfl rfl fun C hC => ?_
 refine AC.seq (AC.region ?_)
 refine AL.q (by exact h_boxF rfl rfl) rfl ?_
 refine AL.p (by exact as1 rfl) rfl ?_
 refine AL.p (by exact as1 rfl) rfl ?_
 refine AL.nil (th_n (AC.seq (AC.seq (AC.region ?_))))
 refine AL.p (by exact g_load_refN rfl rfl rfl rfl) rfl ?_
 refine AL.p (by exact mv1 rfl) rfl ?_
 refine AL.q (by exact h_pure en_l23Good rfl rfl (by repeat (first | exact rfl | exact DLead.same | refine ⟨_, _, rfl, ?_, ?_⟩ | refine ⟨_, rfl, ?_⟩)) hV rfl) rfl ?_
 refine AL.p (by exact g_not rfl) rfl ?_
 refine AL.p (by exact mv1 rfl) rfl ?_
 refine AL.caseGB rfl rfl (fun h0 => ?_) (fun h0 => ?_)
 ·refine AL.not rfl rfl rfl rfl rfl ?_
  refine AL.not rfl rfl rfl rfl rfl ?_
  refine AL.not rfl rfl rfl rfl rfl ?_
  refine AL.p (by exact g_pickT (r := .d _) rfl rfl) rfl ?_
  refine AL.nil (th_n ?_)
  refine AC.condT rfl ?_
  refine AC.seq (AC.region ?_)
  refine AL.p (by exact as1 rfl) rfl ?_
  refine AL.p (by exact as1 rfl) rfl ?_
  refine AL.nil (th_n ?_)
  refine AC.weak (Weak.nilOwn (i := 6) (e := 46) (sz := 2) rfl (by decide)) ?_
  refine AC.ret (th_r (bq_r ?_))
  have e : G = ([], false) := hN (by simp_all)
  exact retN [(0, _)] rfl (by rw [e]; repeat (first | exact rfl | exact DLead.same | refine ⟨_, _, rfl, ?_, ?_⟩ | refine ⟨_, rfl, ?_⟩)) (by rw [e]; repeat (first | exact True.intro | refine And.intro ?_ ?_ | exact rfl | refine ⟨_, _, rfl, rfl, ?_⟩)) rfl rfl
 ·refine AL.yes rfl rfl rfl ?_
  refine AL.p (by exact mv1 rfl) rfl ?_
  refine AL.yes rfl rfl rfl ?_
  refine AL.q (by exact h_pure en_l1In rfl rfl (by repeat (first | exact rfl | exact DLead.same | refine ⟨_, _, rfl, ?_, ?_⟩)) hW rfl) rfl ?_
  refine AL.yes rfl rfl rfl ?_
  refine AL.p (by exact g_not rfl) rfl ?_
  refine AL.p (by exact g_pickF (r := .d _) rfl rfl) rfl ?_
  refine AL.nil (th_n ?_)
  refine AC.condB rfl (fun h1 => ?_) (fun h1 => ?_)
  ·refine AC.seq (AC.region ?_)
   refine AL.p (by exact as1 rfl) rfl ?_
   refine AL.p (by exact as1 rfl) rfl ?_
   refine AL.nil (th_n ?_)
   refine AC.weak (Weak.nilOwn (i := 6) (e := 46) (sz := 2) rfl (by decide)) ?_
   refine AC.ret (th_r (bq_r ?_))
   have e : G = ([], false) := hN (by simp_all)
   exact retN [(0, _)] rfl (by rw [e]; repeat (first | exact rfl | exact DLead.same | refine ⟨_, _, rfl, ?_, ?_⟩ | refine ⟨_, rfl, ?_⟩)) (by rw [e]; repeat (first | exact True.intro | refine And.intro ?_ ?_ | exact rfl | refine ⟨_, _, rfl, rfl, ?_⟩)) rfl rfl
  ·refine AC.skip (th_n (AC.seq ?_))
   have q1 : b1 = true := by simpa using h0
   have q2 : b2 = true := by simpa using h1
   have hnb := hbn q2
   have hSn := hRun q1 q2
   have hnn : n = ((n.toNat : Nat) : Int) := by omega
   have e := hY q1 q2
   refine AC.drawn' mixed_ok [[], [], [], [2], [0,1,2,3], [0,1,2,3,4], [0,1,2,3,4,5], [0,1,2,3,4,5], [0,1,2,3,4,5,6], [0,1,2,3,4,5,6,7,8]] (by decide) ?_
   refine DF.op 0 [] 10 rfl rfl rfl (.free rfl (NOp.of (by exact g_load_refN rfl rfl rfl rfl))) rfl ?_
   refine DF.op 1 [] 10 rfl rfl rfl (.free rfl (NOp.of (by exact mv1 rfl))) rfl ?_
   refine DF.op 2 [] 10 rfl rfl rfl (.free rfl (NOp.of (by exact mv1 rfl))) rfl ?_
   refine DF.op 3 [2] 10 rfl rfl rfl (.free rfl (by exact NOp.frozen (els' := ints (zrs n)) rfl (h_make (k := n.toNat) rfl rfl rfl rfl rfl rfl rfl hnn (by show 8 * n.toNat ≤ _; omega) (by omega)) (by simp) (mkZ n))) rfl ?_
   refine DF.op 4 [0,1,2,3] 10 rfl rfl rfl (.free rfl (by exact h_fun (cs := []) en_l23Run rfl rfl (by repeat (first | exact rfl | exact DLead.same | refine ⟨_, _, rfl, ?_, ?_⟩ | refine ⟨_, rfl, ?_⟩)) (by repeat (exact True.intro)) hSn rfl rfl rfl rfl)) rfl ?_
   refine DF.op 5 [0,1,2,3,4] 10 rfl rfl rfl (.free rfl (NOp.of (by exact mv5 rfl))) rfl ?_
   refine DF.op 6 [0,1,2,3,4,5] 10 rfl rfl rfl (.free rfl (NOp.of (by exact g_extract (r := .own _ _) rfl rfl))) rfl ?_
   refine DF.op 7 [0,1,2,3,4,5] 10 rfl rfl rfl (.free rfl (NOp.of (by exact g_extract (r := .d _) rfl rfl))) rfl ?_
   refine DF.op 8 [0,1,2,3,4,5,6] 10 rfl rfl rfl (.free rfl (NOp.of (by exact as2 rfl))) rfl ?_
   refine DF.op 9 (List.range 9) 10 rfl rfl rfl (.free rfl (NOp.of (by exact as1 rfl))) rfl ?_
   refine DF.fin (ps := [(0,1),(0,2),(0,3),(1,0),(1,2),(1,3),(2,0),(2,1),(3,0),(3,1),(6,7),(7,6),(7,8),(8,7)]) 10 rfl (by decide +kernel) (by decide +kernel) (by rfl) ?_
   refine th_n (AC.seq (AC.region ?_))
   refine AL.p (by exact mv2 rfl) rfl ?_
   refine AL.p (by exact as2 rfl) rfl ?_
   refine AL.p (by exact as1 rfl) rfl ?_
   refine AL.nil (th_n (AC.ret (bq_r ?_)))
   exact retN [(0, _)] rfl (by rw [e]; repeat (first | exact rfl | exact DLead.same | refine ⟨_, _, rfl, ?_, ?_⟩ | refine ⟨_, rfl, ?_⟩)) (by rw [e]; repeat (first | exact True.intro | refine And.intro ?_ ?_ | exact rfl | refine ⟨_, _, rfl, rfl, ?_⟩)) rfl rfl
theorem en_sEarl : Enters Tryz.prog 6 := enters_of Tryz.func6 rfl rfl
def ASpecI (I : World → Prop) (P : Program) (f : FuncId) (args : List AV) (chs : List (Nat × Chunk)) (R : AV → List (Nat × Chunk) → Prop) : Prop :=
 ∀ (w : World) (m : Nat → Option (Option Nat × Nat)) (Fin : Nat → Prop) (vs : Array Value), I w →
  (∀ k, Fin k → k < w.heap.size ∧ ∀ id c p, getL id chs = some c → m id = some p → ¬ occ p c k) →
  vs.size = args.length → (∀ (i : Nat) x, args[i]? = some x → ARep m Fin w x (vs.getD i undef)) →
  (∀ id c, getL id chs = some c → id < chs.length ∧ ∃ p, m id = some p ∧ CRep m Fin w p c) →
  (∀ id id' c c' p p' b, getL id chs = some c → getL id' chs = some c' → m id = some p → m id' = some p' → occ p c b → occ p' c' b → id = id') →
  (∀ id, chs.length ≤ id → m id = none) →
  Calls P f vs w fun e w' => ∃ v r chs' m' F', e = .returned v ∧ R r chs' ∧
   (∀ id p, id < chs.length → m id = some p → m' id = some p) ∧ (∀ id, chs.length + 8 ≤ id → m' id = none) ∧
   (∀ k, F' k ↔ (Fin k ∨ (∃ id c p, getL id chs = some c ∧ m id = some p ∧ occ p c k) ∨ w.heap.size ≤ k) ∧ k < w'.heap.size ∧ ∀ id c p, getL id chs' = some c → m' id = some p → ¬ occ p c k) ∧
   (w'.os = w.os ∧ w'.tape = w.tape ∧ w'.output = w.output ∧ w.heap.size ≤ w'.heap.size ∧ ∀ k, k < w.heap.size → (∀ id c p, getL id chs = some c → m id = some p → ¬ occ p c k) → w'.heap[k]? = w.heap[k]?) ∧
   ARep m' F' w' r v ∧
   (∀ id c, getL id chs' = some c → ∃ p, m' id = some p ∧ CRep m' F' w' p c ∧ ∀ b, occ p c b → w.heap.size ≤ b ∨ ∃ id0 c0 p0, getL id0 chs = some c0 ∧ m id0 = some p0 ∧ occ p0 c0 b) ∧
   (∀ id id' c c' p p' b, getL id chs' = some c → getL id' chs' = some c' → m' id = some p → m' id' = some p' → occ p c b → occ p' c' b → id = id')
structure NOpRI (C : Ctx) (P : Program) (ids : List Nat) (s : ASt) (o : Oper) (f : Nat) (Us : Upd → Prop) : Prop where
 run : ∀ s', Agr ids o s s' → ∀ U U' a w m, RelM C U s' a w m → (∀ k, k < 8 → U (f + k)) → (∀ j, U' j → U j ∧ (j < f ∨ f + 8 ≤ j)) → dstOk o.dst s'.n = true → ∀ K Q, (∀ u, Us u → ∀ a' w' m', RelM C U' (s'.app o.dst u) a' w' m' → K a' w') → o.wp P a w K Q
section
variable {P : Program} [PT P]
set_option maxHeartbeats 1000000 in
theorem ASpecI.of {I : World → Prop} {f : FuncId} {fn : Func} {c : Code} {args : List AV} {chs : List (Nat × Chunk)} {R : AV → List (Nat × Chunk) → Prop} (hf : P.funcs[f]? = some fn) (hb : fn.body = some c) (hn : Nat.ble args.length fn.ntmps = true)
  (hcl : ∀ w w', I w → (∀ k, k < w.heap.size → w'.heap[k]? = w.heap[k]?) → I w') (h : ∀ C : Ctx, C.k = chs.length → (chs = [] → ∀ w', Fr C.S C.w w' → I w') → ACode P C c (BodyQ P fn chs.length R) (entry fn.ntmps args chs)) : ASpecI I P f args chs R := by
 intro w m Fin vs hIw hFin hsz hargs hchs hinj hun
 have hn : args.length ≤ fn.ntmps := by simpa using hn
 have hkey : ∀ (l : List (Nat × Chunk)) id, (∃ c, (id, c) ∈ l) → ∃ c, getL id l = some c := by
  intro l id ⟨c, hc⟩
  induction l with
  | nil => cases hc
  | cons q l ih =>
   obtain ⟨j, d⟩ := q
   rw [getL_cons]
   by_cases hij : id = j
   ·exact ⟨d, by rw [if_pos hij]⟩
   ·rw [if_neg hij]
    rcases List.mem_cons.1 hc with h | h
    ·simp only [Prod.mk.injEq] at h; exact absurd h.1 hij
    ·exact ih h
 have hmem : ∀ (l : List (Nat × Chunk)) id c, getL id l = some c → (id, c) ∈ l := by
  intro l id c hc
  induction l with
  | nil => simp [getL] at hc
  | cons q l ih =>
   obtain ⟨j, d⟩ := q
   rw [getL_cons] at hc
   split at hc
   ·rename_i e; simp only [Option.some.injEq] at hc; subst e; subst hc; simp
   ·exact List.mem_cons_of_mem _ (ih hc)
 obtain ⟨S, hS⟩ : ∃ S : List Nat, ∀ b, b ∈ S ↔ ∃ id c p, getL id chs = some c ∧ m id = some p ∧ occ p c b := by
  classical
  refine ⟨(List.range w.heap.size).filter fun b => decide (∃ id c p, getL id chs = some c ∧ m id = some p ∧ occ p c b), fun b => ?_⟩
  rw [List.mem_filter, decide_eq_true_eq, List.mem_range]
  refine ⟨fun h => h.2, fun h => ⟨?_, h⟩⟩
  obtain ⟨id, c, p, h1, h2, h3⟩ := h
  obtain ⟨_, q, hq, hr⟩ := hchs id c h1
  rw [h2] at hq
  obtain rfl : p = q := by simpa using hq
  exact hr.lt h3
 have hchunk : ∀ id, (entry fn.ntmps args chs).chunk id = getL id chs := fun id => getL_chL id chs
 have hget : ∀ i, (entry fn.ntmps args chs).get i = (args[i]?).getD .dead := fun i => by
  show (getL i (slL 0 args)).getD .dead = _
  rw [getL_slL]; simp
 have hR0 : RelM ⟨w, Fin, S, m, chs.length⟩ (fun id => chs.length ≤ id) (entry fn.ntmps args chs) { tmps := vs ++ Array.replicate (fn.ntmps - vs.size) undef, defers := [] } w m := by
  have hF0 : ∀ k, Fin k → Fz ⟨w, Fin, S, m, chs.length⟩ m (entry fn.ntmps args chs) w k := fun k hk => ⟨.inl hk, (hFin k hk).1, fun id c p hc hp => (hFin k hk).2 id c p (by rw [← hchunk]; exact hc) hp⟩
  refine ⟨Fr.refl _ _, fun k hk => ⟨(hFin k hk).1, fun hkS => ?_⟩, ?_, fun i => ?_, fun id c hc => ?_, fun id id' c c' p p' h1 h2 hp hp' b hb hb' => ?_, hun, rfl, MLe.refl m, hun⟩
  ·obtain ⟨id, c, p, h1, h2, h3⟩ := (hS k).1 hkS
   exact (hFin k hk).2 id c p h1 h2 h3
  ·show (vs ++ Array.replicate (fn.ntmps - vs.size) undef).size = fn.ntmps
   simp; omega
  ·rw [hget]
   cases hx : args[i]? with
   | none => exact .dead
   | some x =>
    have hi := (List.getElem?_eq_some_iff.1 hx).1
    have : (vs ++ Array.replicate (fn.ntmps - vs.size) undef).getD i undef = vs.getD i undef := by
     simp [Array.getD_eq_getD_getElem?, Array.getElem?_append, show i < vs.size by omega]
    show ARep _ _ _ x ((vs ++ Array.replicate (fn.ntmps - vs.size) undef).getD i undef)
    rw [this]
    exact (hargs i x hx).turn (MLe.refl m) (fun k hk _ => ⟨hF0 k hk, rfl⟩)
  ·rw [hchunk] at hc
   obtain ⟨_, p, hp, hr⟩ := hchs id c hc
   exact ⟨p, hp, hr.turn (MLe.refl m) (fun k hk _ => ⟨hF0 k hk, rfl⟩) (fun _ _ => rfl), fun b hb => .inl ((hS b).2 ⟨id, c, p, hc, hp, hb⟩)⟩
  ·rw [hchunk] at h1 h2
   exact hinj id id' c c' p p' b h1 h2 hp hp' hb hb'
 refine calls_of_wp hf hb (Go.wp_mono ((h ⟨w, Fin, S, m, chs.length⟩ rfl (fun h0 w1 hfr => hcl w w1 hIw fun k hk => hfr.block k hk (fun hkS => by obtain ⟨id, c, p, h1, _⟩ := (hS k).1 hkS; rw [h0] at h1; simp [getL] at h1))).run _ w ⟨m, hR0⟩) ?_)
 rintro e a w' ⟨s, ⟨mm, hR⟩, hq⟩
 have main : RetQ P fn chs.length R s → a.defers = [] ∧ ∃ v, (results fn a.tmps).run P w' = .ok v w' ∧ ∃ v1 r chs' m' F', Ending.returned v = .returned v1 ∧ R r chs' ∧
   (∀ id p, id < chs.length → m id = some p → m' id = some p) ∧ (∀ id, chs.length + 8 ≤ id → m' id = none) ∧
   (∀ k, F' k ↔ (Fin k ∨ (∃ id c p, getL id chs = some c ∧ m id = some p ∧ occ p c k) ∨ w.heap.size ≤ k) ∧ k < w'.heap.size ∧ ∀ id c p, getL id chs' = some c → m' id = some p → ¬ occ p c k) ∧
   (w'.os = w.os ∧ w'.tape = w.tape ∧ w'.output = w.output ∧ w.heap.size ≤ w'.heap.size ∧ ∀ k, k < w.heap.size → (∀ id c p, getL id chs = some c → m id = some p → ¬ occ p c k) → w'.heap[k]? = w.heap[k]?) ∧
   ARep m' F' w' r v1 ∧
   (∀ id c, getL id chs' = some c → ∃ p, m' id = some p ∧ CRep m' F' w' p c ∧ ∀ b, occ p c b → w.heap.size ≤ b ∨ ∃ id0 c0 p0, getL id0 chs = some c0 ∧ m id0 = some p0 ∧ occ p0 c0 b) ∧
   (∀ id id' c c' p p' b, getL id chs' = some c → getL id' chs' = some c' → m' id = some p → m' id' = some p' → occ p c b → occ p' c' b → id = id') := by
  rintro ⟨⟨x, r, chs', ρ, hx, hRr, hlead, hch', hsig, hsinj⟩⟩
  obtain ⟨v, hv, hvr⟩ := results_run hR hx
  refine ⟨hR.defers, v, hv, v, r, chs', fun id => (sig chs.length ρ id).bind mm, fun k => (Fin k ∨ (∃ id c p, getL id chs = some c ∧ m id = some p ∧ occ p c k) ∨ w.heap.size ≤ k) ∧ k < w'.heap.size ∧ ∀ id c p, getL id chs' = some c → (sig chs.length ρ id).bind mm = some p → ¬ occ p c k, rfl, hRr, ?_, ?_, fun k => Iff.rfl, ?_, ?_, ?_, ?_⟩
  ·intro id p hid hp
   have : sig chs.length ρ id = some id := by
    unfold sig
    have : Nat.blt id chs.length = true := by simpa using hid
    rw [this]; rfl
   simp only [this, Option.bind_some]
   exact hR.m0 id p hp
  ·intro id hid
   simp only [hsig id hid, Option.bind_none]
  ·refine ⟨hR.fr.os, hR.fr.tape, hR.fr.output, hR.fr.size, fun k hk hn => hR.fr.block k hk (fun hkS => ?_)⟩
   obtain ⟨id, c, p, h1, h2, h3⟩ := (hS k).1 hkS
   exact hn id c p h1 h2 h3
  all_goals
   have hm : ∀ id j p, sig chs.length ρ id = some j → mm j = some p → (fun id => (sig chs.length ρ id).bind mm) id = some p := fun id j p h1 h2 => by simp [h1, h2]
   have hF : ∀ k, Fz ⟨w, Fin, S, m, chs.length⟩ mm s w' k → ((Fin k ∨ (∃ id c p, getL id chs = some c ∧ m id = some p ∧ occ p c k) ∨ w.heap.size ≤ k) ∧ k < w'.heap.size ∧ ∀ id c p, getL id chs' = some c → (sig chs.length ρ id).bind mm = some p → ¬ occ p c k) := by
    intro k hk
    refine ⟨hk.1.imp id (fun h => h.imp (fun h => (hS k).1 h) id), hk.2.1, fun id c p hc hp => ?_⟩
    obtain ⟨j, d, h1, h2, h3⟩ := hch' id c hc
    simp only [h1, Option.bind_some] at hp
    exact fun ho => hk.2.2 j d p h2 hp (h3.occ.2 ho)
  ·exact hvr.lead hm hF r hlead
  ·intro id c hc
   obtain ⟨j, d, h1, h2, h3⟩ := hch' id c hc
   obtain ⟨p, hp, hr, hl⟩ := hR.ch j d h2
   refine ⟨p, hm id j p h1 hp, hr.lead hm hF h3, fun b hb => ?_⟩
   rcases hl b (h3.occ.2 hb) with h | h
   ·obtain ⟨id0, c0, p0, g1, g2, g3⟩ := (hS b).1 h
    exact .inr ⟨id0, c0, p0, g1, g2, g3⟩
   ·exact .inl h
  ·intro id id' c c' p p' b h1 h2 hp hp' hb hb'
   obtain ⟨j, d, g1, g2, g3⟩ := hch' id c h1
   obtain ⟨j', d', g1', g2', g3'⟩ := hch' id' c' h2
   simp only [g1, g1', Option.bind_some] at hp hp'
   have := hR.inj j j' d d' p p' g2 g2' hp hp' b (g3.occ.2 hb) (g3'.occ.2 hb')
   subst this
   exact hsinj id id' j ⟨c, h1⟩ ⟨c', h2⟩ g1 g1'
 cases hq with
 | r hq => obtain ⟨h1, v, h2, h3⟩ := main hq; exact ⟨h1, v, h2, h3⟩
 | n hq => obtain ⟨h1, v, h2, h3⟩ := main hq; exact ⟨h1, v, h2, h3⟩
end
section
variable {P : Program} [PT P]
variable {s : ASt} {dst : Option Nat} {ty : Nat} {pos : String} {af : Array Edge} {gd : Option (Nat × Bool)} {f : Nat}
set_option maxHeartbeats 1000000 in
theorem h_callI {C : Ctx} {I : World → Prop} {g : FuncId} {caps ys ars : List AV} {fx : Operand} {xs : Array Operand} {ats : Array TypeId} {chs : List (Nat × Chunk)} {R : AV → List (Nat × Chunk) → Prop} {cs : List Nat} (hen : Enters P g) (hf : s.ev fx = .clo g caps) (hys : xs.toList.map s.ev ++ caps = ys)
  (hI : ∀ w', Fr C.S C.w w' → I w') (hspec : ASpecI I P g ars chs R) (hlead : AV.leadsL (sigC cs) ars ys) (hlen : chs.length = cs.length) (hch : ∀ (id : Nat) c, getL id chs = some c → ∃ j d, cs[id]? = some j ∧ s.chunk j = some d ∧ c.leads (sigC cs) d)
  (hall : ∀ (id j : Nat), cs[id]? = some j → ∃ d, s.chunk j = some d) (hnd : ∀ (i i' j : Nat), cs[i]? = some j → cs[i']? = some j → i = i') :
  NOpRI C P cs s ⟨dst, .call { callee := .value fx, args := xs, argTypes := ats }, ty, pos, af, gd⟩ f (fun u => ∃ r chs', R r chs' ∧ u = callU cs f r chs') := by
 refine ⟨fun s' ha U U' a w m hR hU hU' hd K Q hK => ?_⟩
 have hfx := hR.ev fx
 rw [ha.2.1 fx (by simp [Op.operands, Call.operands]), hf] at hfx
 have hchunk : ∀ j, j ∈ cs → s'.chunk j = s.chunk j := fun j hj => ha.2.2 j hj
 have hblk : ∀ j c p b, s'.chunk j = some c → m j = some p → occ p c b → b < w.heap.size := by
  intro j c p b h1 h2 h3
  obtain ⟨q, hq, hr, _⟩ := hR.ch j c h1
  rw [h2] at hq
  obtain rfl : p = q := by simpa using hq
  exact hr.lt h3
 generalize hfv : a.eval fx = fv at hfx
 cases hfx with
 | clo hc1 hc2 =>
  rename_i cv
  have hrun : (execOp a.eval ⟨dst, .call { callee := .value fx, args := xs, argTypes := ats }, ty, pos, af, gd⟩).run P w = .ok (.enter g (xs.map a.eval ++ cv)) w := by
   simp [execOp, resolve, hfv, Deferred.ofValue, invoke, hen (xs.map a.eval ++ cv) w]
  obtain ⟨hl1, hl2⟩ := AV.leadsL_get hlead
  let mc : Nat → Option (Option Nat × Nat) := fun i => (cs[i]?).bind m
  have hmc : ∀ i j, cs[i]? = some j → mc i = m j := fun i j h => by simp [mc, h]
  have harg : ∀ (i : Nat) y, ys[i]? = some y → ARep m (Fz C m s' w) w y ((xs.map a.eval ++ cv).getD i undef) := by
   intro i y hy
   rw [← hys] at hy
   by_cases hi : i < xs.size
   ·rw [List.getElem?_append_left (by simpa using hi), List.getElem?_map, Option.map_eq_some_iff] at hy
    obtain ⟨x, hx, rfl⟩ := hy
    have hx' : xs[i]? = some x := by simpa using hx
    have := hR.ev x
    rw [ha.2.1 x (by simp only [Op.operands, Call.operands, Array.mem_append]; exact .inr (Array.mem_of_getElem? hx'))] at this
    have e : (xs.map a.eval ++ cv).getD i undef = a.eval x := by
     have hxi : xs[i] = x := (Array.getElem?_eq_some_iff.1 hx').2
     simp [Array.getD_eq_getD_getElem?, Array.getElem?_append, hi, hxi]
    rw [e]; exact this
   ·rw [List.getElem?_append_right (by simpa using Nat.le_of_not_lt hi)] at hy
    have := hc2 _ y hy
    have e : (xs.map a.eval ++ cv).getD i undef = cv.getD (i - xs.size) undef := by
     simp [Array.getD_eq_getD_getElem?, Array.getElem?_append, hi]
    rw [e]; simpa using this
  have hcall := hspec w mc (Fz C m s' w) (xs.map a.eval ++ cv) (hI w hR.fr) ?_ ?_ ?_ ?_ ?_ ?_
  ·unfold Oper.wp
   rw [hrun]
   simp only [Oper.upon]
   refine Calls.mono hcall ?_
   rintro e w' ⟨v, r, chs', m1, F1, rfl, hRr, hp1, hn1, hF1, ⟨f1, f2, f3, f4, f5⟩, hv, hc', hi'⟩
   have hmf : ∀ k, k < 8 → m (f + k) = none := fun k hk => hR.un _ (hU k hk)
   let m2 : Nat → Option (Option Nat × Nat) := fun j => if f ≤ j ∧ j < f + 8 then m1 (cs.length + (j - f)) else m j
   have hle : MLe m m2 := by
    intro j p hp
    have : ¬ (f ≤ j ∧ j < f + 8) := fun h => by
     have := hmf (j - f) (by omega)
     rw [show f + (j - f) = j by omega, hp] at this
     cases this
    simp [m2, this, hp]
   have hm12 : ∀ id p, m1 id = some p → m2 (tauC cs f id) = some p := by
    intro id p hp
    by_cases hid : id < cs.length
    ·have hj : cs[id]? = some cs[id] := List.getElem?_eq_getElem hid
     obtain ⟨d, hd⟩ := hall id _ hj
     rw [← hchunk _ (List.getElem_mem hid)] at hd
     obtain ⟨q, hq, _⟩ := hR.ch _ d hd
     have h1 := hp1 id q (by omega) (by rw [hmc id _ hj]; exact hq)
     rw [hp] at h1
     obtain rfl : p = q := by simpa using h1
     have : tauC cs f id = cs[id] := by simp [tauC, hj]
     rw [this]
     exact hle _ _ hq
    ·have h8 : id < cs.length + 8 := by
      rcases Nat.lt_or_ge id (cs.length + 8) with h | h
      ·exact h
      ·have := hn1 id (by omega); rw [hp] at this; cases this
     have : tauC cs f id = f + (id - cs.length) := by simp [tauC, List.getElem?_eq_none (Nat.le_of_not_lt hid)]
     rw [this]
     have hin : f ≤ f + (id - cs.length) ∧ f + (id - cs.length) < f + 8 := by omega
     simp only [m2, hin, and_self, if_true]
     rw [show cs.length + (f + (id - cs.length) - f) = id by omega]
     exact hp
   have hold1 : ∀ k, k < w.heap.size → (∀ j c p, j ∈ cs → s'.chunk j = some c → m j = some p → ¬ occ p c k) → w'.heap[k]? = w.heap[k]? := by
    intro k hk hn
    refine f5 k hk (fun id c p h1 h2 h3 => ?_)
    obtain ⟨j, d, g1, g2, g3⟩ := hch id c h1
    rw [hmc id j g1] at h2
    exact hn j d p (List.mem_of_getElem? g1) (by rw [hchunk j (List.mem_of_getElem? g1)]; exact g2) h2 (g3.occ.2 h3)
   have hgone : ∀ id c, getL id (callU cs f r chs').ch = some (some c) → ∃ i c0, getL i chs' = some c0 ∧ tauC cs f i = id ∧ c = c0.ren (tauC cs f) := by
    intro id c h
    simp only [callU, getL_append] at h
    cases hm : getL id (mapC cs f chs') with
    | some o =>
     rw [hm] at h
     simp only [Option.some_or, Option.some.injEq] at h
     subst h
     obtain ⟨i, c0, h1, h2, h3⟩ := getL_mapC hm
     exact ⟨i, c0, h1, h2, by simpa using h3⟩
    | none =>
     rw [hm] at h
     simp only [Option.none_or] at h
     have := (getL_noneC h).2
     cases this
   have hnot : ∀ id, getL id (callU cs f r chs').ch = none → id ∉ cs := by
    intro id h hmem
    simp only [callU, getL_append] at h
    obtain ⟨o, ho⟩ := getL_noneC_mem hmem
    rw [ho] at h
    cases hm : getL id (mapC cs f chs') <;> simp [hm] at h
   have hnewblk : ∀ i c0 p b, getL i chs' = some c0 → m1 i = some p → occ p c0 b → w.heap.size ≤ b ∨ ∃ j c p0, j ∈ cs ∧ s'.chunk j = some c ∧ m j = some p0 ∧ occ p0 c b := by
    intro i c0 p b h1 h2 h3
    obtain ⟨q, hq, _, hl⟩ := hc' i c0 h1
    rw [h2] at hq
    obtain rfl : p = q := by simpa using hq
    rcases hl b h3 with h | ⟨id0, c1, p0, g1, g2, g3⟩
    ·exact .inl h
    ·obtain ⟨j, d, q1, q2, q3⟩ := hch id0 c1 g1
     rw [hmc id0 j q1] at g2
     exact .inr ⟨j, d, p0, List.mem_of_getElem? q1, by rw [hchunk j (List.mem_of_getElem? q1)]; exact q2, g2, q3.occ.2 g3⟩
   have hm2 : ∀ i c0, getL i chs' = some c0 → ∀ p, m2 (tauC cs f i) = some p → m1 i = some p := by
    intro i c0 h1 p hp
    obtain ⟨q, hq, _⟩ := hc' i c0 h1
    have := hm12 i q hq
    rw [hp] at this
    rw [hq, this]
   refine hK _ ⟨r, chs', hRr, rfl⟩ _ _ m2 (hR.step hd hle (fun j hj => ?_) ?_ f4 (fun k hk => ⟨fun id c p h1 h2 h3 => ?_, hold1 k hk.2.1 (fun j c p _ h1 h2 => hk.2.2 j c p h1 h2)⟩) (fun id c p b h0 h1 h2 h3 => ?_) (fun F' hF hF2 => ?_) (fun id id' c c' p p' b h1 h2 hp hp' hb hb' => ?_))
   ·have := hU' j hj
    have h2 : ¬ (f ≤ j ∧ j < f + 8) := by omega
    simp only [m2, h2, if_false]
    exact hR.un j this.1
   ·refine ⟨f1.trans hR.fr.os, f2.trans hR.fr.tape, f3.trans hR.fr.output, Nat.le_trans hR.fr.size f4, fun k hk hn => ?_⟩
    rw [hold1 k (Nat.lt_of_lt_of_le hk hR.fr.size) (fun j c p _ h1 h2 h3 => ?_)]
    ·exact hR.fr.block k hk hn
    ·obtain ⟨q, hq, _, hl⟩ := hR.ch j c h1
     rw [h2] at hq
     obtain rfl : p = q := by simpa using hq
     rcases hl k h3 with h | h
     ·exact hn h
     ·omega
   ·obtain ⟨i, c0, g1, rfl, rfl⟩ := hgone id c h1
    rcases hnewblk i c0 p k g1 (hm2 i c0 g1 p h2) (occ_ren.1 h3) with h | ⟨j, c1, p0, _, q1, q2, q3⟩
    ·have := hk.2.1; omega
    ·exact hk.2.2 j c1 p0 q1 q2 q3
   ·refine hold1 b (hblk id c p b h1 h2 h3) (fun j c1 p1 hj g1 g2 g3 => ?_)
    have := hR.inj id j c c1 p p1 h1 g1 h2 g2 b h3 g3
    subst this
    exact hnot id h0 hj
   ·have hFF : ∀ k, F1 k → F' k := by
     intro k hk
     obtain ⟨k1, k2, k3⟩ := (hF1 k).1 hk
     refine hF2 k ?_ k2 (fun id c p h1 h2 h3 => ?_)
     ·rcases k1 with h | ⟨id, c, p, h1, h2, h3⟩ | h
      ·exact h.1
      ·obtain ⟨j, d, g1, g2, g3⟩ := hch id c h1
       rw [hmc id j g1] at h2
       obtain ⟨q, hq, _, hl⟩ := hR.ch j d (by rw [hchunk j (List.mem_of_getElem? g1)]; exact g2)
       rw [h2] at hq
       obtain rfl : p = q := by simpa using hq
       exact .inr (hl k (g3.occ.2 h3))
      ·exact .inr (.inr (Nat.le_trans hR.fr.size h))
     ·rw [ASt.chunk_app] at h1
      cases hg : getL id (callU cs f r chs').ch with
      | some o =>
       rw [hg] at h1
       simp only at h1
       subst h1
       obtain ⟨i, c0, g1, rfl, rfl⟩ := hgone id c hg
       exact k3 i c0 p g1 (hm2 i c0 g1 p h2) (occ_ren.1 h3)
      | none =>
       rw [hg] at h1
       simp only at h1
       obtain ⟨q, hq, _⟩ := hR.ch id c h1
       have := hle id q hq
       rw [h2] at this
       obtain rfl : p = q := by simpa using this
       rcases k1 with h | ⟨id1, c1, p1, t1, t2, t3⟩ | h
       ·exact h.2.2 id c p h1 hq h3
       ·obtain ⟨j, d, g1, g2, g3⟩ := hch id1 c1 t1
        rw [hmc id1 j g1] at t2
        have := hR.inj id j c d p p1 h1 (by rw [hchunk j (List.mem_of_getElem? g1)]; exact g2) hq t2 k h3 (g3.occ.2 t3)
        subst this
        exact hnot id hg (List.mem_of_getElem? g1)
       ·have := hblk id c p k h1 hq h3; omega
    refine ⟨hv.ren hm12 hFF, fun id c h => ?_⟩
    obtain ⟨i, c0, g1, rfl, rfl⟩ := hgone id c h
    obtain ⟨p, q1, q2, q3⟩ := hc' i c0 g1
    refine ⟨p, hm12 i p q1, q2.ren hm12 hFF, fun b hb => ?_⟩
    rcases hnewblk i c0 p b g1 q1 (occ_ren.1 hb) with h | ⟨j, c1, p0, _, t1, t2, t3⟩
    ·exact .inr (Nat.le_trans hR.fr.size h)
    ·obtain ⟨q, hq, _, hl⟩ := hR.ch j c1 t1
     rw [t2] at hq
     obtain rfl : p0 = q := by simpa using hq
     exact hl b t3
   ·obtain ⟨i, c0, g1, rfl, rfl⟩ := hgone id c h1
    have hp1' := hm2 i c0 g1 p hp
    rw [ASt.chunk_app] at h2
    cases hg : getL id' (callU cs f r chs').ch with
    | some o =>
     rw [hg] at h2
     simp only at h2
     subst h2
     obtain ⟨i', c0', g1', rfl, rfl⟩ := hgone id' c' hg
     have := hi' i i' c0 c0' p p' b g1 g1' hp1' (hm2 i' c0' g1' p' hp') (occ_ren.1 hb) (occ_ren.1 hb')
     rw [this]
    | none =>
     rw [hg] at h2
     simp only at h2
     obtain ⟨q, hq, _⟩ := hR.ch id' c' h2
     have := hle id' q hq
     rw [hp'] at this
     obtain rfl : p' = q := by simpa using this
     have hlt := hblk id' c' p' b h2 hq hb'
     rcases hnewblk i c0 p b g1 hp1' (occ_ren.1 hb) with h | ⟨j, c1, p0, t0, t1, t2, t3⟩
     ·omega
     ·have := hR.inj id' j c' c1 p' p0 h2 t1 hq t2 b hb' t3
      subst this
      exact absurd t0 (hnot id' hg)
  ·intro k hk
   refine ⟨hk.2.1, fun id c p h1 h2 => ?_⟩
   obtain ⟨j, d, g1, g2, g3⟩ := hch id c h1
   rw [hmc id j g1] at h2
   exact fun ho => hk.2.2 j d p (by rw [hchunk j (List.mem_of_getElem? g1)]; exact g2) h2 (g3.occ.2 ho)
  ·have : ys.length = xs.size + caps.length := by rw [← hys]; simp
   simp only [Array.size_append, Array.size_map]
   omega
  ·intro i x hx
   obtain ⟨y, hy, hxy⟩ := hl2 i x hx
   exact (harg i y hy).lead (fun id j p h1 h2 => by rw [hmc id j h1]; exact h2) (fun _ h => h) x hxy
  ·intro id c hc
   obtain ⟨j, d, g1, g2, g3⟩ := hch id c hc
   have hj := List.mem_of_getElem? g1
   obtain ⟨p, hp, hr, _⟩ := hR.ch j d (by rw [hchunk j hj]; exact g2)
   refine ⟨by rw [hlen]; exact (List.getElem?_eq_some_iff.1 g1).1, p, by rw [hmc id j g1]; exact hp, hr.lead (fun id j p h1 h2 => by rw [hmc id j h1]; exact h2) (fun _ h => h) g3⟩
  ·intro id id' c c' p p' b h1 h2 hp hp' hb hb'
   obtain ⟨j, d, g1, g2, g3⟩ := hch id c h1
   obtain ⟨j', d', g1', g2', g3'⟩ := hch id' c' h2
   rw [hmc id j g1] at hp
   rw [hmc id' j' g1'] at hp'
   have := hR.inj j j' d d' p p' (by rw [hchunk j (List.mem_of_getElem? g1)]; exact g2) (by rw [hchunk j' (List.mem_of_getElem? g1')]; exact g2') hp hp' b (g3.occ.2 hb) (g3'.occ.2 hb')
   subst this
   exact hnd id id' j g1 g1'
  ·intro id hid
   simp [mc, List.getElem?_eq_none (show cs.length ≤ id by omega)]
end
section
variable {P : Program} [PT P] {C : Ctx} {Q : Exit → ASt → Prop} {s : ASt} {ops : Array Oper}
theorem AL.callI {ids : List Nat} {o : Oper} {rest : List Oper} {Us : Upd → Prop} (hw : ∀ a w, Rel C s a w → Region.wanted o (yielded ops a.tmps) = true) (hop : NOpRI C P ids s o s.nx Us) (hd : dstOk o.dst s.n = true) (h : ∀ u, Us u → AL P C ops rest Q (s.nxt o.dst u)) : AL P C ops (o :: rest) Q s := by
 refine ⟨fun a w hR' => ?_⟩
 have hwt := hw a w hR'
 obtain ⟨m, hR⟩ := hR'
 refine wpList_step fun K hK => ?_
 rw [if_pos hwt]
 refine hop.run s (Agr.refl _ _ _) (fun id => s.nx ≤ id) (fun id => s.nx + 8 ≤ id) a w m hR (fun k hk => Nat.le_add_right _ _) (fun j hj => ⟨by omega, .inr hj⟩) hd K _ (fun u hu a' w' m' hR' => hK _ _ ((h u hu).run a' w' ⟨m', hR'.weaken ?_ (fun i => .inr ?_) (fun id c hc => ?_) (fun id hid => ?_)⟩))
 ·cases o.dst <;> rfl
 ·cases o.dst <;> rfl
 ·cases hdst : o.dst <;> (rw [hdst] at hc; exact hc)
 ·cases hdst : o.dst <;> (rw [hdst] at hid; exact hid)
theorem AL.pureI {I : World → Prop} {dst : Option Nat} {ty : Nat} {pos : String} {af : Array Edge} {rest : List Oper} {g : FuncId} {caps ys ars : List AV} {fx : Operand} {xs : Array Operand} {ats : Array TypeId} {r : AV} (hI : ∀ w', Fr C.S C.w w' → I w') (hen : Enters P g) (hf : s.ev fx = .clo g caps) (hys : xs.toList.map s.ev ++ caps = ys)
  (hlead : AV.leadsL (sigC []) ars ys) (hspec : ASpecI I P g ars [] (Pure1 r)) (hr : r.ren (tauC [] s.nx) = r) (hd : dstOk dst s.n = true) (h : AL P C ops rest Q (s.nxt dst ⟨r, []⟩)) :
  AL P C ops (⟨dst, .call { callee := .value fx, args := xs, argTypes := ats }, ty, pos, af, none⟩ :: rest) Q s :=
 AL.callI (fun a w _ => wanted_none rfl a) (h_callI (cs := []) hen hf hys hI hspec hlead rfl (fun id c h => by simp [getL] at h) (fun id j h => by simp at h) (fun i i' j h => by simp at h)) hd (by
  rintro u ⟨r', chs', ⟨rfl, rfl⟩, rfl⟩
  simp only [callU, mapC, noneC, hr]
  exact h)
end
theorem ASpecI.law {I : World → Prop} {P : Program} {f : FuncId} {ars : List AV} {W : World} {vs : Array Value} (h : ASpecI I P f ars [] (Pure1 (aT true))) (hIW : I W) (hn : vs.size = ars.length) (ha : ∀ (i : Nat) x, ars[i]? = some x → ARep (fun _ => none) (fun k => k < W.heap.size) W x (vs.getD i undef)) :
  Calls P f vs W fun e W' => e = .returned (.bool true) ∧ Below W.heap.size W W' := by
 refine (h W (fun _ => none) (fun k => k < W.heap.size) vs hIW (fun k hk => ⟨hk, fun id c p hc => by simp [getL] at hc⟩) hn ha (fun id c hc => by simp [getL] at hc) (fun id id' c c' p p' b hc => by simp [getL] at hc) (fun id _ => rfl)).mono ?_
 rintro e W' ⟨v, r, chs', m', F', rfl, ⟨rfl, rfl⟩, _, _, _, ⟨h1, h2, h3, h4, h5⟩, hv, _⟩
 refine ⟨?_, h1, h2, h3, h4, fun k hk => h5 k hk (fun id c p hc => by simp [getL] at hc)⟩
 cases hv with
 | d hd => cases hd; rfl
theorem ASpecI.ofNum {I : World → Prop} {P : Program} {g : FuncId} {n : Int} {b : ByteArray} (hb : b.size ≤ 1000) (h : ∀ w, I w → Calls P g #[.int .i64 n] w fun e w' => e = .returned (.string b) ∧ w'.os = w.os ∧ w'.tape = w.tape ∧ w'.output = w.output ∧ w.heap.size ≤ w'.heap.size ∧ ∀ k, k < w.heap.size → w'.heap[k]? = w.heap[k]?) : ASpecI I P g [aI n] [] (Pure1 (aS b)) := by
 intro w m Fin vs hI hfin hn ha hch hinj hm
 have h0 := ha 0 _ rfl
 have hv : vs = #[.int .i64 n] := by
  apply Array.ext
  ·rw [hn]; rfl
  ·intro i hi1 hi2
   match i with
   | 0 => have := h0.val_eq.1; rw [Array.getD_eq_getD_getElem?, Array.getElem?_eq_getElem hi1] at this; simpa using this
   | i + 1 => simp at hi2
 subst hv
 refine (h w hI).mono ?_
 rintro e w' ⟨rfl, q1, q2, q3, q4, q5⟩
 exact ⟨_, _, [], m, fun k => (Fin k ∨ (∃ id c p, getL id ([] : List (Nat × Chunk)) = some c ∧ m id = some p ∧ occ p c k) ∨ w.heap.size ≤ k) ∧ k < w'.heap.size ∧ ∀ id c p, getL id ([] : List (Nat × Chunk)) = some c → m id = some p → ¬ occ p c k, rfl, ⟨rfl, rfl⟩, fun _ _ _ h => h, fun id hid => hm id (by simp only [List.length_nil] at hid ⊢; omega), fun k => Iff.rfl, ⟨q1, q2, q3, q4, fun k hk _ => q5 k hk⟩, .d (.val (by show b.size ≤ maxLen; simp only [maxLen]; omega)), fun id c hc => by simp [getL] at hc, fun id id' c c' p p' b hc => by simp [getL] at hc⟩
structure NOpC (C : Ctx) (P : Program) (ids : List Nat) (s : ASt) (o : Oper) (f : Nat) (u : Upd) : Prop where
 run : ∀ s', Agr ids o s s' → ∀ U U' a w m, RelM C U s' a w m → (∀ k, k < 8 → U (f + k)) → (∀ j, U' j → U j ∧ (j < f ∨ f + 8 ≤ j)) → dstOk o.dst s'.n = true → ∀ K Q, (∀ a' w' m', RelM C U' (s'.app o.dst u) a' w' m' → K a' w') → o.wp P a w K Q
theorem NOp.toC {C : Ctx} {P : Program} {ids : List Nat} {s : ASt} {o : Oper} {f : Nat} {u : Upd} (h : NOp P ids s o f u) : NOpC C P ids s o f u := ⟨fun s' ha => h.run s' ha C⟩
section
variable {P : Program} [PT P] {s : ASt} {dst : Option Nat} {ty : Nat} {pos : String} {af : Array Edge} {gd : Option (Nat × Bool)} {f : Nat}
theorem h_pureI {C : Ctx} {I : World → Prop} {g : FuncId} {caps ys ars : List AV} {fx : Operand} {xs : Array Operand} {ats : Array TypeId} {r : AV} (hI : ∀ w', Fr C.S C.w w' → I w') (hen : Enters P g) (hf : s.ev fx = .clo g caps) (hys : xs.toList.map s.ev ++ caps = ys)
  (hlead : AV.leadsL (sigC []) ars ys) (hspec : ASpecI I P g ars [] (Pure1 r)) (hr : r.ren (tauC [] f) = r) :
  NOpC C P [] s ⟨dst, .call { callee := .value fx, args := xs, argTypes := ats }, ty, pos, af, gd⟩ f ⟨r, []⟩ := by
 have h := h_callI (dst := dst) (ty := ty) (pos := pos) (af := af) (gd := gd) (f := f) (ats := ats) (cs := []) hen hf hys hI hspec hlead rfl (fun id c h => by simp [getL] at h) (fun id j h => by simp at h) (fun i i' j h => by simp at h)
 refine ⟨fun s' ha U U' a w m hR h1 h2 h3 K Q hK => h.run s' ha U U' a w m hR h1 h2 h3 K Q fun u hu a' w' m' hR' => ?_⟩
 obtain ⟨r', chs', ⟨rfl, rfl⟩, rfl⟩ := hu
 simp only [callU, mapC, noneC, hr] at hR'
 exact hK a' w' m' hR'
end
namespace Inv
variable {C : Ctx} {P : Program} {Q : Exit → ASt → Prop} {s : ASt} {ops : List Oper} {anc : List (List Nat)} {recs : List ORec} {l : List FRec}
inductive StepOk (C : Ctx) (P : Program) (ops : List Oper) (D : ASt) (o : Oper) (ids : List Nat) (f : Nat) (u : Upd) : Prop
 | free : o.guard = none → NOpC C P ids D o f u → StepOk C P ops D o ids f u
 | yes {j t : Nat} {w : Bool} : o.guard = some (j, w) → ((ops[j]?).bind (·.dst)) = some t → Nat.blt t D.n = true → D.get t = aT w → NOpC C P ids D o f u → StepOk C P ops D o ids f u
 | no {j t : Nat} {w b : Bool} : o.guard = some (j, w) → ((ops[j]?).bind (·.dst)) = some t → Nat.blt t D.n = true → D.get t = aT b → b = !w → u = ⟨.und, []⟩ → StepOk C P ops D o ids f u
 | noU {j t : Nat} {w : Bool} : o.guard = some (j, w) → ((ops[j]?).bind (·.dst)) = some t → D.get t = .und → u = ⟨.und, []⟩ → StepOk C P ops D o ids f u
inductive Dr (C : Ctx) (P : Program) (ops : List Oper) (anc : List (List Nat)) (s : ASt) (Q : Exit → ASt → Prop) : List ORec → Prop
 | done {recs : List ORec} : Nat.beq recs.length ops.length = true → indepOk ops anc recs = true → Q .normal (mkS s (fun _ => true) ops recs) → Dr C P ops anc s Q recs
 | op {recs : List ORec} {o : Oper} {ids : List Nat} {u : Upd} : ops[recs.length]? = some o → StepOk C P ops (mkS s (fun k => memL k (ancAt anc recs.length)) ops recs) o ids (s.nx + 8 * recs.length) u → dstOk o.dst s.n = true → Dr C P ops anc s Q (recs ++ [(u, ids)]) → Dr C P ops anc s Q recs
theorem Dr.fin {P : Program} {ops : List Oper} {anc : List (List Nat)} {s : ASt} {Q : Exit → ASt → Prop} {recs : List ORec} (ds : List (Option Nat)) (pairs : List (Nat × Nat)) (hd : ops.map (·.dst) = ds) (hl : Nat.beq recs.length ops.length = true) (h1 : coverOk ops.length anc pairs = true) (h2 : slotOk ops pairs = true) (h3 : idsOk recs pairs = true) (h : Q .normal (mkD s ds recs)) : Dr C P ops anc s Q recs := by
 subst hd
 refine .done hl (indep_parts h1 h2 h3) ?_
 have : mkS s (fun _ => true) ops recs = mkD s (ops.map (·.dst)) recs := by simp [mkS, mkD, goS_D, goC_D]
 rw [this]; exact h
theorem Dr.eq {P : Program} {ops : List Oper} {anc : List (List Nat)} {s : ASt} {Q : Exit → ASt → Prop} {recs : List ORec} {j : Nat} {r : ORec} (h : recs[j]? = some r) (k : Dr C P ops anc s Q (recs.set j r)) : Dr C P ops anc s Q recs := by
 have : recs.set j r = recs := by
  apply List.ext_getElem?
  intro i
  by_cases hi : i = j
  ·subst hi
   rw [List.getElem?_set_self (List.getElem?_eq_some_iff.1 h).1, h]
  ·rw [List.getElem?_set_ne (Ne.symm hi)]
 rwa [this] at k
theorem Dr.caseD {P : Program} {ops : List Oper} {anc : List (List Nat)} {s : ASt} {Q : Exit → ASt → Prop} {recs : List ORec} (j : Nat) {p : Prop} [Decidable p] {ch : List (Nat × Option Chunk)} {ids : List Nat} (h : recs[j]? = some (⟨aT (decide p), ch⟩, ids)) (hT : p → Dr C P ops anc s Q (recs.set j (⟨aT true, ch⟩, ids))) (hF : ¬ p → Dr C P ops anc s Q (recs.set j (⟨aT false, ch⟩, ids))) : Dr C P ops anc s Q recs := by
 by_cases hp : p
 ·exact Dr.eq (r := (⟨aT true, ch⟩, ids)) (by rw [h]; simp [hp]) (hT hp)
 ·exact Dr.eq (r := (⟨aT false, ch⟩, ids)) (by rw [h]; simp [hp]) (hF hp)
theorem Dr.caseB {P : Program} {ops : List Oper} {anc : List (List Nat)} {s : ASt} {Q : Exit → ASt → Prop} {recs : List ORec} (j : Nat) {b : Bool} {ch : List (Nat × Option Chunk)} {ids : List Nat} (h : recs[j]? = some (⟨aT b, ch⟩, ids)) (hT : b = true → Dr C P ops anc s Q (recs.set j (⟨aT true, ch⟩, ids))) (hF : b = false → Dr C P ops anc s Q (recs.set j (⟨aT false, ch⟩, ids))) : Dr C P ops anc s Q recs :=
 Dr.caseD j (p := b = true) (by rw [h]; simp) hT (fun h => hF (by simpa using h))
theorem Dr.all {P : Program} {ops : List Oper} {anc : List (List Nat)} {s : ASt} {Q : Exit → ASt → Prop} {recs : List ORec} (h : Dr C P ops anc s Q recs) : ∃ full, recs <+: full ∧ full.length = ops.length ∧ indepOk ops anc full = true ∧ Q .normal (mkS s (fun _ => true) ops full) ∧
  ∀ i o r, recs.length ≤ i → ops[i]? = some o → full[i]? = some r → dstOk o.dst s.n = true ∧ StepOk C P ops (mkS s (fun k => memL k (ancAt anc i)) ops (full.take i)) o r.2 (s.nx + 8 * i) r.1 := by
 induction h with
 | @done recs h1 h2 h3 =>
  have hl : recs.length = ops.length := by simpa using h1
  exact ⟨recs, List.prefix_rfl, hl, h2, h3, fun i o r hi ho => by have := (List.getElem?_eq_some_iff.1 ho).1; omega⟩
 | @op recs o ids u h1 h2 h3 _ ih =>
  obtain ⟨full, g1, g2, g3, g4, g5⟩ := ih
  have hpre : recs <+: full := (List.prefix_append _ _).trans g1
  refine ⟨full, hpre, g2, g3, g4, fun i o' r hi ho hr => ?_⟩
  by_cases hi2 : recs.length + 1 ≤ i
  ·exact g5 i o' r (by simpa using hi2) ho hr
  ·have : i = recs.length := by omega
   subst this
   rw [h1] at ho
   obtain rfl : o = o' := by simpa using ho
   have hr2 : full[recs.length]? = some (u, ids) := by
    obtain ⟨tl, rfl⟩ := g1
    simp
   rw [hr2] at hr
   obtain rfl : (u, ids) = r := by simpa using hr
   refine ⟨h3, ?_⟩
   have : full.take recs.length = recs := by
    obtain ⟨tl, rfl⟩ := hpre
    simp
   rw [this]; exact h2
theorem dr_any (hanc : ancOk ops anc = true) (hlen : recs.length = ops.length) (hind : indepOk ops anc recs = true) (hfin : Q .normal (mkS s (fun _ => true) ops recs))
  (hstep : ∀ i o r, ops[i]? = some o → recs[i]? = some r → dstOk o.dst s.n = true ∧ StepOk C P ops (mkS s (fun k => memL k (ancAt anc i)) ops (recs.take i)) o r.2 (s.nx + 8 * i) r.1) :
  ∀ (fuel : Nat) (listed : Array Bool) (a : Act) (w : World) (m : Nat → Option (Option Nat × Nat)), listed.size = ops.length → cntF (fun i => listed.getD i false) ops.length = fuel → (∀ i o, ops[i]? = some o → listed.getD i false = true → ∀ d, d ∈ deps o → listed.getD d false = true) →
   RelM C (UL s ops.length (fun i => listed.getD i false)) (mkS s (fun i => listed.getD i false) ops recs) a w m → wpAny P .any ops.toArray (Qc C Q) fuel listed a w := by
 have hready : ∀ (listed : Array Bool), listed.size = ops.length → ∀ i, i ∈ Region.ready .any ops.toArray listed ↔ ∃ o, ops[i]? = some o ∧ listed.getD i false = false ∧ ∀ d, d ∈ deps o → listed.getD d false = true := by
  intro listed hsz i
  rw [mem_ready]
  have hg : ∀ i, i < ops.length → listed.getD i true = listed.getD i false := fun i hi => by simp [Array.getD_eq_getD_getElem?, show i < listed.size by omega]
  constructor
  ·rintro ⟨h0, o, ho, hall⟩
   have ho' : ops[i]? = some o := by simpa using ho
   refine ⟨o, ho', by rw [← hg i (List.getElem?_eq_some_iff.1 ho').1]; exact h0, fun d hd => ?_⟩
   simp only [deps, List.mem_map, List.mem_filter] at hd
   obtain ⟨e, ⟨he, hb⟩, rfl⟩ := hd
   exact hall e (by simpa using he) hb
  ·rintro ⟨o, ho, h0, hall⟩
   refine ⟨by rw [hg i (List.getElem?_eq_some_iff.1 ho).1]; exact h0, o, by simpa using ho, fun e he hb => hall e.on ?_⟩
   simp only [deps, List.mem_map, List.mem_filter]
   exact ⟨e, ⟨by simpa using he, hb⟩, rfl⟩
 have hnone : ∀ (listed : Array Bool), listed.size = ops.length → Region.ready .any ops.toArray listed = [] → ∀ i, i < ops.length → listed.getD i false = true := by
  intro listed hsz hr i
  induction i using Nat.strongRecOn with
  | _ i ih =>
   intro hi
   cases hL : listed.getD i false with
   | true => rfl
   | false =>
    have ho := List.getElem?_eq_getElem hi
    have : i ∈ Region.ready .any ops.toArray listed := (hready listed hsz i).2 ⟨_, ho, hL, fun d hd => ih d (deps_lt hanc ho hd) (by have := deps_lt hanc ho hd; omega)⟩
    rw [hr] at this; cases this
 have hend : ∀ (listed : Array Bool) a w m, (∀ i, i < ops.length → listed.getD i false = true) → RelM C (UL s ops.length (fun i => listed.getD i false)) (mkS s (fun i => listed.getD i false) ops recs) a w m → Qc C Q .normal a w := by
  intro listed a w m hall hR
  refine ⟨mkS s (fun _ => true) ops recs, ⟨m, hR.weaken (s' := mkS s (fun _ => true) ops recs) rfl (fun t => .inr ?_) (fun id c hc => ?_) (fun j hj => .inl hj)⟩, hfin⟩
  ·show (getL t (goS _ 0 ops recs s.sl)).getD .dead = (getL t (goS _ 0 ops recs s.sl)).getD .dead
   rw [goS_same (L := fun _ => true) (L' := fun i => listed.getD i false) ops recs 0 s.sl s.sl (fun i o hi _ => by simp only [Nat.zero_add]; exact (hall i (List.getElem?_eq_some_iff.1 hi).1).symm) rfl]
  ·have : (mkS s (fun _ => true) ops recs).chunk id = (mkS s (fun i => listed.getD i false) ops recs).chunk id := by
    show (getL id (goC _ 0 ops recs s.ch)).getD none = (getL id (goC _ 0 ops recs s.ch)).getD none
    rw [goC_same (L := fun _ => true) (L' := fun i => listed.getD i false) ops recs 0 s.ch s.ch (fun i r hi _ => by simp only [Nat.zero_add]; exact (hall i (by have := (List.getElem?_eq_some_iff.1 hi).1; omega)).symm) rfl]
   rw [← this]; exact hc
 intro fuel
 induction fuel with
 | zero =>
  intro listed a w m hsz hcnt hcl hR
  have hall : ∀ i, i < ops.length → listed.getD i false = true := fun i hi => cntF_zero hcnt i hi
  refine ⟨?_, hend listed a w m hall hR⟩
  cases hr : Region.ready .any ops.toArray listed with
  | nil => rfl
  | cons i l =>
   obtain ⟨o, ho, h0, _⟩ := (hready listed hsz i).1 (by rw [hr]; simp)
   rw [hall i (List.getElem?_eq_some_iff.1 ho).1] at h0; cases h0
 | succ fuel ih =>
  intro listed a w m hsz hcnt hcl hR
  refine ⟨fun hr => hend listed a w m (hnone listed hsz hr) hR, fun i hi => ?_⟩
  obtain ⟨o, ho, h0, hd⟩ := (hready listed hsz i).1 hi
  have hil := (List.getElem?_eq_some_iff.1 ho).1
  obtain ⟨r, hr⟩ : ∃ r, recs[i]? = some r := ⟨_, List.getElem?_eq_getElem (by omega)⟩
  obtain ⟨hdst, hst⟩ := hstep i o r ho hr
  have hanci : ∀ j, j ∈ ancAt anc i → listed.getD j false = true := anc_in (L := fun i => listed.getD i false) hanc hcl (i + 1) i o (by omega) ho hd
  have hdesc : ∀ j, j < ops.length → i ∈ ancAt anc j → listed.getD j false = false := by
   intro j hj hij
   cases hL : listed.getD j false with
   | false => rfl
   | true =>
    have hoj := List.getElem?_eq_getElem hj
    have := anc_in (L := fun i => listed.getD i false) hanc hcl (j + 1) j _ (by omega) hoj (hcl j _ hoj hL) i hij
    rw [h0] at this; cases this
  have hL' : ∀ j, (listed.setIfInBounds i true).getD j false = (listed.getD j false || j == i) := by
   intro j
   by_cases hj : j = i
   ·subst hj; simp [Array.getD_eq_getD_getElem?, show j < listed.size by omega]
   ·simp [Array.getD_eq_getD_getElem?, Array.getElem?_setIfInBounds_ne (Ne.symm hj), hj]
  have hlt : ∀ k, memL k (ancAt anc i) = true → k < i := fun k hk => anc_lt hanc hil (memL_iff.1 hk)
  have hsame : ∀ k, k < ops.length → (k ∉ ancAt anc i → i ∉ ancAt anc k → k ≠ i → False) → listed.getD k false = memL k (ancAt anc i) := by
   intro k hkl hex
   by_cases hka : k ∈ ancAt anc i
   ·rw [hanci k hka]; exact (memL_iff.2 hka).symm
   ·have e1 : memL k (ancAt anc i) = false := memL_not.2 hka
    rw [e1]
    by_cases hki : k = i
    ·subst hki; exact h0
    ·by_cases hik : i ∈ ancAt anc k
     ·exact hdesc k hkl hik
     ·exact (hex hka hik hki).elim
  have hagr : AgrT ops r.2 o (mkS s (fun k => memL k (ancAt anc i)) ops (recs.take i)) (mkS s (fun i => listed.getD i false) ops recs) := by
   refine ⟨rfl, fun t ht => ?_, fun id hid => ?_⟩
   ·show (getL t (goS _ 0 ops recs s.sl)).getD .dead = (getL t (goS _ 0 ops (recs.take i) s.sl)).getD .dead
    have := goS_cut hlt ops recs 0 s.sl
    rw [Nat.sub_zero] at this
    rw [this, goS_same (L := fun i => listed.getD i false) (L' := fun k => memL k (ancAt anc i)) ops recs 0 s.sl s.sl (fun k ok hk hdk => ?_) rfl]
    simp only [Nat.zero_add]
    have hkl := (List.getElem?_eq_some_iff.1 hk).1
    refine hsame k hkl (fun hka hik hki => ?_)
    obtain ⟨rk, hrk⟩ : ∃ rk, recs[k]? = some rk := ⟨_, List.getElem?_eq_getElem (by omega)⟩
    exact absurd ht ((indep_of hind ho hk hr hrk (Ne.symm hki) hka hik).1 t hdk).1
   ·show (getL id (goC _ 0 ops recs s.ch)).getD none = (getL id (goC _ 0 ops (recs.take i) s.ch)).getD none
    have := goC_cut hlt ops recs 0 s.ch
    rw [Nat.sub_zero] at this
    rw [this, goC_same (L := fun i => listed.getD i false) (L' := fun k => memL k (ancAt anc i)) ops recs 0 s.ch s.ch (fun k rk hrk hdk => ?_) rfl]
    simp only [Nat.zero_add]
    have hkl : k < ops.length := by have := (List.getElem?_eq_some_iff.1 hrk).1; omega
    refine hsame k hkl (fun hka hik hki => ?_)
    exact absurd hid ((indep_of hind ho (List.getElem?_eq_getElem hkl) hr hrk (Ne.symm hki) hka hik).2 id (keysU_of hdk)).1
  have hnext : ∀ a' w' m', RelM C (UL s ops.length (fun j => (listed.setIfInBounds i true).getD j false)) ((mkS s (fun i => listed.getD i false) ops recs).app o.dst r.1) a' w' m' → wpAny P .any ops.toArray (Qc C Q) fuel (listed.setIfInBounds i true) a' w' := by
   intro a' w' m' hR'
   refine ih (listed.setIfInBounds i true) a' w' m' (by simpa using hsz) ?_ ?_ ?_
   ·have := (cntF_set (L := fun i => listed.getD i false) (L' := fun j => (listed.setIfInBounds i true).getD j false) (i := i) h0 (by simp only [hL']; simp) (fun j hj => by simp only [hL']; simp [hj]) ops.length).1 hil
    omega
   ·intro k ok hk hLk d hdd
    rw [hL'] at hLk ⊢
    simp only [Bool.or_eq_true, beq_iff_eq] at hLk ⊢
    rcases hLk with h | h
    ·exact .inl (hcl k ok hk h d hdd)
    ·subst h
     rw [ho] at hk
     obtain rfl : o = ok := by simpa using hk
     exact .inl (hd d hdd)
   ·have e1 : (fun j => (listed.setIfInBounds i true).getD j false) = (fun j => (fun k => listed.getD k false) j || j == i) := funext hL'
    refine hR'.weaken (by rw [ASt.n_app]; rfl) (fun t => .inr ?_) (fun id c hc => ?_) (fun j hj => hj)
    ·rw [ASt.get_app]
     show (getL t (goS (fun j => (listed.setIfInBounds i true).getD j false) 0 ops recs s.sl)).getD .dead = _
     rw [e1, goS_more (L := fun k => listed.getD k false) (i := i) (r0 := r) ops recs 0 s.sl o (Nat.zero_le _) (by simpa using ho) (by simpa using hr) (fun j oj hj hij hLj hdj hdi => ?_)]
     ·by_cases hdt : o.dst = some t
      ·rw [if_pos hdt, if_pos hdt]; rfl
      ·rw [if_neg hdt, if_neg hdt]; rfl
     ·rw [Nat.zero_add] at hij hLj
      have hjl := (List.getElem?_eq_some_iff.1 hj).1
      obtain ⟨rj, hrj⟩ : ∃ rj, recs[j]? = some rj := ⟨_, List.getElem?_eq_getElem (by omega)⟩
      by_cases hja : j ∈ ancAt anc i
      ·have := anc_lt hanc hil hja; omega
      ·by_cases hij2 : i ∈ ancAt anc j
       ·rw [hdesc j hjl hij2] at hLj; cases hLj
       ·exact ((indep_of hind ho hj hr hrj (by omega) hja hij2).1 t hdj).2 hdi
    ·rw [ASt.chunk_app]
     have hc2 : (getL id (goC (fun j => (listed.setIfInBounds i true).getD j false) 0 ops recs s.ch)).getD none = some c := hc
     rw [e1, goC_more (t := id) (L := fun k => listed.getD k false) (i := i) (r0 := r) ops recs 0 s.ch hlen.symm (Nat.zero_le _) (by simpa using hr) (fun j rj hrj hij hLj hdj => ?_)] at hc2
     ·cases hg : getL id r.1.ch with
      | some x => rw [hg] at hc2; simpa using hc2
      | none => rw [hg] at hc2; rw [Option.none_or] at hc2; exact hc2
     ·rw [Nat.zero_add] at hij hLj
      have hjl : j < ops.length := by have := (List.getElem?_eq_some_iff.1 hrj).1; omega
      by_cases hja : j ∈ ancAt anc i
      ·have := anc_lt hanc hil hja; omega
      ·by_cases hij2 : i ∈ ancAt anc j
       ·rw [hdesc j hjl hij2] at hLj; cases hLj
       ·exact keysU_none ((indep_of hind ho (List.getElem?_eq_getElem hjl) hr hrj (by omega) hja hij2).2 id (keysU_of hdj)).2
  have hU1 : ∀ k, k < 8 → UL s ops.length (fun i => listed.getD i false) (s.nx + 8 * i + k) := fun k hk => .inr ⟨i, hil, h0, by omega, by omega⟩
  have hU2 : ∀ j, UL s ops.length (fun j => (listed.setIfInBounds i true).getD j false) j → UL s ops.length (fun i => listed.getD i false) j ∧ (j < s.nx + 8 * i ∨ s.nx + 8 * i + 8 ≤ j) := by
   rintro j (hj | ⟨k, hk, hLk, h1, h2⟩)
   ·exact ⟨.inl hj, .inr (by omega)⟩
   ·have hLk' : (listed.getD k false || k == i) = false := by rw [← hL']; exact hLk
    simp only [Bool.or_eq_false_iff, beq_eq_false_iff_ne] at hLk'
    exact ⟨.inr ⟨k, hk, hLk'.1, h1, h2⟩, by omega⟩
  have hoa : ops.toArray[i]? = some o := by simpa using ho
  have hrun : NOpC C P r.2 (mkS s (fun k => memL k (ancAt anc i)) ops (recs.take i)) o (s.nx + 8 * i) r.1 → o.wp P a w (wpAny P .any ops.toArray (Qc C Q) fuel (listed.setIfInBounds i true)) (Qc C Q) := fun hn =>
   hn.run _ hagr.agr _ _ a w m hR hU1 hU2 hdst _ _ hnext
  have hyield : ∀ j t b, ((ops[j]?).bind (·.dst)) = some t → Nat.blt t s.n = true → (mkS s (fun i => listed.getD i false) ops recs).get t = aT b → yielded ops.toArray a.tmps j = some b := by
   intro j t b h1 h2 h3
   have := hR.sl t
   rw [h3] at this
   have hv := this.val_eq.1
   have hlt : t < a.tmps.size := by rw [hR.sz]; simpa [mkS] using h2
   have h4 : a.tmps[t]? = some (.bool b) := by
    rw [Array.getElem?_eq_getElem hlt]
    rw [Array.getD_eq_getD_getElem?, Array.getElem?_eq_getElem hlt] at hv
    simpa using hv
   simp [yielded, h1, h4]
  have hskip : r.1 = ⟨.und, []⟩ → wpAny P .any ops.toArray (Qc C Q) fuel (listed.setIfInBounds i true) (a.put o.dst undef) w := by
   intro hu
   refine hnext _ _ m ?_
   rw [hu]
   exact (hR.setSlot (x := .und) (v := undef) hdst .und).weaken rfl (fun _ => .inr rfl) (fun _ _ h => h) (fun j hj => (hU2 j hj).1)
  have hlook : ∀ j w t, o.guard = some (j, w) → ((ops[j]?).bind (·.dst)) = some t → t ∈ looksT ops o := by
   intro j w t h1 h2
   refine List.mem_append_right _ ?_
   rw [h1]; simp [h2]
  unfold wpOp
  rw [hoa]
  simp only
  cases hst with
  | free hg hn => rw [if_pos (by simp [Region.wanted, hg])]; exact .inl (hrun hn)
  | @yes j t b hg ht htn hs hn =>
   rw [if_pos (by simp [Region.wanted, hg, hyield j t b ht htn ((hagr.get t (hlook j b t hg ht)).trans hs)])]
   exact .inl (hrun hn)
  | @no j t b b' hg ht htn hs hb hu =>
   rw [if_neg (by simp [Region.wanted, hg, hyield j t b' ht htn ((hagr.get t (hlook j b t hg ht)).trans hs), hb])]
   exact hskip hu
  | @noU j t b hg ht hs hu =>
   have hux := hR.sl t
   rw [(hagr.get t (hlook j b t hg ht)).trans hs] at hux
   have hy : yielded ops.toArray a.tmps j = none := by
    generalize hv : a.tmps.getD t undef = v at hux
    cases hux
    have ht' : ((ops.toArray[j]?).bind (·.dst)) = some t := by simpa using ht
    unfold yielded
    rw [ht']
    rw [Array.getD_eq_getD_getElem?] at hv
    simp only [Option.bind_some]
    cases hq : a.tmps[t]? with
    | none => rfl
    | some v => rw [hq] at hv; simp only [Option.getD_some] at hv; subst hv; rfl
   rw [if_neg (by simp [Region.wanted, hg, hy])]
   exact hskip hu
theorem AC.drawn {id : Nat} (hm : P.follows .mixedOrders = true) (anc : List (List Nat)) (hanc : ancOk ops anc = true) (h : Dr C P ops anc s Q []) : ACode P C (.region id ops.toArray true) Q s := by
 refine ⟨fun a w hR => ?_⟩
 obtain ⟨m, hR⟩ := hR
 obtain ⟨full, _, g2, g3, g4, g5⟩ := h.all
 refine wp_region_any hm ?_
 have hrep : ∀ i, (Array.replicate ops.toArray.size false).getD i false = false := fun i => by
  simp only [Array.getD_eq_getD_getElem?, Array.getElem?_replicate]
  split <;> rfl
 have e1 : (fun i => (Array.replicate ops.toArray.size false).getD i false) = (fun _ => false) := funext hrep
 refine dr_any (recs := full) (anc := anc) hanc g2 g3 g4 (fun i o r ho hr => g5 i o r (Nat.zero_le _) ho hr) ops.toArray.size _ a _ m (by simp) (by rw [e1, cntF_full _ (fun _ => rfl)]; simp) (fun i o _ h => by rw [hrep] at h; cases h) ?_
 rw [e1]
 have hS : ∀ (os : List Oper) (rs : List ORec) (k : Nat) (x : List (Nat × AV)), goS (fun _ => false) k os rs x = x := by
  intro os
  induction os with
  | nil => intro rs k x; simp [goS]
  | cons o os ih => intro rs k x; cases rs <;> simp [goS, ih]
 have hC : ∀ (os : List Oper) (rs : List ORec) (k : Nat) (x : List (Nat × Option Chunk)), goC (fun _ => false) k os rs x = x := by
  intro os
  induction os with
  | nil => intro rs k x; simp [goC]
  | cons o os ih => intro rs k x; cases rs <;> simp [goC, ih]
 have := hR.drewN 1
 refine RelM.weaken (s := s) (U := fun id => s.nx ≤ id) (w := { w with drawn := w.drawn + 1 }) this rfl (fun t => .inr ?_) (fun id c hc => ?_) (fun j hj => ?_)
 ·show (getL t (goS _ 0 ops full s.sl)).getD .dead = _
  rw [hS]; rfl
 ·have h2 : (getL id (goC (fun _ => false) 0 ops full s.ch)).getD none = some c := hc
  rw [hC] at h2; exact h2
 ·rcases hj with h | ⟨i, _, _, h1, _⟩
  ·show s.nx ≤ j; omega
  ·show s.nx ≤ j; omega
structure DF (C : Ctx) (P : Program) (ops : List Oper) (anc : List (List Nat)) (s : ASt) (Q : Exit → ASt → Prop) (rest : List Oper) (l : List FRec) : Prop where
 dr : FOk ops l → ops.drop l.length = rest → Dr C P ops anc s Q (fwd l)
theorem DF.fin {ps : List (Nat × Nat)} (n : Nat) (hn : Nat.beq ops.length n = true) (h1 : coverOk n anc ps = true) (h2 : slotOk ops ps = true) (h3 : idsF l ps = true) (h : Q .normal (mkAll s n l)) : DF C P ops anc s Q [] l := by
 refine ⟨fun hf hr => ?_⟩
 have hn : ops.length = n := by simpa using hn
 subst hn
 have hle : ops.length ≤ l.length := by simpa using hr
 have hle2 : l.length ≤ ops.length := by
  cases l with
  | nil => exact Nat.zero_le _
  | cons f l =>
   obtain ⟨i, d, u, ids⟩ := f
   obtain ⟨rfl, ⟨o, ho, _⟩, _⟩ := hf
   exact (List.getElem?_eq_some_iff.1 ho).1
 have hlen : l.length = ops.length := by omega
 refine Dr.done (by rw [fwd_len, hlen]; simp) (indep_parts h1 h2 (idsF_ok hf hlen h2 h3)) ?_
 have : mkS s (fun _ => true) ops (fwd l) = mkAll s ops.length l := by simp [mkS, mkAll, goS_A hf, goC_A hf]
 rw [this]; exact h
theorem DF.op {rest : List Oper} {o : Oper} (i : Nat) (row : List Nat) {ids : List Nat} {u : Upd} (n : Nat) (hi : Nat.beq l.length i = true) (hn : Nat.beq ops.length n = true) (hrow : ancAt anc i = row) (hst : StepOk C P ops (mkF s n row l) o ids (s.nx + 8 * i) u) (hd : dstOk o.dst s.n = true) (h : DF C P ops anc s Q rest ((i, o.dst, u, ids) :: l)) : DF C P ops anc s Q (o :: rest) l := by
 refine ⟨fun hf hr => ?_⟩
 have hi : l.length = i := by simpa using hi
 have hn : ops.length = n := by simpa using hn
 subst hi; subst hn
 have ho : ops[l.length]? = some o := by
  have := congrArg (fun x => x[0]?) hr
  simpa using this
 have hr' : ops.drop (l.length + 1) = rest := by
  have := congrArg List.tail hr
  simpa using this
 have h1 := h.dr ⟨rfl, ⟨o, ho, rfl⟩, hf⟩ hr'
 rw [fwd_cons] at h1
 refine Dr.op (by rw [fwd_len]; exact ho) ?_ hd h1
 rw [fwd_len]
 have : mkS s (fun k => memL k (ancAt anc l.length)) ops (fwd l) = mkF s ops.length row l := by rw [hrow]; simp [mkS, mkF, goS_F row hf, goC_F row hf]
 rw [this]; exact hst
theorem DF.caseD {rest : List Oper} (j : Nat) {p : Prop} [Decidable p] (h : getF j l = some (aT (decide p))) (hT : p → DF C P ops anc s Q rest (setF j (aT true) l)) (hF : ¬ p → DF C P ops anc s Q rest (setF j (aT false) l)) : DF C P ops anc s Q rest l := by
 by_cases hp : p
 ·have := hT hp; rwa [setF_same (by rw [h]; simp [hp])] at this
 ·have := hF hp; rwa [setF_same (by rw [h]; simp [hp])] at this
theorem DF.caseB {rest : List Oper} (j : Nat) {b : Bool} (h : getF j l = some (aT b)) (hT : b = true → DF C P ops anc s Q rest (setF j (aT true) l)) (hF : b = false → DF C P ops anc s Q rest (setF j (aT false) l)) : DF C P ops anc s Q rest l := by
 cases b
 ·have := hF rfl; rwa [setF_same h] at this
 ·have := hT rfl; rwa [setF_same h] at this
theorem AC.drawn' {id : Nat} (hm : P.follows .mixedOrders = true) (anc : List (List Nat)) (hanc : ancOk ops anc = true) (h : DF C P ops anc s Q ops []) : ACode P C (.region id ops.toArray true) Q s := AC.drawn hm anc hanc (h.dr trivial rfl)
end Inv
end Go.Proofs.YtmacodlgmebikaaGreatDoor
