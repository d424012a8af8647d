/- Contracts of the functions of the program and of the reference, each proved by a walk through its code. -/
import Derived.WalkKit
import Derived.WalkSpells
import Derived.WalkLawsBesides
import Derived.Deep.Draws
import Derived.Lib.Hide
import Derived.Maps.AppendAt
import Derived.OwnWalk
import Derived.Deep.MidRow
import Derived.Laws.ResultCell
import Derived.Deep.Upon
import Derived.Great.FillDense
import Derived.Laws.Tables
import Derived.Laws.BytesArg
import Derived.Laws.MakeOwn
import Derived.Great.BuildSlice
import Derived.ArgAppend
import Derived.Deep.AppendSrc
import Derived.Test.YtjejbpeedblclaaProg
import Derived.KernelRfl
import Derived.Orders
import Derived.Laws.IdiomStrings
import Derived.Lib.AppendZerosOnto
import Derived.ProofKit
import Derived.OpenShut
import Derived.Lib.SliceRun
import Derived.Laws.StructEq
import Derived.ChangeKeysEq
import Derived.Sort.Grow
import Derived.Laws.RangeString
import Derived.Below
import Derived.Laws.Small
import Derived.Laws.IdiomCopy
import Derived.Test.YtjejbpeedblclaaGMi6
set_option linter.all false
set_option maxRecDepth 20000
namespace Go.Proofs.Ytjejbpeedblclaa
open Go.RowKit
def sig0 (s : Stg) : Sig := s.sigs.getD 0 ⟨[], 0⟩
def lab0 (s : Stg) : Lab := s.labs.getD 0 ⟨0, false⟩
def badSig (i : Int) : Int := if i = 0 then -1 else if i = 1 then -2 else 8
def badName (i : Int) : List UInt8 := if i = 0 then [] else if i = 1 then [65] else if i = 2 then [97, 98, 99, 100, 101, 102, 103] else [49, 97]
def badKind (i : Int) : Int := if i = 0 then 0 else if i = 1 then 4 else 3
def turnS (g : Stg) (p : Int × Cur) : Stg × Cur :=
 if p.1 = 0 then ({ g with start := (p.2.spoilt g.start [48, 49, 50]).1 }, (p.2.spoilt g.start [48, 49, 50]).2)
 else if p.1 = 1 then ({ g with labs := g.labs.set 0 ⟨badSig (p.2.pick 3).1, (lab0 g).up⟩ }, (p.2.pick 3).2)
 else if p.1 = 2 then ({ g with sigs := g.sigs.set 0 ⟨badName (p.2.pick 4).1, (sig0 g).kind⟩ }, (p.2.pick 4).2)
 else if p.1 = 3 then ({ g with sigs := g.sigs.set 0 ⟨(sig0 g).name, badKind (p.2.pick 3).1⟩ }, (p.2.pick 3).2)
 else if p.1 = 4 then ({ g with labs := g.labs.drop 1 }, p.2)
 else (g, p.2)
def anyI (c : Cur) : Stg × Cur := turnS (stgI c).1 ((stgI c).2.pick 30)
theorem bad3 (c : Cur) (f : Int → Int) (a b d : Int) (hf : ∀ i, f i = if i = 0 then a else if i = 1 then b else d) : ([[dI a], [dI b], [dI d]] : List (List DV))[(c.pick 3).1.toNat]? = some [dI (f (c.pick 3).1)] := by
 have hc := c.pick_in 3 (by decide)
 rw [hf]
 have h : (c.pick 3).1 = 0 ∨ (c.pick 3).1 = 1 ∨ (c.pick 3).1 = 2 := by omega
 rcases h with h | h | h <;> rw [h] <;> rfl
theorem badN (c : Cur) : ([[dS (bstr [])], [dS (bstr [65])], [dS (bstr [97, 98, 99, 100, 101, 102, 103])], [dS (bstr [49, 97])]] : List (List DV))[(c.pick 4).1.toNat]? = some [dS (bstr (badName (c.pick 4).1))] := by
 have hc := c.pick_in 4 (by decide)
 unfold badName
 have h : (c.pick 4).1 = 0 ∨ (c.pick 4).1 = 1 ∨ (c.pick 4).1 = 2 ∨ (c.pick 4).1 = 3 := by omega
 rcases h with h | h | h | h <;> rw [h] <;> rfl
theorem mem_set0 {α : Type} {l : List α} {x y : α} (h : y ∈ l.set 0 x) : y ∈ l ∨ y = x := List.mem_or_eq_of_mem_set h
theorem turnS_in (g : Stg) (hg : okS g = true) (p : Int × Cur) : StgS (turnS g p).1 ∧ (turnS g p).2.pos ≤ p.2.pos + 20 ∧ (turnS g p).2.code = p.2.code := by
 obtain ⟨h, h1, h2⟩ := okS_S hg
 have s1 := p.2.spoilt_in g.start [48, 49, 50]
 have p3 := p.2.pick_pos 3
 have p4 := p.2.pick_pos 4
 have k3 := p.2.pick_code 3
 have k4 := p.2.pick_code 4
 have hbs : ∀ i, -10 ≤ badSig i ∧ badSig i ≤ 10 := fun i => by unfold badSig; split; omega; split <;> omega
 have hbn : ∀ i, (badName i).length ≤ 10 := fun i => by unfold badName; split; decide; split; decide; split <;> decide
 have hs0 : (sig0 g).name.length ≤ 10 := by
  unfold sig0
  rw [List.getD_eq_getElem?_getD, List.getElem?_eq_getElem (show 0 < g.sigs.length from h.s0)]
  exact h.sn _ (List.getElem_mem _)
 unfold turnS
 split
 ·exact ⟨⟨h.p, h.tl, h.t, h.s0, h.sl, h.sn, h.ll, h.lb, by dsimp only; omega⟩, by dsimp only; omega, s1.2.2⟩
 split
 ·exact ⟨⟨h.p, h.tl, h.t, h.s0, h.sl, h.sn, by rw [List.length_set]; exact h.ll, (fun x hx => by
   rcases mem_set0 hx with hx | rfl
   ·exact h.lb x hx
   ·exact hbs _), h.st⟩, by dsimp only; omega, k3⟩
 split
 ·exact ⟨⟨h.p, h.tl, h.t, by rw [List.length_set]; exact h.s0, by rw [List.length_set]; exact h.sl, (fun x hx => by
   rcases mem_set0 hx with hx | rfl
   ·exact h.sn x hx
   ·exact hbn _), h.ll, h.lb, h.st⟩, by dsimp only; omega, k4⟩
 split
 ·exact ⟨⟨h.p, h.tl, h.t, by rw [List.length_set]; exact h.s0, by rw [List.length_set]; exact h.sl, (fun x hx => by
   rcases mem_set0 hx with hx | rfl
   ·exact h.sn x hx
   ·exact hs0), h.ll, h.lb, h.st⟩, by dsimp only; omega, k3⟩
 split
 ·exact ⟨⟨h.p, h.tl, h.t, h.s0, h.sl, h.sn, by rw [List.length_drop]; have := h.ll; omega, fun x hx => h.lb x (List.mem_of_mem_drop hx), h.st⟩, by dsimp only; omega, rfl⟩
 ·exact ⟨h, by dsimp only; omega, rfl⟩
theorem anyI_in (c : Cur) : StgS (anyI c).1 ∧ (anyI c).2.pos ≤ c.pos + 30 ∧ (anyI c).2.code = c.code := by
 have h := stgI_in c
 have h1 := (stgI c).2.pick_pos 30
 have h2 := (stgI c).2.pick_code 30
 have h3 := turnS_in (stgI c).1 h.1 ((stgI c).2.pick 30)
 exact ⟨h3.1, by have := h3.2.1; show (turnS _ _).2.pos ≤ _; omega, h3.2.2.trans (h2.trans h.2.2)⟩
theorem anyI_ts (c : Cur) : 1 ≤ (anyI c).1.net.ts.length := by
 have h := okS_ts (stgI_in c).1
 have e : (anyI c).1.net = (stgI c).1.net := by
  unfold anyI turnS
  split
  ·rfl
  ·split
   ·rfl
   ·split
    ·rfl
    ·split
     ·rfl
     ·split <;> rfl
 rw [e]; exact h
abbrev stgR (s : Stg) (j : Nat) : AV := .agg [aI s.net.places, .d (vTs s.net.ts), .own j s.sigs.length, .d (vLabs s.labs), aS (bstr s.start)]
set_option maxHeartbeats 8000000 in
theorem anyStg_spec (c : Cur) (hp : c.pos ≤ 1000000) : ASpec Try.prog 28 [.ptr 0 0] [(0, curC c)] (Fun1 (stgR (anyI c).1 1) [(0, curC (anyI c).2), (1, .arr 58 2 (sigsL (anyI c).1.sigs))]) := by
 have hG := stg_spec c (by omega)
 have hgi := stgI_in c
 have hA : anyI c = turnS (stgI c).1 ((stgI c).2.pick 30) := rfl
 obtain ⟨g, hg⟩ : ∃ g, g = stgI c := ⟨_, rfl⟩
 rw [← hg] at hG hgi hA
 have hpk := g.2.pick_pos 30
 have hK := pick_spec g.2 30 (by decide) (by omega)
 obtain ⟨p, hpp⟩ : ∃ p, p = g.2.pick 30 := ⟨_, rfl⟩
 rw [← hpp] at hK hA hpk
 obtain ⟨hs, hl0, hst⟩ := okS_S hgi.1
 have hs0 := hs.s0
 have hsl := hs.sl
 have hll := hs.ll
 have hsp := spoilt_spec p.2 g.1.start [48, 49, 50] (by omega) (by decide) (by decide) (by omega)
 have ha1 := am_spec p.2 [[dI (-1)], [dI (-2)], [dI 8]] (badSig (p.2.pick 3).1) (by decide) (by decide) (by omega) (bad3 p.2 badSig _ _ _ (fun _ => rfl))
 have ha2 := of_spec p.2 [[dS (bstr [])], [dS (bstr [65])], [dS (bstr [97, 98, 99, 100, 101, 102, 103])], [dS (bstr [49, 97])]] (bstr (badName (p.2.pick 4).1)) (by decide) (by decide) (by omega) (badN p.2)
 have ha3 := am_spec p.2 [[dI 0], [dI 4], [dI 3]] (badKind (p.2.pick 3).1) (by decide) (by decide) (by omega) (bad3 p.2 badKind _ _ _ (fun _ => rfl))
 have hT : turnS g.1 p = if p.1 = 0 then ({ g.1 with start := (p.2.spoilt g.1.start [48, 49, 50]).1 }, (p.2.spoilt g.1.start [48, 49, 50]).2)
  else if p.1 = 1 then ({ g.1 with labs := g.1.labs.set 0 ⟨badSig (p.2.pick 3).1, (lab0 g.1).up⟩ }, (p.2.pick 3).2)
  else if p.1 = 2 then ({ g.1 with sigs := g.1.sigs.set 0 ⟨badName (p.2.pick 4).1, (sig0 g.1).kind⟩ }, (p.2.pick 4).2)
  else if p.1 = 3 then ({ g.1 with sigs := g.1.sigs.set 0 ⟨(sig0 g.1).name, badKind (p.2.pick 3).1⟩ }, (p.2.pick 3).2)
  else if p.1 = 4 then ({ g.1 with labs := g.1.labs.drop 1 }, p.2)
  else (g.1, p.2) := rfl
 rw [← hA] at hT
 obtain ⟨A, hAA⟩ : ∃ A, A = anyI c := ⟨_, rfl⟩
 rw [← hAA] at hT ⊢
 obtain ⟨G, cg⟩ := g
 obtain ⟨pi, pc⟩ := p
 dsimp only at *
 obtain ⟨N, sg, lb, st⟩ := G
 dsimp only at *
 obtain ⟨x0, sg', rfl⟩ : ∃ x r, sg = x :: r := by cases sg with | nil => simp at hs0 | cons a b => exact ⟨a, b, rfl⟩
 obtain ⟨y0, lb', rfl⟩ : ∃ x r, lb = x :: r := by cases lb with | nil => simp at hl0 | cons a b => exact ⟨a, b, rfl⟩
 have hls : (x0 :: sg').length = sg'.length + 1 := rfl
 have hlb : (y0 :: lb').length = lb'.length + 1 := rfl
 clear hAA hA hs hgi hg hpp hs0 hl0
 refine ASpec.of Try.func28 rfl rfl fun C hC => ?_
 refine AC.seq (AC.region ?_)
 refine AL.q (by exact h_alloc rfl) rfl ?_
 refine AL.nil (th_n (AC.seq (AC.region ?_)))
 refine AL.p (by exact mv3 rfl) rfl ?_
 refine AL.q (by exact h_fun (cs := [0]) en_stg rfl rfl (by repeat (first | exact rfl | refine ⟨_, _, rfl, ?_, ?_⟩ | refine ⟨_, rfl, ?_⟩)) (by repeat (first | exact True.intro | refine And.intro ?_ ?_ | exact DLead.same | exact rfl | refine ⟨_, _, rfl, rfl, ?_⟩ | refine ⟨_, rfl, ?_⟩ | refine ⟨_, _, rfl, ?_, ?_⟩)) hG rfl rfl rfl rfl) rfl ?_
 refine AL.q (by exact h_alloc rfl) rfl ?_
 refine AL.q (by exact h_store rfl rfl rfl rfl rfl rfl) rfl ?_
 refine AL.nil (th_n ?_)
 refine AC.cut (fun (x : Stg × Cur) => ⟨49, 300, [(2, .ptr 201 0), (3, .ptr 200 0)], [(0, some (curC x.2)), (200, some (.cells 30 [aI x.1.net.places, .d (vTs x.1.net.ts), .own 101 x.1.sigs.length, .d (vLabs x.1.labs), aS (bstr x.1.start)])), (101, some (.arr 58 2 (sigsL x.1.sigs))), (201, some (.cells 30 zStg))]⟩) (fun x => x = A) ?_ ?_
 ·refine AC.seq (AC.region ?_)
  refine AL.p (by exact mv3 rfl) rfl ?_
  refine AL.q (by exact h_fun (cs := [0]) en_pick rfl rfl (by repeat (first | exact rfl | exact DLead.same | refine ⟨_, _, rfl, ?_, ?_⟩ | refine ⟨_, rfl, ?_⟩)) (by repeat (first | exact True.intro | refine And.intro ?_ ?_ | exact DLead.same | exact rfl | refine ⟨_, _, rfl, rfl, ?_⟩ | refine ⟨_, rfl, ?_⟩ | refine ⟨_, _, rfl, ?_, ?_⟩)) hK rfl rfl rfl rfl) rfl ?_
  refine AL.nil (th_n (AC.block (AC.seq (AC.region ?_))))
  refine AL.p (by exact g_cmp rfl rfl rfl) rfl ?_
  refine AL.p (by exact as1 rfl) rfl ?_
  refine AL.nil (th_n ?_)
  refine AC.condD rfl (fun h0 => ?_) (fun h0 => ?_)
  ·refine AC.region ?_
   refine AL.p (by exact mv3 rfl) rfl ?_
   refine AL.p (by exact g_fa_ptr rfl rfl rfl rfl rfl) rfl ?_
   refine AL.p (by exact g_load_ptr rfl rfl rfl rfl rfl) rfl ?_
   refine AL.q (by exact h_fun (cs := [0]) en_spoilt rfl rfl (by repeat (first | exact rfl | exact DLead.same | refine ⟨_, _, rfl, ?_, ?_⟩ | refine ⟨_, rfl, ?_⟩)) (by repeat (first | exact True.intro | refine And.intro ?_ ?_ | exact DLead.same | exact rfl | refine ⟨_, _, rfl, rfl, ?_⟩ | refine ⟨_, rfl, ?_⟩ | refine ⟨_, _, rfl, ?_, ?_⟩)) hsp rfl rfl rfl rfl) rfl ?_
   refine AL.p (by exact g_fa_ptr rfl rfl rfl rfl rfl) rfl ?_
   refine AL.q (by exact h_store rfl rfl rfl rfl rfl rfl) rfl ?_
   refine AL.nil (ib_n (th_n ?_))
   (have e := hT.trans (if_pos h0); exact ⟨A, rfl, (Weak.freezeP 3 3 rfl rfl rfl rfl (ownl _ _) (ownt _ _) rfl).trans (Weak.ren _ [(200, _), (101, _), (201, _)] hC rfl (by repeat (first | exact True.intro | refine And.intro ?_ ?_ | exact rfl | refine ⟨_, rfl, ?_⟩)) (by rw [e]; repeat (first | exact True.intro | refine And.intro ?_ ?_ | exact DLead.same | exact rfl | refine ⟨_, _, rfl, rfl, ?_⟩ | refine ⟨_, rfl, ?_⟩ | refine ⟨_, _, rfl, ?_, ?_⟩)) rfl rfl rfl)⟩)
  ·refine AC.seq (AC.region ?_)
   refine AL.p (by exact g_cmp rfl rfl rfl) rfl ?_
   refine AL.p (by exact as1 rfl) rfl ?_
   refine AL.nil (th_n ?_)
   refine AC.condD rfl (fun h1 => ?_) (fun h1 => ?_)
   ·refine AC.drawn' mixed_ok [[], [0], [], [], [2,3], [0,1,2,3,4], [0,1,2,3,4,5], [0,1,2,3,4,5,6]] (by decide) ?_
    refine DF.op 0 [] 8 rfl rfl rfl (.free rfl (NOp.of (by exact g_fa_ptr rfl rfl rfl rfl rfl))) rfl ?_
    refine DF.op 1 [0] 8 rfl rfl rfl (.free rfl (NOp.of (by exact g_load_ptr rfl rfl rfl rfl rfl))) rfl ?_
    refine DF.op 2 [] 8 rfl rfl rfl (.free rfl (NOp.of (by exact mv3 rfl))) rfl ?_
    refine DF.op 3 [] 8 rfl rfl rfl (.free rfl (by exact h_litF rfl rfl rfl rfl rfl rfl rfl rfl)) rfl ?_
    refine DF.op 4 [2,3] 8 rfl rfl rfl (.free rfl (by exact h_fun (cs := [0]) en_among rfl rfl (by repeat (first | exact rfl | exact DLead.same | refine ⟨_, _, rfl, ?_, ?_⟩ | refine ⟨_, rfl, ?_⟩)) (by repeat (first | exact True.intro | refine And.intro ?_ ?_ | exact DLead.same | exact rfl | refine ⟨_, _, rfl, rfl, ?_⟩ | refine ⟨_, rfl, ?_⟩ | refine ⟨_, _, rfl, ?_, ?_⟩)) ha1 rfl rfl rfl rfl)) rfl ?_
    refine DF.op 5 [0,1,2,3,4] 8 rfl rfl rfl (.free rfl (NOp.of (by exact g_ia_own (i := 0) (l := (y0 :: lb').length) rfl rfl rfl rfl rfl rfl (by omega) rfl))) rfl ?_
    refine DF.op 6 [0,1,2,3,4,5] 8 rfl rfl rfl (.free rfl (NOp.of (by exact g_fa_ptr rfl rfl rfl rfl rfl))) rfl ?_
    refine DF.op 7 [0,1,2,3,4,5,6] 8 rfl rfl rfl (.free rfl (by exact h_store_arr (i := 0) (j := 0) (cs := labD y0) (d := dI (badSig (pc.pick 3).1)) rfl rfl rfl rfl .same rfl rfl (by decide))) rfl ?_
    refine DF.fin (ps := [(0,2),(0,3),(0,4),(1,2),(1,3),(1,4),(2,0),(2,1),(2,3),(3,0),(3,1),(3,2),(4,0),(4,1)]) 8 rfl (by decide +kernel) (by decide +kernel) (by rfl) ?_
    refine ib_n (th_n ?_)
    (have e := hT.trans ((if_neg h0).trans (if_pos h1)); exact ⟨A, rfl, (Weak.freezeP 3 3 rfl rfl rfl rfl (by simp) (List.take_of_length_le (by simp)) rfl).trans (Weak.ren _ [(200, _), (101, _), (201, _)] hC rfl (by repeat (first | exact True.intro | refine And.intro ?_ ?_ | exact rfl | refine ⟨_, rfl, ?_⟩)) (by rw [e]; repeat (first | exact True.intro | refine And.intro ?_ ?_ | exact DLead.same | exact rfl | refine ⟨_, _, rfl, rfl, ?_⟩ | refine ⟨_, rfl, ?_⟩ | refine ⟨_, _, rfl, ?_, ?_⟩)) rfl rfl rfl)⟩)
   ·refine AC.seq (AC.region ?_)
    refine AL.p (by exact g_cmp rfl rfl rfl) rfl ?_
    refine AL.p (by exact as1 rfl) rfl ?_
    refine AL.nil (th_n ?_)
    refine AC.condD rfl (fun h2 => ?_) (fun h2 => ?_)
    ·refine AC.drawn' mixed_ok [[], [0], [], [], [2,3], [0,1,2,3,4], [0,1,2,3,4,5], [0,1,2,3,4,5,6]] (by decide) ?_
     refine DF.op 0 [] 8 rfl rfl rfl (.free rfl (NOp.of (by exact g_fa_ptr rfl rfl rfl rfl rfl))) rfl ?_
     refine DF.op 1 [0] 8 rfl rfl rfl (.free rfl (NOp.of (by exact g_load_ptr rfl rfl rfl rfl rfl))) rfl ?_
     refine DF.op 2 [] 8 rfl rfl rfl (.free rfl (NOp.of (by exact mv3 rfl))) rfl ?_
     refine DF.op 3 [] 8 rfl rfl rfl (.free rfl (by exact h_litF rfl rfl rfl rfl rfl rfl rfl rfl)) rfl ?_
     refine DF.op 4 [2,3] 8 rfl rfl rfl (.free rfl (by exact h_fun (cs := [0]) en_of rfl rfl (by repeat (first | exact rfl | exact DLead.same | refine ⟨_, _, rfl, ?_, ?_⟩ | refine ⟨_, rfl, ?_⟩)) (by repeat (first | exact True.intro | refine And.intro ?_ ?_ | exact DLead.same | exact rfl | refine ⟨_, _, rfl, rfl, ?_⟩ | refine ⟨_, rfl, ?_⟩ | refine ⟨_, _, rfl, ?_, ?_⟩)) ha2 rfl rfl rfl rfl)) rfl ?_
     refine DF.op 5 [0,1,2,3,4] 8 rfl rfl rfl (.free rfl (NOp.of (by exact g_ia_own (i := 0) (l := (x0 :: sg').length) rfl rfl rfl rfl rfl rfl (by omega) rfl))) rfl ?_
     refine DF.op 6 [0,1,2,3,4,5] 8 rfl rfl rfl (.free rfl (NOp.of (by exact g_fa_ptr rfl rfl rfl rfl rfl))) rfl ?_
     refine DF.op 7 [0,1,2,3,4,5,6] 8 rfl rfl rfl (.free rfl (by exact h_store_arr (i := 0) (j := 0) (cs := sigD x0) (d := dS (bstr (badName (pc.pick 4).1))) rfl rfl rfl rfl .same rfl rfl (by decide))) rfl ?_
     refine DF.fin (ps := [(0,2),(0,3),(0,4),(1,2),(1,3),(1,4),(2,0),(2,1),(2,3),(3,0),(3,1),(3,2),(4,0),(4,1)]) 8 rfl (by decide +kernel) (by decide +kernel) (by rfl) ?_
     refine ib_n (th_n ?_)
     (have e := hT.trans ((if_neg h0).trans ((if_neg h1).trans (if_pos h2))); exact ⟨A, rfl, (Weak.freezeP 3 3 rfl rfl rfl rfl (ownl _ _) (ownt _ _) rfl).trans (Weak.ren _ [(200, _), (101, _), (201, _)] hC rfl (by repeat (first | exact True.intro | refine And.intro ?_ ?_ | exact rfl | refine ⟨_, rfl, ?_⟩)) (by rw [e]; repeat (first | exact True.intro | refine And.intro ?_ ?_ | exact DLead.same | exact rfl | refine ⟨_, _, rfl, rfl, ?_⟩ | refine ⟨_, rfl, ?_⟩ | refine ⟨_, _, rfl, ?_, ?_⟩)) rfl rfl rfl)⟩)
    ·refine AC.seq (AC.region ?_)
     refine AL.p (by exact g_cmp rfl rfl rfl) rfl ?_
     refine AL.p (by exact as1 rfl) rfl ?_
     refine AL.nil (th_n ?_)
     refine AC.condD rfl (fun h3 => ?_) (fun h3 => ?_)
     ·refine AC.drawn' mixed_ok [[], [0], [], [], [2,3], [0,1,2,3,4], [0,1,2,3,4,5], [0,1,2,3,4,5,6]] (by decide) ?_
      refine DF.op 0 [] 8 rfl rfl rfl (.free rfl (NOp.of (by exact g_fa_ptr rfl rfl rfl rfl rfl))) rfl ?_
      refine DF.op 1 [0] 8 rfl rfl rfl (.free rfl (NOp.of (by exact g_load_ptr rfl rfl rfl rfl rfl))) rfl ?_
      refine DF.op 2 [] 8 rfl rfl rfl (.free rfl (NOp.of (by exact mv3 rfl))) rfl ?_
      refine DF.op 3 [] 8 rfl rfl rfl (.free rfl (by exact h_litF rfl rfl rfl rfl rfl rfl rfl rfl)) rfl ?_
      refine DF.op 4 [2,3] 8 rfl rfl rfl (.free rfl (by exact h_fun (cs := [0]) en_among rfl rfl (by repeat (first | exact rfl | exact DLead.same | refine ⟨_, _, rfl, ?_, ?_⟩ | refine ⟨_, rfl, ?_⟩)) (by repeat (first | exact True.intro | refine And.intro ?_ ?_ | exact DLead.same | exact rfl | refine ⟨_, _, rfl, rfl, ?_⟩ | refine ⟨_, rfl, ?_⟩ | refine ⟨_, _, rfl, ?_, ?_⟩)) ha3 rfl rfl rfl rfl)) rfl ?_
      refine DF.op 5 [0,1,2,3,4] 8 rfl rfl rfl (.free rfl (NOp.of (by exact g_ia_own (i := 0) (l := (x0 :: sg').length) rfl rfl rfl rfl rfl rfl (by omega) rfl))) rfl ?_
      refine DF.op 6 [0,1,2,3,4,5] 8 rfl rfl rfl (.free rfl (NOp.of (by exact g_fa_ptr rfl rfl rfl rfl rfl))) rfl ?_
      refine DF.op 7 [0,1,2,3,4,5,6] 8 rfl rfl rfl (.free rfl (by exact h_store_arr (i := 0) (j := 1) (cs := sigD x0) (d := dI (badKind (pc.pick 3).1)) rfl rfl rfl rfl .same rfl rfl (by decide))) rfl ?_
      refine DF.fin (ps := [(0,2),(0,3),(0,4),(1,2),(1,3),(1,4),(2,0),(2,1),(2,3),(3,0),(3,1),(3,2),(4,0),(4,1)]) 8 rfl (by decide +kernel) (by decide +kernel) (by rfl) ?_
      refine ib_n (th_n ?_)
      (have e := hT.trans ((if_neg h0).trans ((if_neg h1).trans ((if_neg h2).trans (if_pos h3)))); exact ⟨A, rfl, (Weak.freezeP 3 3 rfl rfl rfl rfl (ownl _ _) (ownt _ _) rfl).trans (Weak.ren _ [(200, _), (101, _), (201, _)] hC rfl (by repeat (first | exact True.intro | refine And.intro ?_ ?_ | exact rfl | refine ⟨_, rfl, ?_⟩)) (by rw [e]; repeat (first | exact True.intro | refine And.intro ?_ ?_ | exact DLead.same | exact rfl | refine ⟨_, _, rfl, rfl, ?_⟩ | refine ⟨_, rfl, ?_⟩ | refine ⟨_, _, rfl, ?_, ?_⟩)) rfl rfl rfl)⟩)
     ·refine AC.seq (AC.region ?_)
      refine AL.p (by exact g_cmp rfl rfl rfl) rfl ?_
      refine AL.p (by exact as1 rfl) rfl ?_
      refine AL.nil (th_n ?_)
      refine AC.condD rfl (fun h4 => ?_) (fun h4 => ?_)
      ·refine AC.region ?_
       refine AL.weak (Weak.freezeP 3 3 rfl rfl rfl rfl (ownl _ _) (ownt _ _) rfl) ?_
       refine AL.p (by exact g_fa_ptr rfl rfl rfl rfl rfl) rfl ?_
       refine AL.p (by exact g_load_ptr rfl rfl rfl rfl rfl) rfl ?_
       refine AL.p (by exact g_slice_view (r := labsL lb') (l := 1) (h := (labsL (y0 :: lb')).length) rfl rfl rfl rfl (.some rfl rfl) .none (by rw [labsL_len]; omega) (Nat.le_refl _) (by rw [List.take_length]; rfl)) rfl ?_
       refine AL.p (by exact g_fa_ptr rfl rfl rfl rfl rfl) rfl ?_
       refine AL.q (by exact h_store rfl rfl rfl rfl rfl rfl) rfl ?_
       refine AL.nil (ib_n (th_n ?_))
       (have e := hT.trans ((if_neg h0).trans ((if_neg h1).trans ((if_neg h2).trans ((if_neg h3).trans (if_pos h4))))); exact ⟨A, rfl, Weak.ren _ [(200, _), (101, _), (201, _)] hC rfl (by repeat (first | exact True.intro | refine And.intro ?_ ?_ | exact rfl | refine ⟨_, rfl, ?_⟩)) (by rw [e]; repeat (first | exact True.intro | refine And.intro ?_ ?_ | exact DLead.same | exact rfl | refine ⟨_, _, rfl, rfl, ?_⟩ | refine ⟨_, rfl, ?_⟩ | refine ⟨_, _, rfl, ?_, ?_⟩)) rfl rfl rfl⟩)
      ·refine AC.skip (ib_n (th_n ?_))
       (have e := hT.trans ((if_neg h0).trans ((if_neg h1).trans ((if_neg h2).trans ((if_neg h3).trans (if_neg h4))))); exact ⟨A, rfl, (Weak.freezeP 3 3 rfl rfl rfl rfl (ownl _ _) (ownt _ _) rfl).trans (Weak.ren _ [(200, _), (101, _), (201, _)] hC rfl (by repeat (first | exact True.intro | refine And.intro ?_ ?_ | exact rfl | refine ⟨_, rfl, ?_⟩)) (by rw [e]; repeat (first | exact True.intro | refine And.intro ?_ ?_ | exact DLead.same | exact rfl | refine ⟨_, _, rfl, rfl, ?_⟩ | refine ⟨_, rfl, ?_⟩ | refine ⟨_, _, rfl, ?_, ?_⟩)) rfl rfl rfl)⟩)
 ·rintro x rfl
  refine AC.seq (AC.region ?_)
  refine AL.p (by exact g_load_ptrN rfl rfl rfl rfl rfl) rfl ?_
  refine AL.q (by exact h_store rfl rfl rfl rfl rfl rfl) rfl ?_
  refine AL.nil (th_n (AC.ret (bq_r ?_)))
  exact retN [(1, 101)] rfl (by repeat (first | exact rfl | exact DLead.same | refine ⟨_, _, rfl, ?_, ?_⟩ | refine ⟨_, rfl, ?_⟩)) (by repeat (first | exact True.intro | refine And.intro ?_ ?_ | exact DLead.same | exact rfl | refine ⟨_, _, rfl, rfl, ?_⟩ | refine ⟨_, rfl, ?_⟩ | refine ⟨_, _, rfl, ?_, ?_⟩)) rfl rfl
theorem en_anyStg : Enters Try.prog 28 := enters_of Try.func28 rfl rfl
theorem sDrawIVS_ex (code : List UInt8) : ∃ s : Stg, StgS s ∧ ASpec Try.prog 23 [.d (vB code)] [] (Pure1 (stgA s)) := by
 have hp0 : (cur0 code).pos = 0 := rfl
 have hA := anyStg_spec (cur0 code) (by omega)
 have hi := anyI_in (cur0 code)
 obtain ⟨A, hAA⟩ : ∃ A, A = anyI (cur0 code) := ⟨_, rfl⟩
 rw [← hAA] at hA hi
 refine ⟨A.1, hi.1, ?_⟩
 refine ASpec.of Try.func23 rfl rfl fun C hC => ?_
 refine AC.seq (AC.region ?_)
 refine AL.q (by exact h_alloc rfl) rfl ?_
 refine AL.nil (th_n (AC.seq (AC.region ?_)))
 refine AL.p (by exact mv1 rfl) rfl ?_
 refine AL.p (by exact g_build rfl rfl rfl) rfl ?_
 refine AL.q (by exact h_box rfl) rfl ?_
 refine AL.p (by exact as3 rfl) rfl ?_
 refine AL.nil (th_n (AC.seq (AC.region ?_)))
 refine AL.p (by exact mv3 rfl) rfl ?_
 refine AL.q (by exact h_fun (cs := [8]) en_anyStg rfl rfl (by repeat (first | exact rfl | refine ⟨_, _, rfl, ?_, ?_⟩ | refine ⟨_, rfl, ?_⟩)) (by repeat (first | exact True.intro | refine And.intro ?_ ?_ | exact DLead.same | exact rfl | refine ⟨_, _, rfl, rfl, ?_⟩ | refine ⟨_, rfl, ?_⟩ | refine ⟨_, _, rfl, ?_, ?_⟩)) hA rfl rfl rfl rfl) rfl ?_
 refine AL.weak (Weak.freezeA (i := 8) (k := 2) rfl rfl rfl (ownl _ _) (ownt _ _)) ?_
 refine AL.q (by exact h_store rfl rfl rfl rfl rfl rfl) rfl ?_
 refine AL.nil (th_n (AC.ret (bq_r ?_)))
 exact ret0 rfl (by repeat (first | exact DLead.same | exact rfl | refine ⟨_, rfl, ?_⟩ | refine ⟨_, _, rfl, ?_, ?_⟩))
theorem en_sDrawIVS : Enters Try.prog 23 := enters_of Try.func23 rfl rfl
theorem sDrawMirror_ex (code : List UInt8) : ∃ s : Stg, StgS s ∧ ASpec Try.prog 5 [.d (vB code)] [] (Pure1 (stgA s)) := by
 obtain ⟨s, hs, hD⟩ := sDrawIVS_ex code
 refine ⟨s, hs, ?_⟩
 refine ASpec.of Try.func5 rfl rfl fun C hC => ?_
 refine AC.seq (AC.region ?_)
 refine AL.q (by exact h_alloc rfl) rfl ?_
 refine AL.nil (th_n (AC.seq (AC.region ?_)))
 refine AL.p (by exact mv1 rfl) rfl ?_
 refine AL.q (by exact h_pure en_sDrawIVS rfl rfl (by repeat (first | exact rfl | exact DLead.same | refine ⟨_, _, rfl, ?_, ?_⟩)) hD rfl) rfl ?_
 refine AL.q (by exact h_store rfl rfl rfl rfl rfl rfl) rfl ?_
 refine AL.nil (th_n (AC.ret (bq_r ?_)))
 exact ret0 rfl (by repeat (first | exact DLead.same | exact rfl | refine ⟨_, rfl, ?_⟩ | refine ⟨_, _, rfl, ?_, ?_⟩))
theorem en_sDrawMirror : Enters Try.prog 5 := enters_of Try.func5 rfl rfl
theorem quo19 {u : Int} (h : 0 ≤ u ∧ u < 20) : IntKind.i64.wrap (u.tdiv 19) = u / 19 := by
 rw [Int.tdiv_eq_ediv_of_nonneg h.1]
 exact wrap_i64 (by omega)
set_option maxHeartbeats 2000000 in
theorem sDrawHide_ex (code : List UInt8) : ∃ (s : Stg) (n : Int), StgS s ∧ ASpec Try.prog 9 [.d (vB code)] [] (Pure1 (.tup [stgA s, aI n])) := by
 have hp0 : (cur0 code).pos = 0 := rfl
 have hA := anyStg_spec (cur0 code) (by omega)
 have hi := anyI_in (cur0 code)
 obtain ⟨A, hAA⟩ : ∃ A, A = anyI (cur0 code) := ⟨_, rfl⟩
 rw [← hAA] at hA hi
 have hK1 := pick_spec A.2 4 (by decide) (by omega)
 have b1 := A.2.pick_in 4 (by decide)
 have p1 := A.2.pick_pos 4
 obtain ⟨p, hp⟩ : ∃ p, p = A.2.pick 4 := ⟨_, rfl⟩
 rw [← hp] at hK1 b1 p1
 have hK2 := pick_spec p.2 20 (by decide) (by omega)
 have b2 := p.2.pick_in 20 (by decide)
 obtain ⟨q, hq⟩ : ∃ q, q = p.2.pick 20 := ⟨_, rfl⟩
 rw [← hq] at hK2 b2
 have hq19 := quo19 b2
 refine ⟨A.1, p.1 - q.1 / 19, hi.1, ?_⟩
 refine ASpec.of Try.func9 rfl rfl fun C hC => ?_
 refine AC.seq (AC.region ?_)
 refine AL.q (by exact h_alloc rfl) rfl ?_
 refine AL.p (by exact as1 rfl) rfl ?_
 refine AL.nil (th_n (AC.seq (AC.region ?_)))
 refine AL.p (by exact mv1 rfl) rfl ?_
 refine AL.p (by exact g_build rfl rfl rfl) rfl ?_
 refine AL.q (by exact h_box rfl) rfl ?_
 refine AL.p (by exact as3 rfl) rfl ?_
 refine AL.nil (th_n (AC.seq (AC.region ?_)))
 refine AL.p (by exact mv3 rfl) rfl ?_
 refine AL.q (by exact h_fun (cs := [8]) en_anyStg rfl rfl (by repeat (first | exact rfl | refine ⟨_, _, rfl, ?_, ?_⟩ | refine ⟨_, rfl, ?_⟩)) (by repeat (first | exact True.intro | refine And.intro ?_ ?_ | exact DLead.same | exact rfl | refine ⟨_, _, rfl, rfl, ?_⟩ | refine ⟨_, rfl, ?_⟩ | refine ⟨_, _, rfl, ?_, ?_⟩)) hA rfl rfl rfl rfl) rfl ?_
 refine AL.weak (Weak.freezeA (i := 9) (k := 2) rfl rfl rfl (ownl _ _) (ownt _ _)) ?_
 refine AL.p (by exact mv3 rfl) rfl ?_
 refine AL.q (by exact h_fun (cs := [8]) en_pick rfl rfl (by repeat (first | exact rfl | exact DLead.same | refine ⟨_, _, rfl, ?_, ?_⟩ | refine ⟨_, rfl, ?_⟩)) (by repeat (first | exact True.intro | refine And.intro ?_ ?_ | exact DLead.same | exact rfl | refine ⟨_, _, rfl, rfl, ?_⟩ | refine ⟨_, rfl, ?_⟩ | refine ⟨_, _, rfl, ?_, ?_⟩)) hK1 rfl rfl rfl rfl) rfl ?_
 refine AL.p (by exact mv3 rfl) rfl ?_
 refine AL.q (by exact h_fun (cs := [8]) en_pick rfl rfl (by repeat (first | exact rfl | exact DLead.same | refine ⟨_, _, rfl, ?_, ?_⟩ | refine ⟨_, rfl, ?_⟩)) (by repeat (first | exact True.intro | refine And.intro ?_ ?_ | exact DLead.same | exact rfl | refine ⟨_, _, rfl, rfl, ?_⟩ | refine ⟨_, rfl, ?_⟩ | refine ⟨_, _, rfl, ?_, ?_⟩)) hK2 rfl rfl rfl rfl) rfl ?_
 refine AL.p (by exact g_quo (c := q.1 / 19) rfl rfl (by decide) hq19) rfl ?_
 refine AL.p (by exact g_arith rfl rfl rfl (by exact wrap_i64 (by omega))) rfl ?_
 refine AL.q (by exact h_store rfl rfl rfl rfl rfl rfl) rfl ?_
 refine AL.p (by exact as1 rfl) rfl ?_
 refine AL.nil (th_n (AC.ret (bq_r ?_)))
 exact ret0 rfl (by repeat (first | exact DLead.same | exact rfl | refine ⟨_, rfl, ?_⟩ | refine ⟨_, _, rfl, ?_, ?_⟩))
theorem en_sDrawHide : Enters Try.prog 9 := enters_of Try.func9 rfl rfl
set_option maxHeartbeats 1000000 in
theorem l1Num1_spec (n : Nat) (h : n < 10) : ASpec Try.prog 34 [aI n] [] (Pure1 (aS (bstr [UInt8.ofNat (48 + n)]))) := by
 have hu8 : ((UInt8.ofNat (48 + n)).toNat : Int) = 48 + (n : Int) := by rw [UInt8.toNat_ofNat']; omega
 refine ASpec.of Try.func34 rfl rfl fun C hC => ?_
 refine AC.seq (AC.region ?_)
 refine AL.p (by exact as1 rfl) rfl ?_
 refine AL.nil (th_n (AC.seq (AC.seq (AC.region ?_))))
 refine AL.p (by exact mv1 rfl) rfl ?_
 refine AL.p (by exact g_cmp rfl rfl rfl) rfl ?_
 refine AL.nil (th_n ?_)
 refine AC.condD rfl (fun h0 => ?_) (fun h0 => ?_)
 ·refine AC.seq (AC.region ?_)
  refine AL.p (by exact mv1 rfl) rfl ?_
  refine AL.p (by exact g_arith rfl rfl rfl (by exact wrap_i64 (by omega))) rfl ?_
  refine AL.p (by exact g_convI (c := 48 + (n : Int)) rfl rfl rfl (wrap_u8 (by omega))) rfl ?_
  refine AL.q (by exact h_lit rfl rfl rfl rfl rfl rfl rfl rfl) rfl ?_
  refine AL.p (by exact g_strOfBytes (l := [UInt8.ofNat (48 + n)]) rfl rfl rfl rfl rfl (by show _ = [[DV.val (.int .u8 ((UInt8.ofNat (48 + n)).toNat : Int))]]; rw [hu8]) rfl) rfl ?_
  refine AL.p (by exact as1 rfl) rfl ?_
  refine AL.nil (th_n (AC.ret (th_r (bq_r ?_))))
  exact ret1 rfl rfl
 ·refine AC.skip (th_n (AC.seq ?_))
  exact absurd h0 (by omega)
theorem en_l1Num : Enters Try.prog 34 := enters_of Try.func34 rfl rfl
def zn (k : Nat) : List UInt8 := [122] ++ [UInt8.ofNat (48 + k)]
def renZ : Nat → List Sig → List Sig
 | 0, l => l
 | k + 1, l => (renZ k l).set k ⟨zn k, (sAt (renZ k l) k).kind⟩
theorem renZ_len : ∀ (k : Nat) (l : List Sig), (renZ k l).length = l.length
 | 0, l => rfl
 | k + 1, l => by rw [renZ, List.length_set]; exact renZ_len k l
theorem renZ_nm : ∀ (k : Nat) {l : List Sig}, (∀ x, x ∈ l → x.name.length ≤ 10) → ∀ x, x ∈ renZ k l → x.name.length ≤ 10
 | 0, l, h, x, hx => h x hx
 | k + 1, l, h, x, hx => by
  rw [renZ] at hx
  rcases List.mem_or_eq_of_mem_set hx with hx | rfl
  ·exact renZ_nm k h x hx
  ·show 2 ≤ 10; omega
set_option maxHeartbeats 8000000 in
theorem sDrawUnionS_ex (code : List UInt8) : ∃ a b : Stg, StgS a ∧ StgS b ∧ ASpec Try.prog 12 [.d (vB code)] [] (Pure1 (.tup [stgA a, stgA b])) := by
 have hp0 : (cur0 code).pos = 0 := rfl
 have hA := anyStg_spec (cur0 code) (by omega)
 have hi := anyI_in (cur0 code)
 obtain ⟨A, hAA⟩ : ∃ A, A = anyI (cur0 code) := ⟨_, rfl⟩
 rw [← hAA] at hA hi
 have hB := anyStg_spec A.2 (by omega)
 have hj := anyI_in A.2
 obtain ⟨B, hBB⟩ : ∃ B, B = anyI A.2 := ⟨_, rfl⟩
 rw [← hBB] at hB hj
 have hO := one_spec B.2 2 (by decide) (by omega)
 obtain ⟨b, hb⟩ : ∃ b, b = decide ((B.2.pick 2).1 = 0) := ⟨_, rfl⟩
 rw [← hb] at hO
 clear hb
 have hsl := hj.1.sl
 obtain ⟨out, hout⟩ : ∃ out, out = if b = true then renZ B.1.sigs.length B.1.sigs else B.1.sigs := ⟨_, rfl⟩
 have hoi : out.length = B.1.sigs.length ∧ ∀ x, x ∈ out → x.name.length ≤ 10 := by
  rw [hout]
  split
  ·exact ⟨renZ_len _ _, renZ_nm _ hj.1.sn⟩
  ·exact ⟨rfl, hj.1.sn⟩
 refine ⟨A.1, ⟨B.1.net, out, B.1.labs, B.1.start⟩, hi.1, ⟨hj.1.p, hj.1.tl, hj.1.t, by show 1 ≤ out.length; rw [hoi.1]; exact hj.1.s0, by show out.length ≤ 8; rw [hoi.1]; exact hj.1.sl, hoi.2, hj.1.ll, hj.1.lb, hj.1.st⟩, ?_⟩
 refine ASpec.of Try.func12 rfl rfl fun C hC => ?_
 refine AC.seq (AC.region ?_)
 refine AL.q (by exact h_alloc rfl) rfl ?_
 refine AL.q (by exact h_alloc rfl) rfl ?_
 refine AL.nil (th_n (AC.seq (AC.region ?_)))
 refine AL.p (by exact mv1 rfl) rfl ?_
 refine AL.p (by exact g_build rfl rfl rfl) rfl ?_
 refine AL.q (by exact h_box rfl) rfl ?_
 refine AL.p (by exact as3 rfl) rfl ?_
 refine AL.nil (th_n (AC.seq (AC.region ?_)))
 refine AL.p (by exact mv3 rfl) rfl ?_
 refine AL.q (by exact h_fun (cs := [16]) en_anyStg rfl rfl (by repeat (first | exact rfl | refine ⟨_, _, rfl, ?_, ?_⟩ | refine ⟨_, rfl, ?_⟩)) (by repeat (first | exact True.intro | refine And.intro ?_ ?_ | exact DLead.same | exact rfl | refine ⟨_, _, rfl, rfl, ?_⟩ | refine ⟨_, rfl, ?_⟩ | refine ⟨_, _, rfl, ?_, ?_⟩)) hA rfl rfl rfl rfl) rfl ?_
 refine AL.weak (Weak.freezeA (i := 12) (k := 2) rfl rfl rfl (ownl _ _) (ownt _ _)) ?_
 refine AL.q (by exact h_alloc rfl) rfl ?_
 refine AL.q (by exact h_store rfl rfl rfl rfl rfl rfl) rfl ?_
 refine AL.nil (th_n (AC.seq ?_))
 refine AC.weak (t := ⟨34, 208, [(2, .ptr 201 0), (3, .ptr 202 0), (4, .ptr 203 0), (5, .ptr 204 0)], [(201, some (.cells 30 zStg)), (202, some (.cells 30 zStg)), (203, some (curC A.2)), (204, some (.cells 30 [aI A.1.net.places, .d (vTs A.1.net.ts), .d (vSigs A.1.sigs), .d (vLabs A.1.labs), aS (bstr A.1.start)]))]⟩) (Weak.ren _ [(201, 0), (202, 8), (203, 16), (204, _)] hC rfl (by repeat (first | exact True.intro | refine And.intro ?_ ?_ | exact rfl | refine ⟨_, rfl, ?_⟩)) (by repeat (first | exact True.intro | refine And.intro ?_ ?_ | exact DLead.same | exact rfl | refine ⟨_, _, rfl, rfl, ?_⟩ | refine ⟨_, rfl, ?_⟩ | refine ⟨_, _, rfl, ?_, ?_⟩)) rfl rfl rfl) ?_
 refine AC.region ?_
 refine AL.p (by exact mv3 rfl) rfl ?_
 refine AL.q (by exact h_fun (cs := [203]) en_anyStg rfl rfl (by repeat (first | exact rfl | refine ⟨_, _, rfl, ?_, ?_⟩ | refine ⟨_, rfl, ?_⟩)) (by repeat (first | exact True.intro | refine And.intro ?_ ?_ | exact DLead.same | exact rfl | refine ⟨_, _, rfl, rfl, ?_⟩ | refine ⟨_, rfl, ?_⟩ | refine ⟨_, _, rfl, ?_, ?_⟩)) hB rfl rfl rfl rfl) rfl ?_
 refine AL.q (by exact h_alloc rfl) rfl ?_
 refine AL.q (by exact h_store rfl rfl rfl rfl rfl rfl) rfl ?_
 refine AL.nil (th_n ?_)
 refine AC.cut (fun (_ : Unit) => ⟨34, 900, [(2, .ptr 201 0), (3, .ptr 202 0), (5, .ptr 204 0), (6, .ptr 200 0)], [(201, some (.cells 30 zStg)), (202, some (.cells 30 zStg)), (204, some (.cells 30 [aI A.1.net.places, .d (vTs A.1.net.ts), .d (vSigs A.1.sigs), .d (vLabs A.1.labs), aS (bstr A.1.start)])), (200, some (.cells 30 [aI B.1.net.places, .d (vTs B.1.net.ts), .own 101 out.length, .d (vLabs B.1.labs), aS (bstr B.1.start)])), (101, some (.arr 58 2 (sigsL out)))]⟩) (fun _ => True) ?_ ?_
 ·refine AC.seq ?_
  refine AC.weak (t := ⟨34, 300, [(2, .ptr 201 0), (3, .ptr 202 0), (4, .ptr 203 0), (5, .ptr 204 0), (6, .ptr 200 0)], [(201, some (.cells 30 zStg)), (202, some (.cells 30 zStg)), (203, some (curC B.2)), (204, some (.cells 30 [aI A.1.net.places, .d (vTs A.1.net.ts), .d (vSigs A.1.sigs), .d (vLabs A.1.labs), aS (bstr A.1.start)])), (200, some (.cells 30 [aI B.1.net.places, .d (vTs B.1.net.ts), .own 101 B.1.sigs.length, .d (vLabs B.1.labs), aS (bstr B.1.start)])), (101, some (.arr 58 2 (sigsL B.1.sigs)))]⟩) (Weak.ren _ [(201, 201), (202, 202), (203, 203), (204, 204), (200, _), (101, _)] hC rfl (by repeat (first | exact True.intro | refine And.intro ?_ ?_ | exact rfl | refine ⟨_, rfl, ?_⟩)) (by repeat (first | exact True.intro | refine And.intro ?_ ?_ | exact DLead.same | exact rfl | refine ⟨_, _, rfl, rfl, ?_⟩ | refine ⟨_, rfl, ?_⟩ | refine ⟨_, _, rfl, ?_, ?_⟩)) rfl rfl rfl) ?_
  refine AC.region ?_
  refine AL.p (by exact mv3 rfl) rfl ?_
  refine AL.q (by exact h_fun (cs := [203]) en_one rfl rfl (by repeat (first | exact rfl | exact DLead.same | refine ⟨_, _, rfl, ?_, ?_⟩ | refine ⟨_, rfl, ?_⟩)) (by repeat (first | exact True.intro | refine And.intro ?_ ?_ | exact DLead.same | exact rfl | refine ⟨_, _, rfl, rfl, ?_⟩ | refine ⟨_, rfl, ?_⟩ | refine ⟨_, _, rfl, ?_, ?_⟩)) hO rfl rfl rfl rfl) rfl ?_
  refine AL.nil (th_n ?_)
  refine AC.condB rfl (fun h0 => ?_) (fun h0 => ?_)
  ·refine AC.seq (AC.region ?_)
   refine AL.p (by exact g_fa_ptr rfl rfl rfl rfl rfl) rfl ?_
   refine AL.p (by exact g_load_ptr rfl rfl rfl rfl rfl) rfl ?_
   refine AL.p (by exact g_len_own (sz := 1) (els := []) (e' := 0) rfl rfl (by simp only [maxLen]; omega)) rfl ?_
   refine AL.p (by exact mv1 rfl) rfl ?_
   refine AL.nil (th_n (AC.block ?_))
   refine AC.loop (ι := Nat) (fun k => ⟨34, 600, [(2, .ptr 201 0), (3, .ptr 202 0), (5, .ptr 204 0), (6, .ptr 200 0), (19, aI B.1.sigs.length), (20, aI k)], [(201, some (.cells 30 zStg)), (202, some (.cells 30 zStg)), (204, some (.cells 30 [aI A.1.net.places, .d (vTs A.1.net.ts), .d (vSigs A.1.sigs), .d (vLabs A.1.labs), aS (bstr A.1.start)])), (200, some (.cells 30 [aI B.1.net.places, .d (vTs B.1.net.ts), .own 101 B.1.sigs.length, .d (vLabs B.1.labs), aS (bstr B.1.start)])), (101, some (.arr 58 2 (sigsL (renZ k B.1.sigs))))]⟩) (fun k => k ≤ B.1.sigs.length) (fun k => B.1.sigs.length - k) (0) ?_ (Nat.zero_le _) ?_
   ·exact Weak.ren _ [(201, 201), (202, 202), (204, 204), (200, 200), (101, 101)] hC rfl (by repeat (first | exact True.intro | refine And.intro ?_ ?_ | exact DLead.same | exact rfl | refine ⟨_, rfl, ?_⟩)) (by show leadsC _ _ _; repeat (first | exact True.intro | refine And.intro ?_ ?_ | exact DLead.same | exact rfl | refine ⟨_, _, rfl, rfl, ?_⟩ | refine ⟨_, rfl, ?_⟩ | refine ⟨_, _, rfl, ?_, ?_⟩)) rfl rfl rfl
   ·intro k hk
    refine AC.seq (AC.region ?_)
    refine AL.p (by exact g_cmp rfl rfl rfl) rfl ?_
    refine AL.nil (th_n (AC.seq ?_))
    refine AC.condD rfl (fun h1 => ?_) (fun h1 => ?_)
    ·refine AC.skip (th_n (AC.seq (AC.block (AC.seq ?_))))
     have hk1 : k < B.1.sigs.length := by omega
     have hrl := renZ_len k B.1.sigs
     have hk2 : k < (renZ k B.1.sigs).length := by omega
     have hrow : (sigsL (renZ k B.1.sigs))[k]? = some [dS (bstr (sAt (renZ k B.1.sigs) k).name), dI (sAt (renZ k B.1.sigs) k).kind] := by rw [sAt_nat hk2]; exact sigsL_get hk2
     have hset : (sigsL (renZ k B.1.sigs)).set k ([dS (bstr (sAt (renZ k B.1.sigs) k).name), dI (sAt (renZ k B.1.sigs) k).kind].set 0 (dS (bstr (zn k)))) = sigsL (renZ (k + 1) B.1.sigs) := by rw [renZ]; unfold sigsL; rw [List.map_set]; rfl
     have hN := l1Num1_spec k (by omega)
     refine AC.region ?_
     refine AL.p (by exact mv1 rfl) rfl ?_
     refine AL.p (by exact as1 rfl) rfl ?_
     refine AL.nil (th_n ?_)
     refine AC.drawn' mixed_ok [[], [0], [], [], [3], [3,4], [0,1,2,3,4,5], [0,1,2,3,4,5,6], [0,1,2,3,4,5,6,7]] (by decide) ?_
     refine DF.op 0 [] 9 rfl rfl rfl (.free rfl (NOp.of (by exact g_fa_ptr rfl rfl rfl rfl rfl))) rfl ?_
     refine DF.op 1 [0] 9 rfl rfl rfl (.free rfl (NOp.of (by exact g_load_ptr rfl rfl rfl rfl rfl))) rfl ?_
     refine DF.op 2 [] 9 rfl rfl rfl (.free rfl (NOp.of (by exact mv1 rfl))) rfl ?_
     refine DF.op 3 [] 9 rfl rfl rfl (.free rfl (NOp.of (by exact mv1 rfl))) rfl ?_
     refine DF.op 4 [3] 9 rfl rfl rfl (.free rfl (by exact h_pure en_l1Num rfl rfl (by repeat (first | exact rfl | exact DLead.same | refine ⟨_, _, rfl, ?_, ?_⟩)) hN rfl)) rfl ?_
     refine DF.op 5 [3,4] 9 rfl rfl rfl (.free rfl (NOp.of (by exact g_saddB (a := [122]) (b := [UInt8.ofNat (48 + k)]) rfl rfl (by simp only [List.length_cons, List.length_nil]; omega)))) rfl ?_
     refine DF.op 6 [0,1,2,3,4,5] 9 rfl rfl rfl (.free rfl (NOp.of (by exact g_ia_own (i := k) (l := B.1.sigs.length) rfl rfl rfl rfl rfl rfl hk1 rfl))) rfl ?_
     refine DF.op 7 [0,1,2,3,4,5,6] 9 rfl rfl rfl (.free rfl (NOp.of (by exact g_fa_ptr rfl rfl rfl rfl rfl))) rfl ?_
     refine DF.op 8 [0,1,2,3,4,5,6,7] 9 rfl rfl rfl (.free rfl (by exact h_store_arr (i := k) (j := 0) (d := dS (bstr (zn k))) rfl rfl rfl rfl .same rfl hrow (by decide))) rfl ?_
     refine DF.fin (ps := [(0,2),(0,3),(0,4),(0,5),(1,2),(1,3),(1,4),(1,5),(2,0),(2,1),(2,3),(2,4),(2,5),(3,0),(3,1),(3,2),(4,0),(4,1),(4,2),(5,0),(5,1),(5,2)]) 9 rfl (by decide +kernel) (by decide +kernel) (by rfl) ?_
     refine ib_n (th_n (AC.region ?_))
     refine AL.p (by exact g_arith rfl rfl rfl (by exact wrap_i64 (by omega))) rfl ?_
     refine AL.p (by exact mv1 rfl) rfl ?_
     refine AL.nil (th_n ?_)
     exact ⟨k + 1, by omega, by omega, Weak.ren _ [(201, 201), (202, 202), (204, 204), (200, 200), (101, 101)] hC rfl (by repeat (first | exact True.intro | refine And.intro ?_ ?_ | exact DLead.same | exact rfl | refine ⟨_, rfl, ?_⟩)) (by rw [← hset]; repeat (first | exact True.intro | refine And.intro ?_ ?_ | exact DLead.same | exact rfl | refine ⟨_, _, rfl, rfl, ?_⟩ | refine ⟨_, rfl, ?_⟩ | refine ⟨_, _, rfl, ?_, ?_⟩)) rfl rfl rfl⟩
    ·refine AC.exit (th_e (th_e (ib_y (th_n ?_))))
     (have e := hout.trans (if_pos ‹b = true›); have hkk : k = B.1.sigs.length := (by omega); exact ⟨(), trivial, Weak.ren _ [(201, 201), (202, 202), (204, 204), (200, 200), (101, 101)] hC rfl (by repeat (first | exact True.intro | refine And.intro ?_ ?_ | exact rfl | refine ⟨_, rfl, ?_⟩)) (by rw [hoi.1, e, ← hkk]; repeat (first | exact True.intro | refine And.intro ?_ ?_ | exact DLead.same | exact rfl | refine ⟨_, _, rfl, rfl, ?_⟩ | refine ⟨_, rfl, ?_⟩ | refine ⟨_, _, rfl, ?_, ?_⟩)) rfl rfl rfl⟩)
  ·refine AC.skip (th_n ?_)
   (have e := hout.trans (if_neg (show ¬ b = true by simp_all)); exact ⟨(), trivial, Weak.ren _ [(201, 201), (202, 202), (204, 204), (200, 200), (101, 101)] hC rfl (by repeat (first | exact True.intro | refine And.intro ?_ ?_ | exact rfl | refine ⟨_, rfl, ?_⟩)) (by rw [hoi.1, e]; repeat (first | exact True.intro | refine And.intro ?_ ?_ | exact DLead.same | exact rfl | refine ⟨_, _, rfl, rfl, ?_⟩ | refine ⟨_, rfl, ?_⟩ | refine ⟨_, _, rfl, ?_, ?_⟩)) rfl rfl rfl⟩)
 ·intro _ _
  refine AC.weak (Weak.freezeP (els' := sigsL out) 6 2 rfl rfl rfl rfl (by rw [sigsL_len]; exact Nat.le_refl _) (List.take_of_length_le (by rw [sigsL_len]; exact Nat.le_refl _)) rfl) ?_
  refine AC.weak (t := ⟨34, 1200, [(2, .ptr 201 0), (3, .ptr 202 0), (5, .ptr 204 0), (6, .ptr 200 0)], [(201, some (.cells 30 zStg)), (202, some (.cells 30 zStg)), (204, some (.cells 30 [aI A.1.net.places, .d (vTs A.1.net.ts), .d (vSigs A.1.sigs), .d (vLabs A.1.labs), aS (bstr A.1.start)])), (200, some (.cells 30 [aI B.1.net.places, .d (vTs B.1.net.ts), .d (vSigs out), .d (vLabs B.1.labs), aS (bstr B.1.start)]))]⟩) (Weak.ren _ [(201, 201), (202, 202), (204, 204), (200, 200)] hC rfl (by repeat (first | exact True.intro | refine And.intro ?_ ?_ | exact rfl | refine ⟨_, rfl, ?_⟩)) (by repeat (first | exact True.intro | refine And.intro ?_ ?_ | exact DLead.same | exact rfl | refine ⟨_, _, rfl, rfl, ?_⟩ | refine ⟨_, rfl, ?_⟩ | refine ⟨_, _, rfl, ?_, ?_⟩)) rfl rfl rfl) ?_
  refine AC.seq ?_
  refine AC.drawn' mixed_ok [[], [], [0], [0,1,2]] (by decide) ?_
  refine DF.op 0 [] 4 rfl rfl rfl (.free rfl (NOp.of (by exact g_load_ptrN rfl rfl rfl rfl rfl))) rfl ?_
  refine DF.op 1 [] 4 rfl rfl rfl (.free rfl (NOp.of (by exact g_load_ptrN rfl rfl rfl rfl rfl))) rfl ?_
  refine DF.op 2 [0] 4 rfl rfl rfl (.free rfl (by exact h_store rfl rfl rfl rfl rfl rfl)) rfl ?_
  refine DF.op 3 [0,1,2] 4 rfl rfl rfl (.free rfl (by exact h_store rfl rfl rfl rfl rfl rfl)) rfl ?_
  refine DF.fin (ps := [(0,1),(1,0),(1,2),(2,1)]) 4 rfl (by decide +kernel) (by decide +kernel) (by rfl) ?_
  refine th_n (AC.ret (bq_r ?_))
  exact ret0 rfl (by repeat (first | exact DLead.same | exact rfl | refine ⟨_, rfl, ?_⟩ | refine ⟨_, _, rfl, ?_, ?_⟩))
theorem en_sDrawUnionS : Enters Try.prog 12 := enters_of Try.func12 rfl rfl
def visD (n : Int) : Nat → Cur → List Int → List Int × Cur
 | 0, c, acc => (acc, c)
 | j + 1, c, acc => visD n j ((c.pick n).2.pick 20).2 (acc ++ [(c.pick n).1 - ((c.pick n).2.pick 20).1 / 19])
theorem visD_len (n : Int) : ∀ (j : Nat) (c : Cur) (acc : List Int), (visD n j c acc).1.length = acc.length + j
 | 0, c, acc => rfl
 | j + 1, c, acc => by rw [visD, visD_len n j, List.length_append]; simp only [List.length_cons, List.length_nil]; omega
set_option maxHeartbeats 8000000 in
theorem sDrawVisL_ex (code : List UInt8) : ∃ (s : Stg) (l : List Int), StgS s ∧ l.length ≤ 10 ∧ ASpec Try.prog 17 [.d (vB code)] [] (Pure1 (.tup [stgA s, .d (vI l)])) := by
 have hp0 : (cur0 code).pos = 0 := rfl
 have hA := anyStg_spec (cur0 code) (by omega)
 have hi := anyI_in (cur0 code)
 have hts := anyI_ts (cur0 code)
 obtain ⟨A, hAA⟩ : ∃ A, A = anyI (cur0 code) := ⟨_, rfl⟩
 rw [← hAA] at hA hi hts
 have htl := hi.1.tl
 have hK := pick_spec A.2 6 (by decide) (by omega)
 have b0 := A.2.pick_in 6 (by decide)
 have p0 := A.2.pick_pos 6
 obtain ⟨p, hp⟩ : ∃ p, p = A.2.pick 6 := ⟨_, rfl⟩
 rw [← hp] at hK b0 p0
 obtain ⟨r, hr⟩ : ∃ r, r = visD A.1.net.ts.length p.1.toNat p.2 [] := ⟨_, rfl⟩
 have hrl : r.1.length ≤ 10 := by rw [hr, visD_len, List.length_nil]; omega
 refine ⟨A.1, r.1, hi.1, hrl, ?_⟩
 refine ASpec.of Try.func17 rfl rfl fun C hC => ?_
 refine AC.seq (AC.region ?_)
 refine AL.q (by exact h_alloc rfl) rfl ?_
 refine AL.p (by exact as1 rfl) rfl ?_
 refine AL.nil (th_n (AC.seq (AC.region ?_)))
 refine AL.p (by exact mv1 rfl) rfl ?_
 refine AL.p (by exact g_build rfl rfl rfl) rfl ?_
 refine AL.q (by exact h_box rfl) rfl ?_
 refine AL.p (by exact as3 rfl) rfl ?_
 refine AL.nil (th_n (AC.seq (AC.region ?_)))
 refine AL.p (by exact mv3 rfl) rfl ?_
 refine AL.q (by exact h_fun (cs := [8]) en_anyStg rfl rfl (by repeat (first | exact rfl | refine ⟨_, _, rfl, ?_, ?_⟩ | refine ⟨_, rfl, ?_⟩)) (by repeat (first | exact True.intro | refine And.intro ?_ ?_ | exact DLead.same | exact rfl | refine ⟨_, _, rfl, rfl, ?_⟩ | refine ⟨_, rfl, ?_⟩ | refine ⟨_, _, rfl, ?_, ?_⟩)) hA rfl rfl rfl rfl) rfl ?_
 refine AL.weak (Weak.freezeA (i := 12) (k := 2) rfl rfl rfl (ownl _ _) (ownt _ _)) ?_
 refine AL.q (by exact h_alloc rfl) rfl ?_
 refine AL.q (by exact h_store rfl rfl rfl rfl rfl rfl) rfl ?_
 refine AL.nil (th_n (AC.seq (AC.region ?_)))
 refine AL.p (by exact as1 rfl) rfl ?_
 refine AL.nil (th_n (AC.seq (AC.seq (AC.region ?_))))
 refine AL.p (by exact mv3 rfl) rfl ?_
 refine AL.q (by exact h_fun (cs := [8]) en_pick rfl rfl (by repeat (first | exact rfl | exact DLead.same | refine ⟨_, _, rfl, ?_, ?_⟩ | refine ⟨_, rfl, ?_⟩)) (by repeat (first | exact True.intro | refine And.intro ?_ ?_ | exact DLead.same | exact rfl | refine ⟨_, _, rfl, rfl, ?_⟩ | refine ⟨_, rfl, ?_⟩ | refine ⟨_, _, rfl, ?_, ?_⟩)) hK rfl rfl rfl rfl) rfl ?_
 refine AL.p (by exact as1 rfl) rfl ?_
 refine AL.nil (th_n (AC.block ?_))
 refine AC.loop (ι := Nat × Cur × List Int) (fun x => ⟨34, 500, [(2, .ptr 201 0), (4, .ptr 203 0), (5, .ptr 200 0), (6, .own 100 x.2.2.length), (7, aI x.1)], [(201, some (.cells 30 zStg)), (203, some (curC x.2.1)), (200, some (.cells 30 [aI A.1.net.places, .d (vTs A.1.net.ts), .d (vSigs A.1.sigs), .d (vLabs A.1.labs), aS (bstr A.1.start)])), (100, some (.arr 3 1 (ints x.2.2)))]⟩) (fun x => visD A.1.net.ts.length x.1 x.2.1 x.2.2 = r ∧ x.2.2.length + x.1 ≤ 20 ∧ x.2.1.pos + 4 * x.1 ≤ 2000000) (fun x => x.1) ((p.1.toNat, p.2, [])) ?_ (⟨hr.symm, by simp only [List.length_nil]; omega, by dsimp only; omega⟩) ?_
 ·exact (Weak.nilOwn (i := 6) (e := 3) (sz := 1) rfl (by decide)).trans (Weak.ren _ [(201, 0), (203, 8), (200, _), (100, _)] hC rfl (by repeat (first | exact True.intro | refine And.intro ?_ ?_ | exact DLead.eqI (by omega) | exact rfl | refine ⟨_, rfl, ?_⟩)) (by repeat (first | exact True.intro | refine And.intro ?_ ?_ | exact DLead.same | exact rfl | refine ⟨_, _, rfl, rfl, ?_⟩ | refine ⟨_, rfl, ?_⟩ | refine ⟨_, _, rfl, ?_, ?_⟩)) rfl rfl rfl)
 ·rintro ⟨j, cc, acc⟩ ⟨hrun, hlen, hpos⟩
  dsimp only at hrun hlen hpos ⊢
  refine AC.seq (AC.seq (AC.region ?_))
  refine AL.p (by exact mv1 rfl) rfl ?_
  refine AL.p (by exact g_cmp rfl rfl rfl) rfl ?_
  refine AL.nil (th_n ?_)
  refine AC.condD rfl (fun h0 => ?_) (fun h0 => ?_)
  ·refine AC.skip (th_n (AC.seq (AC.block ?_)))
   obtain ⟨i, rfl⟩ : ∃ i, j = i + 1 := ⟨j - 1, by omega⟩
   rw [visD] at hrun
   have hK1 := pick_spec cc A.1.net.ts.length (by omega) (by omega)
   have b1 := cc.pick_in A.1.net.ts.length (by omega)
   have p1 := cc.pick_pos A.1.net.ts.length
   obtain ⟨q, hq⟩ : ∃ q, q = cc.pick A.1.net.ts.length := ⟨_, rfl⟩
   rw [← hq] at hK1 b1 p1 hrun
   have hK2 := pick_spec q.2 20 (by decide) (by omega)
   have b2 := q.2.pick_in 20 (by decide)
   have p2 := q.2.pick_pos 20
   obtain ⟨u, hu⟩ : ∃ u, u = q.2.pick 20 := ⟨_, rfl⟩
   rw [← hu] at hK2 b2 p2 hrun
   have hq19 := quo19 b2
   refine AC.region ?_
   refine AL.p (by exact mv2 rfl) rfl ?_
   refine AL.p (by exact mv3 rfl) rfl ?_
   refine AL.p (by exact g_fa_ptr rfl rfl rfl rfl rfl) rfl ?_
   refine AL.p (by exact g_fa_ptr rfl rfl rfl rfl rfl) rfl ?_
   refine AL.p (by exact g_load_ptr rfl rfl rfl rfl rfl) rfl ?_
   refine AL.p (by exact g_len_view (k := A.1.net.ts.length) rfl rfl (tsL_len _)) rfl ?_
   refine AL.q (by exact h_fun (cs := [203]) en_pick rfl rfl (by repeat (first | exact rfl | exact DLead.same | refine ⟨_, _, rfl, ?_, ?_⟩ | refine ⟨_, rfl, ?_⟩)) (by repeat (first | exact True.intro | refine And.intro ?_ ?_ | exact DLead.same | exact rfl | refine ⟨_, _, rfl, rfl, ?_⟩ | refine ⟨_, rfl, ?_⟩ | refine ⟨_, _, rfl, ?_, ?_⟩)) hK1 rfl rfl rfl rfl) rfl ?_
   refine AL.p (by exact mv3 rfl) rfl ?_
   refine AL.q (by exact h_fun (cs := [203]) en_pick rfl rfl (by repeat (first | exact rfl | exact DLead.same | refine ⟨_, _, rfl, ?_, ?_⟩ | refine ⟨_, rfl, ?_⟩)) (by repeat (first | exact True.intro | refine And.intro ?_ ?_ | exact DLead.same | exact rfl | refine ⟨_, _, rfl, rfl, ?_⟩ | refine ⟨_, rfl, ?_⟩ | refine ⟨_, _, rfl, ?_, ?_⟩)) hK2 rfl rfl rfl rfl) rfl ?_
   refine AL.p (by exact g_quo (c := u.1 / 19) rfl rfl (by decide) hq19) rfl ?_
   refine AL.p (by exact g_arith rfl rfl rfl (by exact wrap_i64 (by omega))) rfl ?_
   refine AL.q (by exact h_litF rfl rfl rfl rfl rfl rfl rfl rfl) rfl ?_
   refine AL.q (by exact h_appendI acc [q.1 - u.1 / 19] (.own rfl rfl (ints_len _).symm) (.view rfl) (by rw [List.length_append]; simp only [List.length_cons, List.length_nil]; omega) (by simp)) rfl ?_
   refine AL.p (by exact as2 rfl) rfl ?_
   refine AL.nil (ib_n (th_n (AC.region ?_)))
   refine AL.p (by exact mv1 rfl) rfl ?_
   refine AL.p (by exact g_arith rfl rfl rfl (by exact wrap_i64 (by omega))) rfl ?_
   refine AL.p (by exact as1 rfl) rfl ?_
   refine AL.nil (th_n ?_)
   exact ⟨(i, u.2, acc ++ [q.1 - u.1 / 19]), ⟨hrun, by rw [List.length_append]; simp only [List.length_cons, List.length_nil]; omega, by dsimp only; omega⟩, by dsimp only; omega, Weak.ren _ [(201, 201), (203, 203), (200, 200), (100, _)] hC rfl (by repeat (first | exact True.intro | refine And.intro ?_ ?_ | exact DLead.eqI (by omega) | exact rfl | refine ⟨_, rfl, ?_⟩)) (by repeat (first | exact True.intro | refine And.intro ?_ ?_ | exact DLead.same | exact rfl | refine ⟨_, _, rfl, rfl, ?_⟩ | refine ⟨_, rfl, ?_⟩ | refine ⟨_, _, rfl, ?_, ?_⟩)) rfl rfl rfl⟩
  ·refine AC.exit (th_e (th_e (ib_y (th_n (AC.seq ?_)))))
   have hj : j = 0 := by omega
   subst hj
   rw [visD] at hrun
   obtain rfl : acc = r.1 := by rw [← hrun]
   refine AC.weak (Weak.freeze (i := 6) rfl rfl (Nat.le_of_eq (ints_len _).symm) (ints_all _)) ?_
   refine AC.region ?_
   refine AL.p (by exact g_load_ptrN rfl rfl rfl rfl rfl) rfl ?_
   refine AL.p (by exact mv1 rfl) rfl ?_
   refine AL.q (by exact h_store rfl rfl rfl rfl rfl rfl) rfl ?_
   refine AL.p (by exact as1 rfl) rfl ?_
   refine AL.nil (th_n (AC.ret (bq_r ?_)))
   exact ret0 rfl (by repeat (first | exact DLead.same | exact rfl | refine ⟨_, rfl, ?_⟩ | refine ⟨_, _, rfl, ?_, ?_⟩))
theorem en_sDrawVisL : Enters Try.prog 17 := enters_of Try.func17 rfl rfl
def eqD (A : Stg) (p : Int) : Stg := if p = 0 then ⟨A.net, A.sigs, A.labs, A.start ++ [48]⟩ else if p = 1 then ⟨⟨A.net.places, A.net.ts.set 0 ⟨(A.net.ts.getD 0 ⟨[], []⟩).pre, []⟩⟩, A.sigs, A.labs, A.start⟩ else A
theorem eqD_B {A : Stg} (h : StgS A) (p : Int) : StgB (eqD A p) := by
 have hB := h.B
 have hst := h.st
 unfold eqD
 split
 ·exact ⟨hB.n, hB.sg, hB.sn, hB.l, hB.lb, by show (A.start ++ [48]).length ≤ _; rw [List.length_append]; simp only [List.length_cons, List.length_nil]; omega⟩
 ·split
  ·refine ⟨⟨hB.n.p, by show (A.net.ts.set 0 _).length ≤ _; rw [List.length_set]; exact hB.n.l, fun t ht => ?_⟩, hB.sg, hB.sn, hB.l, hB.lb, hB.st⟩
   rcases List.mem_or_eq_of_mem_set ht with ht | rfl
   ·exact hB.n.t t ht
   ·refine ⟨?_, Nat.zero_le _⟩
    show (A.net.ts.getD 0 ⟨[], []⟩).pre.length ≤ _
    rw [List.getD_eq_getElem?_getD]
    cases e : A.net.ts[0]? with
    | none => exact Nat.zero_le _
    | some t => exact (hB.n.t t (List.mem_of_getElem? e)).1
  ·exact hB
set_option maxHeartbeats 8000000 in
theorem sDrawEqS_ex (code : List UInt8) : ∃ a b : Stg, StgB a ∧ StgB b ∧ ASpec Try.prog 20 [.d (vB code)] [] (Pure1 (.tup [stgA a, stgA b])) := by
 have hp0 : (cur0 code).pos = 0 := rfl
 have hA := anyStg_spec (cur0 code) (by omega)
 have hi := anyI_in (cur0 code)
 have hts := anyI_ts (cur0 code)
 obtain ⟨A, hAA⟩ : ∃ A, A = anyI (cur0 code) := ⟨_, rfl⟩
 rw [← hAA] at hA hi hts
 obtain ⟨S, cc⟩ := A
 dsimp only at hA hi hts
 have hst := hi.1.st
 have hO := l2Own_spec S hi.1.B
 have hK := pick_spec cc 4 (by decide) (by omega)
 obtain ⟨p, hp⟩ : ∃ p, p = cc.pick 4 := ⟨_, rfl⟩
 rw [← hp] at hK
 have hE : eqD S p.1 = if p.1 = 0 then ⟨S.net, S.sigs, S.labs, S.start ++ [48]⟩ else if p.1 = 1 then ⟨⟨S.net.places, S.net.ts.set 0 ⟨(S.net.ts.getD 0 ⟨[], []⟩).pre, []⟩⟩, S.sigs, S.labs, S.start⟩ else S := rfl
 refine ⟨S, eqD S p.1, hi.1.B, eqD_B hi.1 _, ?_⟩
 obtain ⟨G, hG⟩ : ∃ G, G = eqD S p.1 := ⟨_, rfl⟩
 rw [← hG] at hE ⊢
 clear hG
 refine ASpec.of Try.func20 rfl rfl fun C hC => ?_
 refine AC.seq (AC.region ?_)
 refine AL.q (by exact h_alloc rfl) rfl ?_
 refine AL.q (by exact h_alloc rfl) rfl ?_
 refine AL.nil (th_n (AC.seq (AC.region ?_)))
 refine AL.p (by exact mv1 rfl) rfl ?_
 refine AL.p (by exact g_build rfl rfl rfl) rfl ?_
 refine AL.q (by exact h_box rfl) rfl ?_
 refine AL.p (by exact as3 rfl) rfl ?_
 refine AL.nil (th_n (AC.seq (AC.region ?_)))
 refine AL.p (by exact mv3 rfl) rfl ?_
 refine AL.q (by exact h_fun (cs := [16]) en_anyStg rfl rfl (by repeat (first | exact rfl | refine ⟨_, _, rfl, ?_, ?_⟩ | refine ⟨_, rfl, ?_⟩)) (by repeat (first | exact True.intro | refine And.intro ?_ ?_ | exact DLead.same | exact rfl | refine ⟨_, _, rfl, rfl, ?_⟩ | refine ⟨_, rfl, ?_⟩ | refine ⟨_, _, rfl, ?_, ?_⟩)) hA rfl rfl rfl rfl) rfl ?_
 refine AL.weak (Weak.freezeA (i := 11) (k := 2) rfl rfl rfl (ownl _ _) (ownt _ _)) ?_
 refine AL.q (by exact h_alloc rfl) rfl ?_
 refine AL.q (by exact h_store rfl rfl rfl rfl rfl rfl) rfl ?_
 refine AL.nil (th_n (AC.seq ?_))
 refine AC.weak (t := ⟨31, 208, [(2, .ptr 201 0), (3, .ptr 202 0), (4, .ptr 203 0), (5, .ptr 204 0)], [(201, some (.cells 30 zStg)), (202, some (.cells 30 zStg)), (203, some (curC cc)), (204, some (.cells 30 [aI S.net.places, .d (vTs S.net.ts), .d (vSigs S.sigs), .d (vLabs S.labs), aS (bstr S.start)]))]⟩) (Weak.ren _ [(201, 0), (202, 8), (203, 16), (204, _)] hC rfl (by repeat (first | exact True.intro | refine And.intro ?_ ?_ | exact rfl | refine ⟨_, rfl, ?_⟩)) (by repeat (first | exact True.intro | refine And.intro ?_ ?_ | exact DLead.same | exact rfl | refine ⟨_, _, rfl, rfl, ?_⟩ | refine ⟨_, rfl, ?_⟩ | refine ⟨_, _, rfl, ?_, ?_⟩)) rfl rfl rfl) ?_
 refine AC.region ?_
 refine AL.p (by exact g_load_ptrN rfl rfl rfl rfl rfl) rfl ?_
 refine AL.q (by exact h_fun (cs := []) en_l2Own rfl rfl (by repeat (first | exact rfl | exact DLead.same | refine ⟨_, _, rfl, ?_, ?_⟩ | refine ⟨_, rfl, ?_⟩)) (by repeat (exact True.intro)) hO rfl rfl rfl rfl) rfl ?_
 refine AL.q (by exact h_alloc rfl) rfl ?_
 refine AL.q (by exact h_store rfl rfl rfl rfl rfl rfl) rfl ?_
 refine AL.nil (th_n ?_)
 refine AC.cut (fun (x : Stg) => ⟨31, 900, [(2, .ptr 201 0), (3, .ptr 202 0), (5, .ptr 204 0), (6, .ptr 200 0)], [(201, some (.cells 30 zStg)), (202, some (.cells 30 zStg)), (204, some (.cells 30 [aI S.net.places, .d (vTs S.net.ts), .d (vSigs S.sigs), .d (vLabs S.labs), aS (bstr S.start)])), (200, some (.cells 30 [aI x.net.places, .own 105 x.net.ts.length, .own 101 x.sigs.length, .own 102 x.labs.length, aS (bstr x.start)])), (105, some (.arr 81 2 (tsL x.net.ts))), (101, some (.arr 58 2 (sigsL x.sigs))), (102, some (.arr 54 2 (labsL x.labs)))]⟩) (fun x => x = G) ?_ ?_
 ·refine AC.seq ?_
  refine AC.weak (t := ⟨31, 300, [(2, .ptr 201 0), (3, .ptr 202 0), (4, .ptr 203 0), (5, .ptr 204 0), (6, .ptr 200 0)], [(201, some (.cells 30 zStg)), (202, some (.cells 30 zStg)), (203, some (curC cc)), (204, some (.cells 30 [aI S.net.places, .d (vTs S.net.ts), .d (vSigs S.sigs), .d (vLabs S.labs), aS (bstr S.start)])), (200, some (.cells 30 [aI S.net.places, .own 105 S.net.ts.length, .own 101 S.sigs.length, .own 102 S.labs.length, aS (bstr S.start)])), (105, some (.arr 81 2 (tsL S.net.ts))), (101, some (.arr 58 2 (sigsL S.sigs))), (102, some (.arr 54 2 (labsL S.labs)))]⟩) (Weak.ren _ [(201, 201), (202, 202), (203, 203), (204, 204), (200, _), (105, _), (101, _), (102, _)] hC rfl (by repeat (first | exact True.intro | refine And.intro ?_ ?_ | exact rfl | refine ⟨_, rfl, ?_⟩)) (by repeat (first | exact True.intro | refine And.intro ?_ ?_ | exact DLead.same | exact rfl | refine ⟨_, _, rfl, rfl, ?_⟩ | refine ⟨_, rfl, ?_⟩ | refine ⟨_, _, rfl, ?_, ?_⟩)) rfl rfl rfl) ?_
  refine AC.region ?_
  refine AL.p (by exact mv3 rfl) rfl ?_
  refine AL.q (by exact h_fun (cs := [203]) en_pick rfl rfl (by repeat (first | exact rfl | exact DLead.same | refine ⟨_, _, rfl, ?_, ?_⟩ | refine ⟨_, rfl, ?_⟩)) (by repeat (first | exact True.intro | refine And.intro ?_ ?_ | exact DLead.same | exact rfl | refine ⟨_, _, rfl, rfl, ?_⟩ | refine ⟨_, rfl, ?_⟩ | refine ⟨_, _, rfl, ?_, ?_⟩)) hK rfl rfl rfl rfl) rfl ?_
  refine AL.nil (th_n (AC.block (AC.seq (AC.region ?_))))
  refine AL.p (by exact g_cmp rfl rfl rfl) rfl ?_
  refine AL.p (by exact as1 rfl) rfl ?_
  refine AL.nil (th_n ?_)
  refine AC.condD rfl (fun h0 => ?_) (fun h0 => ?_)
  ·refine AC.region ?_
   refine AL.p (by exact g_fa_ptr rfl rfl rfl rfl rfl) rfl ?_
   refine AL.p (by exact g_load_ptr rfl rfl rfl rfl rfl) rfl ?_
   refine AL.p (by exact g_saddB (a := S.start) (b := [48]) rfl rfl (by simp only [List.length_cons, List.length_nil]; omega)) rfl ?_
   refine AL.p (by exact g_fa_ptr rfl rfl rfl rfl rfl) rfl ?_
   refine AL.q (by exact h_store rfl rfl rfl rfl rfl rfl) rfl ?_
   refine AL.nil (ib_n (th_n ?_))
   (have e := hE.trans (if_pos ‹p.1 = 0›); exact ⟨_, e.symm, Weak.ren _ [(201, 201), (202, 202), (204, 204), (200, 200), (105, 105), (101, 101), (102, 102)] hC rfl (by repeat (first | exact True.intro | refine And.intro ?_ ?_ | exact rfl | refine ⟨_, rfl, ?_⟩)) (by repeat (first | exact True.intro | refine And.intro ?_ ?_ | exact DLead.same | exact rfl | refine ⟨_, _, rfl, rfl, ?_⟩ | refine ⟨_, rfl, ?_⟩ | refine ⟨_, _, rfl, ?_, ?_⟩)) rfl rfl rfl⟩)
  ·refine AC.seq (AC.region ?_)
   refine AL.p (by exact g_cmp rfl rfl rfl) rfl ?_
   refine AL.p (by exact as1 rfl) rfl ?_
   refine AL.nil (th_n ?_)
   refine AC.condD rfl (fun h1 => ?_) (fun h1 => ?_)
   ·have h0t : 0 < S.net.ts.length := by omega
    have hrow : (tsL S.net.ts)[0]? = some [vI (S.net.ts.getD 0 ⟨[], []⟩).pre, vI (S.net.ts.getD 0 ⟨[], []⟩).post] := by rw [List.getD_eq_getElem?_getD, List.getElem?_eq_getElem h0t]; exact tsL_get h0t
    have hset : (tsL S.net.ts).set 0 ([vI (S.net.ts.getD 0 ⟨[], []⟩).pre, vI (S.net.ts.getD 0 ⟨[], []⟩).post].set 1 (vI [])) = tsL (S.net.ts.set 0 ⟨(S.net.ts.getD 0 ⟨[], []⟩).pre, []⟩) := by unfold tsL; rw [List.map_set]; rfl
    have hsl : (S.net.ts.set 0 ⟨(S.net.ts.getD 0 ⟨[], []⟩).pre, []⟩).length = S.net.ts.length := List.length_set ..
    refine AC.region ?_
    refine AL.p (by exact g_fa_ptr rfl rfl rfl rfl rfl) rfl ?_
    refine AL.p (by exact g_fa_ptr rfl rfl rfl rfl rfl) rfl ?_
    refine AL.p (by exact g_load_ptr rfl rfl rfl rfl rfl) rfl ?_
    refine AL.p (by exact g_ia_own (i := 0) (l := S.net.ts.length) rfl rfl rfl rfl rfl rfl h0t rfl) rfl ?_
    refine AL.p (by exact g_fa_ptr rfl rfl rfl rfl rfl) rfl ?_
    refine AL.q (by exact h_store_arr (i := 0) (j := 1) (d := vI []) rfl rfl rfl rfl .nil rfl hrow (by decide)) rfl ?_
    refine AL.nil (ib_n (th_n ?_))
    (have e := hE.trans ((if_neg ‹¬ p.1 = 0›).trans (if_pos ‹p.1 = 1›)); exact ⟨_, e.symm, Weak.ren _ [(201, 201), (202, 202), (204, 204), (200, 200), (105, 105), (101, 101), (102, 102)] hC rfl (by repeat (first | exact True.intro | refine And.intro ?_ ?_ | exact rfl | refine ⟨_, rfl, ?_⟩)) (by dsimp only; rw [hsl, ← hset]; repeat (first | exact True.intro | refine And.intro ?_ ?_ | exact DLead.same | exact rfl | refine ⟨_, _, rfl, rfl, ?_⟩ | refine ⟨_, rfl, ?_⟩ | refine ⟨_, _, rfl, ?_, ?_⟩)) rfl rfl rfl⟩)
   ·refine AC.skip (ib_n (th_n ?_))
    (have e := hE.trans ((if_neg ‹¬ p.1 = 0›).trans (if_neg ‹¬ p.1 = 1›)); exact ⟨_, e.symm, Weak.ren _ [(201, 201), (202, 202), (204, 204), (200, 200), (105, 105), (101, 101), (102, 102)] hC rfl (by repeat (first | exact True.intro | refine And.intro ?_ ?_ | exact rfl | refine ⟨_, rfl, ?_⟩)) (by repeat (first | exact True.intro | refine And.intro ?_ ?_ | exact DLead.same | exact rfl | refine ⟨_, _, rfl, rfl, ?_⟩ | refine ⟨_, rfl, ?_⟩ | refine ⟨_, _, rfl, ?_, ?_⟩)) rfl rfl rfl⟩)
 ·rintro x rfl
  refine AC.weak (Weak.freezeP (els' := tsL x.net.ts) 6 1 rfl rfl rfl rfl (by rw [tsL_len]; exact Nat.le_refl _) (List.take_of_length_le (by rw [tsL_len]; exact Nat.le_refl _)) rfl) ?_
  refine AC.weak (Weak.freezeP (els' := sigsL x.sigs) 6 2 rfl rfl rfl rfl (by rw [sigsL_len]; exact Nat.le_refl _) (List.take_of_length_le (by rw [sigsL_len]; exact Nat.le_refl _)) rfl) ?_
  refine AC.weak (Weak.freezeP (els' := labsL x.labs) 6 3 rfl rfl rfl rfl (by rw [labsL_len]; exact Nat.le_refl _) (List.take_of_length_le (by rw [labsL_len]; exact Nat.le_refl _)) rfl) ?_
  refine AC.weak (t := ⟨31, 1200, [(2, .ptr 201 0), (3, .ptr 202 0), (5, .ptr 204 0), (6, .ptr 200 0)], [(201, some (.cells 30 zStg)), (202, some (.cells 30 zStg)), (204, some (.cells 30 [aI S.net.places, .d (vTs S.net.ts), .d (vSigs S.sigs), .d (vLabs S.labs), aS (bstr S.start)])), (200, some (.cells 30 [aI x.net.places, .d (vTs x.net.ts), .d (vSigs x.sigs), .d (vLabs x.labs), aS (bstr x.start)]))]⟩) (Weak.ren _ [(201, 201), (202, 202), (204, 204), (200, 200)] hC rfl (by repeat (first | exact True.intro | refine And.intro ?_ ?_ | exact rfl | refine ⟨_, rfl, ?_⟩)) (by repeat (first | exact True.intro | refine And.intro ?_ ?_ | exact DLead.same | exact rfl | refine ⟨_, _, rfl, rfl, ?_⟩ | refine ⟨_, rfl, ?_⟩ | refine ⟨_, _, rfl, ?_, ?_⟩)) rfl rfl rfl) ?_
  refine AC.seq ?_
  refine AC.drawn' mixed_ok [[], [], [0], [0,1,2]] (by decide) ?_
  refine DF.op 0 [] 4 rfl rfl rfl (.free rfl (NOp.of (by exact g_load_ptrN rfl rfl rfl rfl rfl))) rfl ?_
  refine DF.op 1 [] 4 rfl rfl rfl (.free rfl (NOp.of (by exact g_load_ptrN rfl rfl rfl rfl rfl))) rfl ?_
  refine DF.op 2 [0] 4 rfl rfl rfl (.free rfl (by exact h_store rfl rfl rfl rfl rfl rfl)) rfl ?_
  refine DF.op 3 [0,1,2] 4 rfl rfl rfl (.free rfl (by exact h_store rfl rfl rfl rfl rfl rfl)) rfl ?_
  refine DF.fin (ps := [(0,1),(1,0),(1,2),(2,1)]) 4 rfl (by decide +kernel) (by decide +kernel) (by rfl) ?_
  refine th_n (AC.ret (bq_r ?_))
  exact ret0 rfl (by repeat (first | exact DLead.same | exact rfl | refine ⟨_, rfl, ?_⟩ | refine ⟨_, _, rfl, ?_, ?_⟩))
theorem en_sDrawEqS : Enters Try.prog 20 := enters_of Try.func20 rfl rfl
section
variable {P : Program} [PT P] {s : ASt} {dst : Option Nat} {ty : Nat} {pos : String} {af : Array Edge} {gd : Option (Nat × Bool)} {x y : Operand} {f t : Nat}
theorem g_slice_part {e n bt sz id k l h o : Nat} {zs : List ZK} {te : TS} {lo hi : Option Operand} (ht : PT.ty P t = some ⟨.slice e, n, bt, zs⟩) (he : PT.ty P e = some te) (hs : te.size = sz) {els : List (List DV)} {e' : Nat} (hx : s.ev x = .own id k) (hc : s.chunk id = some (.arr e' sz els)) (hlo : OptEv s lo 0 l) (hhi : OptEv s hi k h) (h1 : l ≤ h) (h2 : h ≤ els.length) (ho : l * sz = o) {q : Nat} (hq : h - l = q) :
  GOp P [id] s ⟨dst, .slice t x lo hi none, ty, pos, af, gd⟩ (.part id o q) := by
 subst ho hq
 refine ⟨fun s' ha C U a w m hR => ?_⟩
 have hv := hR.ev x
 rw [ha.2.1 x (by simp [Op.operands]), hx] at hv
 have hc' : s'.chunk id = some (.arr e' sz els) := by rw [ha.2.2 id (by simp)]; exact hc
 have olo := optEv_run ha hR hlo (by rintro x rfl; simp [Op.operands])
 have ohi := optEv_run ha hR hhi (by rintro x rfl; cases lo <;> simp [Op.operands])
 generalize hvv : a.eval x = v at hv
 cases hv with
 | own hp h0 =>
  rename_i cap b
  have hle : els.length ≤ cap ∧ (0 < els.length → ∃ k, b = some k) := by
   cases hR.chunkAt hc' hp with
   | arr _ _ _ h _ => exact ⟨h, fun _ => ⟨_, rfl⟩⟩
   | nil => simp
  have hb := run_bounds (P := P) (isS := true) (len := k) (cap := cap) (mx := none) (l := l) (mm := cap) olo ohi (.inl ⟨rfl, rfl⟩) h1 (by omega) (Nat.le_refl _) w
  refine ⟨_, ?_, .part (b := b) (cap := cap) (a := if cap = l then b.map (fun b => ⟨b, 0, none⟩) else (b.map (fun b => (⟨b, 0, none⟩ : Addr))).map (·.add (l * sz))) (c := cap - l) hp (fun hpos => ?_)⟩
  ·simp only [execOp, Sem.run_bind, hvv, Option.map_none, run_sliceS ht he hs hb, Result.andThen_ok, Sem.run_pure]
  ·obtain ⟨q, rfl⟩ := hle.2 (by omega)
   refine ⟨q, rfl, ?_⟩
   rw [if_neg (by omega)]
   simp [addr_add]
end
section
variable {P : Program} [PT P] {s : ASt} {dst : Option Nat} {ty : Nat} {pos : String} {af : Array Edge} {gd : Option (Nat × Bool)} {x y : Operand} {f t : Nat}
theorem g_slice3_dead {e n bt sz id k l h m0 : Nat} {zs : List ZK} {te : TS} {lo hi mx : Operand} {I J L : Int} (ht : PT.ty P t = some ⟨.slice e, n, bt, zs⟩) (he : PT.ty P e = some te) (hs : te.size = sz) {els : List (List DV)} {e' : Nat} (hx : s.ev x = .own id k) (hc : s.chunk id = some (.arr e' sz els))
  (hlo : s.ev lo = aI I) (hI : I = (l : Int)) (hhi : s.ev hi = aI J) (hJ : J = (h : Int)) (hmx : s.ev mx = aI L) (hL : L = (m0 : Int)) (h1 : l ≤ h) (h2 : h ≤ m0) (h3 : m0 ≤ els.length) :
  GOp P [id] s ⟨dst, .slice t x (some lo) (some hi) (some mx), ty, pos, af, gd⟩ .dead := by
 subst hI hJ hL
 refine ⟨fun s' ha C U a w m hR => ?_⟩
 have hv := hR.ev x
 rw [ha.2.1 x (by simp [Op.operands]), hx] at hv
 have hc' : s'.chunk id = some (.arr e' sz els) := by rw [ha.2.2 id (by simp)]; exact hc
 have olo := hR.ev lo
 rw [ha.2.1 lo (by simp [Op.operands]), hlo] at olo
 have ohi := hR.ev hi
 rw [ha.2.1 hi (by simp [Op.operands]), hhi] at ohi
 have omx := hR.ev mx
 rw [ha.2.1 mx (by simp [Op.operands]), hmx] at omx
 generalize hvv : a.eval x = v at hv
 cases hv with
 | own hp h0 =>
  rename_i cap b
  have hle : els.length ≤ cap := by
   cases hR.chunkAt hc' hp with
   | arr _ _ _ h _ => exact h
   | nil => simp
  have hb := run_bounds (P := P) (isS := true) (len := k) (cap := cap) (lo := some (a.eval lo)) (hi := some (a.eval hi)) (mx := some (a.eval mx)) (l := l) (h := h) (mm := m0) (.inr (by rw [olo.val_eq.1])) (.inr (by rw [ohi.val_eq.1])) (.inr ⟨by rw [omx.val_eq.1], by simp⟩) h1 h2 (by omega) w
  refine ⟨.slice (if m0 = l then b.map (fun b => (⟨b, 0, none⟩ : Addr)) else (b.map (fun b => (⟨b, 0, none⟩ : Addr))).map (·.add (l * sz))) (h - l) (m0 - l), ?_, .dead⟩
  simp only [execOp, Sem.run_bind, hvv, Option.map_some, run_sliceS ht he hs hb, Result.andThen_ok, Sem.run_pure]
theorem h_appendIn {tx e e2 n bt n2 bt2 id sz i k : Nat} {zs zs2 : List ZK} {te : TS} {els new : List (List DV)} {ids2 : List Nat} {e' : Nat} (ht : PT.ty P t = some ⟨.slice e, n, bt, zs⟩) (htx : PT.ty P tx = some ⟨.slice e2, n2, bt2, zs2⟩) (he : PT.ty P e = some te) (hs : te.size = sz) (hx : s.ev x = .own id i) (hc : s.chunk id = some (.arr e' sz els)) (harg : AppArg s y sz new ids2) (hne : 0 < els.length) (hik : i + new.length ≤ els.length) (hk : i + new.length = k) :
  NOp P (id :: ids2) s ⟨dst, .call { callee := .builtin .append, args := #[x, y], argTypes := #[t, tx] }, ty, pos, af, gd⟩ f ⟨.own id k, [(id, some (.arr e' sz (els.take i ++ new ++ els.drop (i + new.length))))]⟩ := by
 subst hk
 refine ⟨fun s' hag C U U' a w m hR hU hU' hd K Q hK => ?_⟩
 have hc' : s'.chunk id = some (.arr e' sz els) := by rw [hag.2.2 id (by simp)]; exact hc
 have hxr := hR.ev x
 rw [hag.2.1 x (by simp [Op.operands, Call.operands]), hx] at hxr
 obtain ⟨vs, hv⟩ := harg.rows (hag.2.1 y (by simp [Op.operands, Call.operands])) (fun j hj => hag.2.2 j (List.mem_cons_of_mem _ hj)) hR
 obtain ⟨p, hp, hC, hloc⟩ := hR.ch id _ hc'
 obtain ⟨i0, _, _, hi0, _, _, hsz0, _⟩ := PT.facts he
 have hinfo : i0.size = sz := by rw [hsz0]; exact hs
 have hsrc : Src P i0.size tx (a.eval y) new.length vs w := by rw [hinfo]; exact src_of hv (PT.slice htx)
 obtain ⟨_, hvl, hone, hrep, hrows⟩ := hv
 generalize hvx : a.eval x = xv at hxr
 cases hC with
 | nil hz0 => simp at hne
 | arr hb hf hsz hl hm h0 hrow hel =>
  rename_i b cap arr fz
  cases hxr with
  | own hp' hn0 =>
   rw [hp] at hp'
   simp only [Option.some.injEq, Prod.mk.injEq] at hp'
   obtain ⟨q1, q2⟩ := hp'
   subst q1 q2
   have hin : (i + new.length) * sz ≤ arr.size := by rw [hsz]; exact Nat.mul_le_mul_right _ (by omega)
   rw [Nat.add_mul] at hin
   have hrun := run_append_room_src (P := P) w t tx ty e i0 (PT.slice ht) hi0 b 0 i cap (a.eval y) new.length vs hsrc (by omega) (fun j hj => by rw [hinfo, Nat.zero_add, cell_getD hb (by omega)]; rfl) (fun j hj => by
    rw [hinfo, Nat.zero_add]
    have := hf (i * sz + j) (by omega)
    simp only [World.frozen?, hb]
    simpa using this)
   rw [hinfo, Nat.zero_add] at hrun
   have hg : ∀ q, (setSeg arr (i * sz) vs).getD q undef = if i * sz ≤ q ∧ q < i * sz + new.length * sz then vs.getD (q - i * sz) undef else arr.getD q undef := by
    intro q
    rw [setSeg_get _ _ _ (by omega) q, hvl]
   have hlen : (els.take i ++ new ++ els.drop (i + new.length)).length = els.length := by simp; omega
   have hat : ∀ (q : Nat) (row : List DV), (els.take i ++ new ++ els.drop (i + new.length))[q]? = some row → (i ≤ q ∧ q < i + new.length ∧ new[q - i]? = some row) ∨ ((q < i ∨ i + new.length ≤ q) ∧ els[q]? = some row) := by
    intro q row hq
    rcases Nat.lt_or_ge q i with h2 | h2
    ·right
     rw [List.append_assoc, List.getElem?_append_left (by simp; omega), List.getElem?_take, if_pos h2] at hq
     exact ⟨.inl h2, hq⟩
    ·rcases Nat.lt_or_ge q (i + new.length) with h3 | h3
     ·left
      rw [List.getElem?_append_left (by simp; omega), List.getElem?_append_right (by simp; omega)] at hq
      refine ⟨h2, h3, ?_⟩
      rw [← hq]; congr 1; simp; omega
     ·right
      rw [List.getElem?_append_right (by simp; omega), List.getElem?_drop] at hq
      refine ⟨.inr h3, ?_⟩
      rw [← hq]; congr 1; simp; omega
   have hR' := hR.turned (i := dst) (r := .own id (i + new.length)) (v := .slice (some ⟨b, 0, none⟩) (i + new.length) cap) (w' := w.setCells b (i * sz) vs) (c' := .arr e' sz (els.take i ++ new ++ els.drop (i + new.length))) hd hc' hp (fr_setCells _ w _) (fun F' hF => ⟨.own (b := some b) hp (by simp), .arr (heap_setCells_at _ w _ _ hb) (by rw [setSeg_size]; exact hf) (by rw [setSeg_size]; exact hsz) (by rw [hlen]; exact hl) hm h0 (fun q row hq => ?_) (fun q row j dd hq hj => ?_)⟩)
   ·unfold Oper.wp
    simp only [execOp, resolve, invoke, builtin, Sem.run_bind, Sem.run_pure, Result.andThen_ok, Oper.upon]
    have hvx' : a.eval x = .slice (some ⟨b, 0, none⟩) i cap := by rw [hvx]; rfl
    simp [hvx', hrun, Result.andThen]
    exact hK _ _ m (hR'.weaken rfl (fun _ => .inr rfl) (fun _ _ h => h) (fun j hj => (hU' j hj).1))
   ·rcases hat q row hq with ⟨_, _, h2⟩ | ⟨_, h2⟩
    ·exact hrows _ _ h2
    ·exact hrow _ _ h2
   ·rw [hg]
    rcases hat q row hq with ⟨h2, h3, h4⟩ | ⟨h2, h4⟩
    ·have hj2 : j < sz := by
      have := hrows _ _ h4
      have := (List.getElem?_eq_some_iff.1 hj).1
      omega
     have e1 : q * sz = i * sz + (q - i) * sz := by rw [← Nat.add_mul]; congr 1; omega
     have e2 : (q - i + 1) * sz ≤ new.length * sz := Nat.mul_le_mul_right _ (by omega)
     rw [Nat.succ_mul] at e2
     rw [if_pos (by omega), show q * sz + j - i * sz = (q - i) * sz + j from by omega]
     exact (hrep _ _ j dd h4 hj).turn (fun k hk _ => hF k hk)
    ·have hj2 : j < sz := by
      have := hrow _ _ h4
      have := (List.getElem?_eq_some_iff.1 hj).1
      omega
     rw [if_neg]
     ·exact (hel q row j dd h4 hj).turn (fun k hk _ => hF k hk)
     ·rintro ⟨q1, q2⟩
      rcases h2 with h2 | h2
      ·have : (q + 1) * sz ≤ i * sz := Nat.mul_le_mul_right _ h2
       rw [Nat.succ_mul] at this
       omega
      ·have : (i + new.length) * sz ≤ q * sz := Nat.mul_le_mul_right _ h2
       rw [Nat.add_mul] at this
       omega
theorem h_clear {e n bt id sz i q : Nat} {zs : List ZK} {te : TS} {els : List (List DV)} {e' : Nat} (ht : PT.ty P t = some ⟨.slice e, n, bt, zs⟩) (he : PT.ty P e = some te) (hs : te.size = sz) (hz0 : te.zero.length = te.size) (hx : s.ev x = .part id (i * sz) q) (hc : s.chunk id = some (.arr e' sz els)) (hq : 0 < q) (hik : i + q ≤ els.length) :
  NOp P [id] s ⟨dst, .call { callee := .builtin .clear, args := #[x], argTypes := #[t] }, ty, pos, af, gd⟩ f ⟨.dead, [(id, some (.arr e' sz (els.take i)))]⟩ := by
 refine ⟨fun s' hag C U U' a w m hR hU hU' hd K Q hK => ?_⟩
 have hc' : s'.chunk id = some (.arr e' sz els) := by rw [hag.2.2 id (by simp)]; exact hc
 have hxr := hR.ev x
 rw [hag.2.1 x (by simp [Op.operands, Call.operands]), hx] at hxr
 obtain ⟨p, hp, hC, hloc⟩ := hR.ch id _ hc'
 obtain ⟨i0, _, z, hi0, _, _, hsz0, _, hiz, hzc⟩ := PT.facts he
 have hinfo : i0.size = sz := by rw [hsz0]; exact hs
 have hzs : z.cells.size = sz := by rw [hzc]; simp [hz0, hs]
 generalize hvx : a.eval x = xv at hxr
 cases hC with
 | nil _ => simp at hik; omega
 | arr hb hf hsz hl hm h0 hrow hel =>
  rename_i b cap arr fz
  cases hxr with
  | part hp' hn0 =>
   rename_i cap' c' bo ad
   rw [hp] at hp'
   simp only [Option.some.injEq] at hp'
   obtain ⟨bb, hbb, rfl⟩ := hn0 hq
   have hbb2 : b = bb := by
    have h9 : (some b : Option Nat) = bo := congrArg Prod.fst hp'
    rw [hbb] at h9; simpa using h9
   subst hbb2
   have hin : (i + q) * sz ≤ arr.size := by rw [hsz]; exact Nat.mul_le_mul_right _ (by omega)
   rw [Nat.add_mul] at hin
   obtain ⟨cs, hcs⟩ : ∃ cs, cs = (Builtin.zeroCells z.cells q).toList := ⟨_, rfl⟩
   have hcl : cs.length = q * sz := by rw [hcs]; simp [Builtin.zeroCells, hzs]
   have hone : ∀ v ∈ cs, v.oneCell' = true := by
    intro v hv
    rw [hcs] at hv
    simp only [Builtin.zeroCells, Array.toList_map, List.mem_map, Array.toList_range, List.mem_range] at hv
    obtain ⟨j, hj, rfl⟩ := hv
    have hlt : j % z.cells.size < z.cells.size := Nat.mod_lt _ (by rw [hzs]; omega)
    have hv2 : z.cells[j % z.cells.size]! ∈ z.cells := by
     rw [getElem!_pos z.cells _ hlt]; exact Array.getElem_mem hlt
    have key : ∀ v, v ∈ z.cells → v.oneCell' = true := by
     intro v hv
     rw [hzc] at hv
     simp only [List.mem_toArray, List.mem_map] at hv
     obtain ⟨zz, _, rfl⟩ := hv
     cases zz <;> rfl
    exact key _ hv2
   have hst := run_storeCells_cells (P := P) b (i * sz) cs 0 w (fun j hj => by rw [Nat.add_zero, cell_getD hb (by omega)]; rfl) (fun j hj => by
    have := hf (i * sz + j) (by omega)
    simp only [World.frozen?, hb]
    simpa using this) hone
   simp only [Nat.add_zero] at hst
   have hrun : (Builtin.clear_ #[t] ty #[.slice (some ⟨b, i * sz, none⟩) q c']).run P w = .ok (.tuple #[]) (w.setCells b (i * sz) cs) := by
    obtain ⟨q', rfl⟩ : ∃ q', q = q' + 1 := ⟨q - 1, by omega⟩
    have hzv : (zeroValue e).run P w = .ok z w := by simp [zeroValue, typeInfo, hi0, hiz]
    rw [hcs] at hst
    simp [Builtin.clear_, run_underlying (PT.slice ht), hzv, hst, Result.andThen, hcs]
   have hg : ∀ r, r < i * sz → (setSeg arr (i * sz) cs).getD r undef = arr.getD r undef := by
    intro r hr
    rw [setSeg_get _ _ _ (by omega) r, if_neg (by omega)]
   have hR' := hR.turned (i := dst) (r := .dead) (v := .tuple #[]) (w' := w.setCells b (i * sz) cs) (c' := .arr e' sz (els.take i)) hd hc' hp (fr_setCells _ w _) (fun F' hF => ⟨.dead, .arr (heap_setCells_at _ w _ _ hb) (by rw [setSeg_size]; exact hf) (by rw [setSeg_size]; exact hsz) (by rw [List.length_take]; omega) hm h0 (fun r row hr => ?_) (fun r row j dd hr hj => ?_)⟩)
   ·unfold Oper.wp
    simp only [execOp, resolve, invoke, builtin, Sem.run_bind, Sem.run_pure, Result.andThen_ok, Oper.upon]
    simp [hvx, hrun, Result.andThen]
    exact hK _ _ m (hR'.weaken rfl (fun _ => .inr rfl) (fun _ _ h => h) (fun j hj => (hU' j hj).1))
   ·rw [List.getElem?_take] at hr
    split at hr
    ·exact hrow _ _ hr
    ·cases hr
   ·rw [List.getElem?_take] at hr
    split at hr
    ·rename_i h2
     have hj2 : j < sz := by
      have := hrow _ _ hr
      have := (List.getElem?_eq_some_iff.1 hj).1
      omega
     have e2 : (r + 1) * sz ≤ i * sz := Nat.mul_le_mul_right _ h2
     rw [Nat.succ_mul] at e2
     rw [hg _ (by omega)]
     exact (hel r row j dd hr hj).turn (fun k hk _ => hF k hk)
    ·cases hr
end
section
variable {P : Program} [PT P] {s : ASt} {dst : Option Nat} {ty : Nat} {pos : String} {af : Array Edge} {gd : Option (Nat × Bool)} {x y : Operand} {xt yt : Nat}
theorem g_neBr {a : Bool} {n bt : Nat} {zs : List ZK} (ht : PT.ty P xt = some ⟨.bool, n, bt, zs⟩) (hx : s.ev x = aT a) (hy : s.ev y = aT a) : GOp P [] s ⟨dst, .binOp .neq xt x y yt, ty, pos, af, gd⟩ (aT false) := by
 have h := g_neB (P := P) (dst := dst) (ty := ty) (pos := pos) (af := af) (gd := gd) (yt := yt) ht hx hy
 rwa [beq_self_eq_true] at h
theorem g_neIr {k : IntKind} {a b : Int} (hx : s.ev x = .d (.val (.int k a))) (hy : s.ev y = .d (.val (.int k b))) (h : a = b) : GOp P [] s ⟨dst, .binOp .neq xt x y yt, ty, pos, af, gd⟩ (aT false) := g_cmp hx hy (by show some (!decide (a = b)) = _; rw [decide_eq_true h]; rfl)
theorem g_neSr {a b : ByteArray} (hx : s.ev x = aS a) (hy : s.ev y = aS b) (h : a = b) : GOp P [] s ⟨dst, .binOp .neq xt x y yt, ty, pos, af, gd⟩ (aT false) := g_scmp hx hy (by show some (!decide (a = b)) = _; rw [decide_eq_true h]; rfl)
end
theorem mixF_same {α : Type} {f : α → α} {l : List α} {k : Nat} (hk : k < l.length) (h : f l[k] = l[k]) : mixF f l (k + 1) = mixF f l k := by
 rw [← mixF_set hk, h]
 exact List.ext_getElem? fun i => by
  rw [List.getElem?_set]
  split
  ·rename_i e
   subst e
   rw [if_pos (by rw [mixF_len]; exact hk), mixF_get hk]
  ·rfl
def delL {α : Type} (l : List α) (i : Nat) : List α := l.take i ++ l.drop (i + 1)
theorem delL_len {α : Type} {l : List α} {i : Nat} (hi : i < l.length) : (delL l i).length = l.length - 1 := by unfold delL; rw [List.length_append, List.length_take, List.length_drop]; omega
set_option maxHeartbeats 4000000 in
theorem delSig_spec (l : List Sig) (i : Nat) (hi : i < l.length) (hl : l.length ≤ 100000) : ASpec Try.prog 31 [.own 0 l.length, aI (i : Int), aI ((i : Int) + 1)] [(0, .arr 58 2 (sigsL l))] (Fun1 (.own 0 (l.length - 1)) [(0, .arr 58 2 (sigsL (delL l i)))]) := by
 have hsl := sigsL_len l
 have e1 : ((sigsL l).drop (i + 1)).take (l.length - (i + 1)) = sigsL (l.drop (i + 1)) := by
  unfold sigsL
  rw [← List.map_drop, List.take_of_length_le (by rw [List.length_map, List.length_drop]; exact Nat.le_refl _)]
 have hnl : (sigsL (l.drop (i + 1))).length = l.length - (i + 1) := by rw [sigsL_len, List.length_drop]
 have e2 : (sigsL l).take i ++ sigsL (l.drop (i + 1)) ++ (sigsL l).drop (i + (sigsL (l.drop (i + 1))).length) = sigsL (delL l i ++ l.drop (l.length - 1)) := by
  rw [hnl, show i + (l.length - (i + 1)) = l.length - 1 by omega]
  unfold sigsL delL
  rw [List.map_append, List.map_append, List.map_take, List.map_drop, List.map_drop]
 have hdl := delL_len hi
 have e3 : (sigsL (delL l i ++ l.drop (l.length - 1))).take (l.length - 1) = sigsL (delL l i) := by
  unfold sigsL
  rw [List.map_append, List.take_left' (by rw [List.length_map]; exact hdl)]
 refine ASpec.of Try.func31 rfl rfl fun C hC => ?_
 refine AC.seq (AC.region ?_)
 refine AL.p (by exact as1 rfl) rfl ?_
 refine AL.nil (th_n (AC.seq (AC.region ?_)))
 refine AL.p (by exact mv2 rfl) rfl ?_
 refine AL.p (by exact mv1 rfl) rfl ?_
 refine AL.p (by exact mv1 rfl) rfl ?_
 refine AL.p (by exact mv2 rfl) rfl ?_
 refine AL.p (by exact g_len_own (sz := 1) (els := []) (e' := 0) rfl rfl (by simp only [maxLen]; omega)) rfl ?_
 refine AL.p (by exact g_slice3_dead (l := i) (h := i + 1) (m0 := l.length) rfl rfl rfl rfl rfl rfl rfl rfl (by omega) rfl rfl (by omega) (by omega) (by rw [hsl]; exact Nat.le_refl _)) rfl ?_
 refine AL.nil (th_n (AC.seq (AC.seq (AC.region ?_))))
 refine AL.p (by exact mv1 rfl) rfl ?_
 refine AL.p (by exact mv1 rfl) rfl ?_
 refine AL.p (by exact g_cmp rfl rfl rfl) rfl ?_
 refine AL.nil (th_n ?_)
 refine AC.condD rfl (fun h0 => ?_) (fun h0 => ?_)
 ·refine AC.seq ?_
  exact absurd h0 (by omega)
 ·refine AC.skip (th_n (AC.seq (AC.region ?_)))
  refine AL.p (by exact mv2 rfl) rfl ?_
  refine AL.p (by exact g_len_own (sz := 1) (els := []) (e' := 0) rfl rfl (by simp only [maxLen]; omega)) rfl ?_
  refine AL.p (by exact as1 rfl) rfl ?_
  refine AL.nil (th_n (AC.seq ?_))
  refine AC.drawn' mixed_ok [[], [], [0,1], [], [], [3,4], [0,1,2,3,4,5], [0,1,2,3,4,5,6]] (by decide) ?_
  refine DF.op 0 [] 8 rfl rfl rfl (.free rfl (NOp.of (by exact mv2 rfl))) rfl ?_
  refine DF.op 1 [] 8 rfl rfl rfl (.free rfl (NOp.of (by exact mv1 rfl))) rfl ?_
  refine DF.op 2 [0,1] 8 rfl rfl rfl (.free rfl (NOp.of (by exact g_slice_own (els := sigsL l) (e' := 58) (sz := 2) rfl rfl rfl rfl (.some rfl rfl) (by rw [hsl]; omega)))) rfl ?_
  refine DF.op 3 [] 8 rfl rfl rfl (.free rfl (NOp.of (by exact mv2 rfl))) rfl ?_
  refine DF.op 4 [] 8 rfl rfl rfl (.free rfl (NOp.of (by exact mv1 rfl))) rfl ?_
  refine DF.op 5 [3,4] 8 rfl rfl rfl (.free rfl (NOp.of (by exact g_slice_part (els := sigsL l) (e' := 58) (sz := 2) (l := i + 1) (h := l.length) rfl rfl rfl rfl rfl (.some rfl (by omega)) .none (by omega) (by rw [hsl]; exact Nat.le_refl _) rfl rfl))) rfl ?_
  refine DF.op 6 [0,1,2,3,4,5] 8 rfl rfl rfl (.free rfl (by exact h_appendIn (new := sigsL (l.drop (i + 1))) (els := sigsL l) (e' := 58) (sz := 2) rfl rfl rfl rfl rfl rfl (.part rfl rfl rfl (by rw [hsl]; omega) e1) (by rw [hsl]; omega) (by rw [hsl, hnl]; omega) rfl)) rfl ?_
  refine DF.op 7 [0,1,2,3,4,5,6] 8 rfl rfl rfl (.free rfl (NOp.of (by exact as2 rfl))) rfl ?_
  refine DF.fin (ps := [(0,1),(0,3),(0,4),(0,5),(1,0),(1,3),(1,4),(1,5),(2,3),(2,4),(2,5),(3,0),(3,1),(3,2),(3,4),(4,0),(4,1),(4,2),(4,3),(5,0),(5,1),(5,2)]) 8 rfl (by decide +kernel) (by decide +kernel) (by rfl) ?_
  refine th_n (AC.seq ?_)
  refine AC.weak (t := ⟨33, 300, [(0, .own 0 (i + (sigsL (l.drop (i + 1))).length)), (7, aI l.length)], [(0, some (.arr 58 2 (sigsL (delL l i ++ l.drop (l.length - 1)))))]⟩) (Weak.ren _ [] hC rfl (by repeat (first | exact True.intro | refine And.intro ?_ ?_ | exact DLead.same | exact rfl | refine ⟨_, rfl, ?_⟩)) (by rw [← e2]; repeat (first | exact True.intro | refine And.intro ?_ ?_ | exact rfl | refine ⟨_, _, rfl, rfl, ?_⟩)) rfl rfl rfl) ?_
  rw [hnl, show i + (l.length - (i + 1)) = l.length - 1 by omega]
  refine AC.region ?_
  refine AL.p (by exact mv2 rfl) rfl ?_
  refine AL.p (by exact mv2 rfl) rfl ?_
  refine AL.p (by exact g_len_own (sz := 1) (els := []) (e' := 0) rfl rfl (by simp only [maxLen]; omega)) rfl ?_
  refine AL.p (by exact mv1 rfl) rfl ?_
  refine AL.p (by exact g_slice_part (els := sigsL (delL l i ++ l.drop (l.length - 1))) (e' := 58) (sz := 2) (l := l.length - 1) (h := l.length) (q := 1) rfl rfl rfl rfl rfl (.some rfl rfl) (.some rfl rfl) (by omega) (by rw [sigsL_len, List.length_append, hdl, List.length_drop]; omega) rfl (by omega)) rfl ?_
  refine AL.q (by exact h_clear (i := l.length - 1) (q := 1) (els := sigsL (delL l i ++ l.drop (l.length - 1))) (e' := 58) (sz := 2) rfl rfl rfl rfl rfl rfl (by decide) (by rw [sigsL_len, List.length_append, hdl, List.length_drop]; omega)) rfl ?_
  refine AL.nil (th_n (AC.seq (AC.region ?_)))
  refine AL.p (by exact mv2 rfl) rfl ?_
  refine AL.p (by exact as2 rfl) rfl ?_
  refine AL.nil (th_n (AC.ret (bq_r ?_)))
  exact retN [] rfl (by repeat (first | exact rfl | refine ⟨_, rfl, ?_⟩)) (by rw [← e3]; repeat (first | exact True.intro | refine And.intro ?_ ?_ | exact rfl | refine ⟨_, _, rfl, rfl, ?_⟩)) rfl rfl
theorem en_delSig : Enters Try.prog 31 := enters_of Try.func31 rfl rfl
def hidL (sig : Int) (x : Lab) : Lab := if x.sig = sig then ⟨-1, false⟩ else if x.sig > sig then ⟨x.sig - 1, x.up⟩ else x
def hidT (s : Stg) (k : Nat) : Stg := ⟨s.net, delL s.sigs k, s.labs.map (hidL k), s.start⟩
def hidR (s : Stg) (sig : Int) : Stg × Bool := if (goodS s && ((decide (0 ≤ sig) && decide (sig ≤ (s.sigs.length : Int) - 1)) && !decide ((s.sigs.length : Int) < 2))) = true then (hidT s sig.toNat, true) else (zS, false)
set_option maxHeartbeats 8000000 in
theorem iHide_spec (s : Stg) (sg : Int) (hB : StgB s) : ASpec Try.prog 10 [stgA s, aI sg] [] (Pure1 (.tup [stgA (hidR s sg).1, aT (hidR s sg).2])) := by
 have hV := iIsValidSTG_spec s hB.L
 have hCp := copySTG_spec s hB
 have hW := within_spec sg 0 ((s.sigs.length : Int) - 1)
 have hR : hidR s sg = if (goodS s && ((decide (0 ≤ sg) && decide (sg ≤ (s.sigs.length : Int) - 1)) && !decide ((s.sigs.length : Int) < 2))) = true then (hidT s sg.toNat, true) else (zS, false) := rfl
 have hbn : (decide (0 ≤ sg) && decide (sg ≤ (s.sigs.length : Int) - 1)) = true → 0 ≤ sg ∧ sg ≤ (s.sigs.length : Int) - 1 := fun q => by simpa using q
 have hsg := hB.sg
 have hlb := hB.l
 have hlbs := hB.lb
 obtain ⟨b, hb⟩ : ∃ b, b = goodS s := ⟨_, rfl⟩
 rw [← hb] at hV hCp hR
 obtain ⟨b2, hb2⟩ : ∃ b, b = (decide (0 ≤ sg) && decide (sg ≤ (s.sigs.length : Int) - 1)) := ⟨_, rfl⟩
 rw [← hb2] at hW hR hbn
 obtain ⟨G, hG⟩ : ∃ G, G = hidR s sg := ⟨_, rfl⟩
 rw [← hG] at hR ⊢
 have hN1 : b = false → G = (zS, false) := fun q => hR.trans (if_neg (by rw [q]; simp))
 have hN2 : b2 = false → G = (zS, false) := fun q => hR.trans (if_neg (by rw [q]; simp))
 have hN3 : (s.sigs.length : Int) < 2 → G = (zS, false) := fun q => hR.trans (if_neg (by rw [decide_eq_true q]; simp))
 clear hG hb hb2
 refine ASpec.of Try.func10 rfl rfl fun C hC => ?_
 refine AC.seq (AC.region ?_)
 refine AL.q (by exact h_boxF rfl rfl) rfl ?_
 refine AL.q (by exact h_alloc rfl) rfl ?_
 refine AL.p (by exact as1 rfl) rfl ?_
 refine AL.nil (th_n (AC.seq (AC.seq (AC.region ?_))))
 refine AL.p (by exact g_load_refN rfl rfl rfl rfl) rfl ?_
 refine AL.q (by exact h_pure en_iIsValidSTG rfl rfl (by repeat (first | exact rfl | exact DLead.same | refine ⟨_, _, rfl, ?_, ?_⟩ | refine ⟨_, rfl, ?_⟩)) hV rfl) rfl ?_
 refine AL.p (by exact g_not rfl) rfl ?_
 refine AL.p (by exact mv1 rfl) rfl ?_
 refine AL.caseGB rfl rfl (fun h0 => ?_) (fun h0 => ?_)
 ·refine AL.not rfl rfl rfl rfl rfl ?_
  refine AL.not rfl rfl rfl rfl rfl ?_
  refine AL.not rfl rfl rfl rfl rfl ?_
  refine AL.not rfl rfl rfl rfl rfl ?_
  refine AL.not rfl rfl rfl rfl rfl ?_
  refine AL.not rfl rfl rfl rfl rfl ?_
  refine AL.not rfl rfl rfl rfl rfl ?_
  refine AL.p (by exact g_pickT (r := .d _) rfl rfl) rfl ?_
  refine AL.p (by exact mv1 rfl) rfl ?_
  refine AL.not rfl rfl rfl rfl rfl ?_
  refine AL.not rfl rfl rfl rfl rfl ?_
  refine AL.not rfl rfl rfl rfl rfl ?_
  refine AL.not rfl rfl rfl rfl rfl ?_
  refine AL.p (by exact g_pickT (r := .d _) rfl rfl) rfl ?_
  refine AL.nil (th_n ?_)
  refine AC.condT rfl ?_
  refine AC.seq (AC.region ?_)
  refine AL.p (by exact g_build rfl rfl rfl) rfl ?_
  refine AL.q (by exact h_store rfl rfl rfl rfl rfl rfl) rfl ?_
  refine AL.p (by exact as1 rfl) rfl ?_
  refine AL.nil (th_n (AC.ret (th_r (bq_r ?_))))
  have e : G = (zS, false) := by exact hN1 (by simpa using h0)
  exact ret0 rfl (by rw [e]; show AV.leads _ (.tup [stgA zS, aT false]) _; repeat (first | exact DLead.same | exact DLead.nil | exact rfl | refine ⟨_, rfl, ?_⟩ | refine ⟨_, _, rfl, ?_, ?_⟩))
 ·refine AL.yes rfl rfl rfl ?_
  refine AL.p (by exact mv1 rfl) rfl ?_
  refine AL.yes rfl rfl rfl ?_
  refine AL.p (by exact g_fa_ref rfl rfl rfl rfl rfl rfl) rfl ?_
  refine AL.yes rfl rfl rfl ?_
  refine AL.p (by exact g_load_ref rfl rfl rfl) rfl ?_
  refine AL.yes rfl rfl rfl ?_
  refine AL.p (by exact g_len_view (k := s.sigs.length) rfl rfl (sigsL_len _)) rfl ?_
  refine AL.yes rfl rfl rfl ?_
  refine AL.p (by exact g_arith rfl rfl rfl (by exact wrap_i64 (by omega))) rfl ?_
  refine AL.yes rfl rfl rfl ?_
  refine AL.q (by exact h_pure en_within rfl rfl (by repeat (first | exact rfl | exact DLead.same | refine ⟨_, _, rfl, ?_, ?_⟩)) hW rfl) rfl ?_
  refine AL.yes rfl rfl rfl ?_
  refine AL.p (by exact g_not rfl) rfl ?_
  refine AL.p (by exact g_pickF (r := .d _) rfl rfl) rfl ?_
  refine AL.p (by exact mv1 rfl) rfl ?_
  refine AL.caseGB rfl rfl (fun h1 => ?_) (fun h1 => ?_)
  ·refine AL.not rfl rfl rfl rfl rfl ?_
   refine AL.not rfl rfl rfl rfl rfl ?_
   refine AL.not rfl rfl rfl rfl rfl ?_
   refine AL.not rfl rfl rfl rfl rfl ?_
   refine AL.p (by exact g_pickT (r := .d _) rfl rfl) rfl ?_
   refine AL.nil (th_n ?_)
   refine AC.condT rfl ?_
   refine AC.seq (AC.region ?_)
   refine AL.p (by exact g_build rfl rfl rfl) rfl ?_
   refine AL.q (by exact h_store rfl rfl rfl rfl rfl rfl) rfl ?_
   refine AL.p (by exact as1 rfl) rfl ?_
   refine AL.nil (th_n (AC.ret (th_r (bq_r ?_))))
   have e : G = (zS, false) := by exact hN2 (by simpa using h1)
   exact ret0 rfl (by rw [e]; show AV.leads _ (.tup [stgA zS, aT false]) _; repeat (first | exact DLead.same | exact DLead.nil | exact rfl | refine ⟨_, rfl, ?_⟩ | refine ⟨_, _, rfl, ?_, ?_⟩))
  ·refine AL.yes rfl rfl rfl ?_
   refine AL.p (by exact g_fa_ref rfl rfl rfl rfl rfl rfl) rfl ?_
   refine AL.yes rfl rfl rfl ?_
   refine AL.p (by exact g_load_ref rfl rfl rfl) rfl ?_
   refine AL.yes rfl rfl rfl ?_
   refine AL.p (by exact g_len_view (k := s.sigs.length) rfl rfl (sigsL_len _)) rfl ?_
   refine AL.yes rfl rfl rfl ?_
   refine AL.p (by exact g_cmp rfl rfl rfl) rfl ?_
   refine AL.p (by exact g_pickF (r := .d _) rfl rfl) rfl ?_
   refine AL.nil (th_n ?_)
   refine AC.condD rfl (fun h2 => ?_) (fun h2 => ?_)
   ·refine AC.seq (AC.region ?_)
    refine AL.p (by exact g_build rfl rfl rfl) rfl ?_
    refine AL.q (by exact h_store rfl rfl rfl rfl rfl rfl) rfl ?_
    refine AL.p (by exact as1 rfl) rfl ?_
    refine AL.nil (th_n (AC.ret (th_r (bq_r ?_))))
    have e : G = (zS, false) := by exact hN3 h2
    exact ret0 rfl (by rw [e]; show AV.leads _ (.tup [stgA zS, aT false]) _; repeat (first | exact DLead.same | exact DLead.nil | exact rfl | refine ⟨_, rfl, ?_⟩ | refine ⟨_, _, rfl, ?_, ?_⟩))
   ·refine AC.skip (th_n (AC.seq ?_))
    have q1 : b = true := by simpa using h0
    have q2 : b2 = true := by simpa using h1
    have q3 : ¬ (s.sigs.length : Int) < 2 := h2
    have hnb := hbn q2
    have hCp2 := hCp q1
    have e : G = (hidT s sg.toNat, true) := hR.trans (if_pos (by rw [q1, q2, decide_eq_false q3]; rfl))
    obtain ⟨i, rfl⟩ : ∃ i : Nat, sg = i := ⟨sg.toNat, by omega⟩
    rw [Int.toNat_natCast] at e
    have hi : i < s.sigs.length := by omega
    have hdl := delL_len hi
    clear hR hbn hCp hV hW
    refine AC.region ?_
    refine AL.p (by exact g_load_refN rfl rfl rfl rfl) rfl ?_
    refine AL.q (by exact h_fun (cs := []) en_copySTG rfl rfl (by repeat (first | exact rfl | exact DLead.same | refine ⟨_, _, rfl, ?_, ?_⟩ | refine ⟨_, rfl, ?_⟩)) (by repeat (exact True.intro)) hCp2 rfl rfl rfl rfl) rfl ?_
    refine AL.q (by exact h_alloc rfl) rfl ?_
    refine AL.q (by exact h_store rfl rfl rfl rfl rfl rfl) rfl ?_
    refine AL.nil (th_n (AC.seq ?_))
    refine AC.weak (t := ⟨71, 300, [(1, aI (i : Int)), (2, .d (.ref (stgD s))), (4, .ptr 201 0), (6, .ptr 200 0)], [(200, some (.cells 30 [aI s.net.places, .d (vTs s.net.ts), .own 101 s.sigs.length, .own 102 s.labs.length, aS (bstr s.start)])), (101, some (.arr 58 2 (sigsL s.sigs))), (102, some (.arr 54 2 (labsL s.labs))), (201, some (.cells 30 zStg))]⟩) (Weak.ren _ [(200, _), (101, _), (102, _), (201, _)] hC rfl (by repeat (first | exact True.intro | refine And.intro ?_ ?_ | exact DLead.same | exact rfl | refine ⟨_, rfl, ?_⟩)) (by repeat (first | exact True.intro | refine And.intro ?_ ?_ | exact DLead.same | exact rfl | refine ⟨_, _, rfl, rfl, ?_⟩ | refine ⟨_, rfl, ?_⟩ | refine ⟨_, _, rfl, ?_, ?_⟩)) rfl rfl rfl) ?_
    have hDel := delSig_spec s.sigs i hi hsg
    refine AC.region ?_
    refine AL.p (by exact g_fa_ptr rfl rfl rfl rfl rfl) rfl ?_
    refine AL.p (by exact g_load_ptr rfl rfl rfl rfl rfl) rfl ?_
    refine AL.p (by exact mv1 rfl) rfl ?_
    refine AL.p (by exact mv1 rfl) rfl ?_
    refine AL.p (by exact g_arith rfl rfl rfl (by exact wrap_i64 (by omega))) rfl ?_
    refine AL.q (by exact h_fun (cs := [101]) en_delSig rfl rfl (by repeat (first | exact rfl | exact DLead.same | refine ⟨_, _, rfl, ?_, ?_⟩ | refine ⟨_, rfl, ?_⟩)) (by repeat (first | exact True.intro | refine And.intro ?_ ?_ | exact rfl | refine ⟨_, _, rfl, rfl, ?_⟩)) hDel rfl rfl rfl rfl) rfl ?_
    refine AL.p (by exact g_fa_ptr rfl rfl rfl rfl rfl) rfl ?_
    refine AL.q (by exact h_store rfl rfl rfl rfl rfl rfl) rfl ?_
    refine AL.nil (th_n (AC.seq (AC.seq (AC.region ?_))))
    refine AL.p (by exact g_fa_ref rfl rfl rfl rfl rfl rfl) rfl ?_
    refine AL.p (by exact g_load_ref rfl rfl rfl) rfl ?_
    refine AL.p (by exact g_len_view (k := s.labs.length) rfl rfl (labsL_len _)) rfl ?_
    refine AL.p (by exact mv1 rfl) rfl ?_
    refine AL.nil (th_n (AC.block ?_))
    refine AC.loop (ι := Nat) (fun k => ⟨71, 600, [(1, aI (i : Int)), (4, .ptr 201 0), (6, .ptr 200 0), (38, .d (vLabs s.labs)), (39, aI s.labs.length), (40, aI k)], [(200, some (.cells 30 [aI s.net.places, .d (vTs s.net.ts), .own 101 (delL s.sigs i).length, .own 102 s.labs.length, aS (bstr s.start)])), (101, some (.arr 58 2 (sigsL (delL s.sigs i)))), (102, some (.arr 54 2 (labsL (mixF (hidL i) s.labs k)))), (201, some (.cells 30 zStg))]⟩) (fun k => k ≤ s.labs.length) (fun k => s.labs.length - k) (0) ?_ (Nat.zero_le _) ?_
    ·exact Weak.ren _ [(200, 200), (101, _), (102, 102), (201, 201)] hC rfl (by repeat (first | exact True.intro | refine And.intro ?_ ?_ | exact DLead.same | exact rfl | refine ⟨_, rfl, ?_⟩)) (by rw [mixF_zero, hdl]; repeat (first | exact True.intro | refine And.intro ?_ ?_ | exact DLead.same | exact rfl | refine ⟨_, _, rfl, rfl, ?_⟩ | refine ⟨_, rfl, ?_⟩ | refine ⟨_, _, rfl, ?_, ?_⟩)) rfl rfl rfl
    ·intro k hk
     refine AC.seq (AC.region ?_)
     refine AL.p (by exact g_cmp rfl rfl rfl) rfl ?_
     refine AL.nil (th_n (AC.seq ?_))
     refine AC.condD rfl (fun h3 => ?_) (fun h3 => ?_)
     ·refine AC.skip (th_n (AC.seq (AC.block (AC.seq ?_))))
      have hk1 : k < s.labs.length := by omega
      have hget := labsL_get hk1
      have hbd := hlbs _ (List.getElem_mem hk1)
      have hml := mixF_len (hidL i) s.labs k
      have hrow : (labsL (mixF (hidL i) s.labs k))[k]? = some (labD s.labs[k]) := by rw [List.getElem?_map, mixF_get hk1]; rfl
      have hsame := mixF_same (f := hidL i) hk1
      have hset0 : ∀ y, hidL i s.labs[k] = y → (labsL (mixF (hidL i) s.labs k)).set k (labD y) = labsL (mixF (hidL i) s.labs (k + 1)) := fun y e => by rw [← mixF_set hk1, e]; unfold labsL; rw [List.map_set]
      obtain ⟨x, hx⟩ : ∃ x, x = s.labs[k] := ⟨_, rfl⟩
      rw [← hx] at hget hbd hrow hset0 hsame
      clear hx
      have hh : hidL i x = if x.sig = (i : Int) then ⟨-1, false⟩ else if x.sig > (i : Int) then ⟨x.sig - 1, x.up⟩ else x := rfl
      refine AC.region ?_
      refine AL.p (by exact mv1 rfl) rfl ?_
      refine AL.p (by exact g_ia_view rfl rfl rfl rfl rfl (by rfl) (by assumption)) rfl ?_
      refine AL.p (by exact g_load_refN rfl rfl rfl rfl) rfl ?_
      refine AL.q (by exact h_alloc rfl) rfl ?_
      refine AL.p (by exact as1 rfl) rfl ?_
      refine AL.q (by exact h_store rfl rfl rfl rfl rfl rfl) rfl ?_
      refine AL.nil (th_n (AC.block (AC.seq (AC.region ?_))))
      refine AL.p (by exact g_fa_ptr rfl rfl rfl rfl rfl) rfl ?_
      refine AL.p (by exact g_load_ptr rfl rfl rfl rfl rfl) rfl ?_
      refine AL.p (by exact mv1 rfl) rfl ?_
      refine AL.p (by exact g_cmp rfl rfl rfl) rfl ?_
      refine AL.p (by exact as1 rfl) rfl ?_
      refine AL.nil (th_n ?_)
      refine AC.condD rfl (fun h4 => ?_) (fun h4 => ?_)
      ·refine AC.region ?_
       refine AL.p (by exact g_fa_ptr rfl rfl rfl rfl rfl) rfl ?_
       refine AL.p (by exact g_load_ptr rfl rfl rfl rfl rfl) rfl ?_
       refine AL.p (by exact mv1 rfl) rfl ?_
       refine AL.p (by exact g_build rfl rfl rfl) rfl ?_
       refine AL.p (by exact g_ia_own (i := k) (l := s.labs.length) rfl rfl rfl rfl rfl rfl hk1 rfl) rfl ?_
       refine AL.q (by exact h_store_row (i := k) (ds := [dI (-1), dT false]) rfl rfl rfl rfl rfl rfl rfl (by rw [labsL_len, hml]; exact hk1)) rfl ?_
       refine AL.nil (ib_n (ib_n (th_n (AC.region ?_))))
       refine AL.p (by exact g_arith rfl rfl rfl (by exact wrap_i64 (by omega))) rfl ?_
       refine AL.p (by exact mv1 rfl) rfl ?_
       refine AL.nil (th_n ?_)
       (have e2 := hset0 _ (hh.trans (if_pos ‹x.sig = (i : Int)›)); exact ⟨k + 1, by omega, by omega, Weak.ren _ [(200, 200), (101, 101), (102, 102), (201, 201)] hC rfl (by repeat (first | exact True.intro | refine And.intro ?_ ?_ | exact DLead.same | exact rfl | refine ⟨_, rfl, ?_⟩)) (by rw [← e2]; repeat (first | exact True.intro | refine And.intro ?_ ?_ | exact DLead.same | exact rfl | refine ⟨_, _, rfl, rfl, ?_⟩ | refine ⟨_, rfl, ?_⟩ | refine ⟨_, _, rfl, ?_, ?_⟩)) rfl rfl rfl⟩)
      ·refine AC.seq (AC.region ?_)
       refine AL.p (by exact g_fa_ptr rfl rfl rfl rfl rfl) rfl ?_
       refine AL.p (by exact g_load_ptr rfl rfl rfl rfl rfl) rfl ?_
       refine AL.p (by exact mv1 rfl) rfl ?_
       refine AL.p (by exact g_cmp rfl rfl rfl) rfl ?_
       refine AL.p (by exact as1 rfl) rfl ?_
       refine AL.nil (th_n ?_)
       refine AC.condD rfl (fun h5 => ?_) (fun h5 => ?_)
       ·refine AC.region ?_
        refine AL.p (by exact g_fa_ptr rfl rfl rfl rfl rfl) rfl ?_
        refine AL.p (by exact g_load_ptr rfl rfl rfl rfl rfl) rfl ?_
        refine AL.p (by exact mv1 rfl) rfl ?_
        refine AL.p (by exact g_ia_own (i := k) (l := s.labs.length) rfl rfl rfl rfl rfl rfl hk1 rfl) rfl ?_
        refine AL.p (by exact g_fa_ptr rfl rfl rfl rfl rfl) rfl ?_
        refine AL.p (by exact g_load_arr (i := k) (j := 0) rfl rfl rfl rfl rfl hrow rfl) rfl ?_
        refine AL.p (by exact g_arith rfl rfl rfl (by exact wrap_i64 (by omega))) rfl ?_
        refine AL.p (by exact g_ia_own (i := k) (l := s.labs.length) rfl rfl rfl rfl rfl rfl hk1 rfl) rfl ?_
        refine AL.p (by exact g_fa_ptr rfl rfl rfl rfl rfl) rfl ?_
        refine AL.q (by exact h_store_arr (i := k) (j := 0) (d := dI (x.sig - 1)) rfl rfl rfl rfl .same rfl hrow (by decide)) rfl ?_
        refine AL.nil (ib_n (ib_n (th_n (AC.region ?_))))
        refine AL.p (by exact g_arith rfl rfl rfl (by exact wrap_i64 (by omega))) rfl ?_
        refine AL.p (by exact mv1 rfl) rfl ?_
        refine AL.nil (th_n ?_)
        (have e2 := hset0 _ (hh.trans ((if_neg ‹¬ x.sig = (i : Int)›).trans (if_pos ‹x.sig > (i : Int)›))); exact ⟨k + 1, by omega, by omega, Weak.ren _ [(200, 200), (101, 101), (102, 102), (201, 201)] hC rfl (by repeat (first | exact True.intro | refine And.intro ?_ ?_ | exact DLead.same | exact rfl | refine ⟨_, rfl, ?_⟩)) (by rw [← e2]; repeat (first | exact True.intro | refine And.intro ?_ ?_ | exact DLead.same | exact rfl | refine ⟨_, _, rfl, rfl, ?_⟩ | refine ⟨_, rfl, ?_⟩ | refine ⟨_, _, rfl, ?_, ?_⟩)) rfl rfl rfl⟩)
       ·refine AC.skip (ib_n (ib_n (th_n (AC.region ?_))))
        refine AL.p (by exact g_arith rfl rfl rfl (by exact wrap_i64 (by omega))) rfl ?_
        refine AL.p (by exact mv1 rfl) rfl ?_
        refine AL.nil (th_n ?_)
        (have e2 := hsame (hh.trans ((if_neg ‹¬ x.sig = (i : Int)›).trans (if_neg ‹¬ x.sig > (i : Int)›))); exact ⟨k + 1, by omega, by omega, Weak.ren _ [(200, 200), (101, 101), (102, 102), (201, 201)] hC rfl (by repeat (first | exact True.intro | refine And.intro ?_ ?_ | exact DLead.same | exact rfl | refine ⟨_, rfl, ?_⟩)) (by rw [e2]; repeat (first | exact True.intro | refine And.intro ?_ ?_ | exact DLead.same | exact rfl | refine ⟨_, _, rfl, rfl, ?_⟩ | refine ⟨_, rfl, ?_⟩ | refine ⟨_, _, rfl, ?_, ?_⟩)) rfl rfl rfl⟩)
     ·refine AC.exit (th_e (th_e (ib_y (th_n (AC.seq ?_)))))
      have hkk : k = s.labs.length := by omega
      subst hkk
      rw [mixF_all]
      refine AC.weak (Weak.freezeP (els' := sigsL (delL s.sigs i)) 6 2 rfl rfl rfl rfl (by rw [sigsL_len]; exact Nat.le_refl _) (List.take_of_length_le (by rw [sigsL_len]; exact Nat.le_refl _)) rfl) ?_
      refine AC.weak (Weak.freezeP (els' := labsL (s.labs.map (hidL i))) 6 3 rfl rfl rfl rfl (by rw [labsL_len, List.length_map]; exact Nat.le_refl _) (List.take_of_length_le (by rw [labsL_len, List.length_map]; exact Nat.le_refl _)) rfl) ?_
      refine AC.region ?_
      refine AL.p (by exact g_load_ptrN rfl rfl rfl rfl rfl) rfl ?_
      refine AL.q (by exact h_store rfl rfl rfl rfl rfl rfl) rfl ?_
      refine AL.p (by exact as1 rfl) rfl ?_
      refine AL.nil (th_n (AC.ret (bq_r ?_)))
      exact ret0 rfl (by rw [e]; show AV.leads _ (.tup [stgA (hidT s i), aT true]) _; unfold hidT; repeat (first | exact DLead.same | exact rfl | refine ⟨_, rfl, ?_⟩ | refine ⟨_, _, rfl, ?_, ?_⟩))
theorem en_iHide : Enters Try.prog 10 := enters_of Try.func10 rfl rfl
set_option maxHeartbeats 8000000 in
theorem sHide_spec (s : Stg) (sg : Int) (hB : StgB s) : ASpec Try.prog 11 [stgA s, aI sg] [] (Pure1 (.tup [stgA (hidR s sg).1, aT (hidR s sg).2])) := by
 have hV := l2Good_spec s hB.L
 have hCp := l2Own_spec s hB
 have hW := l1In_spec sg 0 ((s.sigs.length : Int) - 1)
 have hR : hidR s sg = if (goodS s && ((decide (0 ≤ sg) && decide (sg ≤ (s.sigs.length : Int) - 1)) && !decide ((s.sigs.length : Int) < 2))) = true then (hidT s sg.toNat, true) else (zS, false) := rfl
 have hbn : (decide (0 ≤ sg) && decide (sg ≤ (s.sigs.length : Int) - 1)) = true → 0 ≤ sg ∧ sg ≤ (s.sigs.length : Int) - 1 := fun q => by simpa using q
 have hsg := hB.sg
 have hlb := hB.l
 have hlbs := hB.lb
 obtain ⟨b, hb⟩ : ∃ b, b = goodS s := ⟨_, rfl⟩
 rw [← hb] at hV hR
 obtain ⟨b2, hb2⟩ : ∃ b, b = (decide (0 ≤ sg) && decide (sg ≤ (s.sigs.length : Int) - 1)) := ⟨_, rfl⟩
 rw [← hb2] at hW hR hbn
 obtain ⟨G, hG⟩ : ∃ G, G = hidR s sg := ⟨_, rfl⟩
 rw [← hG] at hR ⊢
 have hN1 : b = false → G = (zS, false) := fun q => hR.trans (if_neg (by rw [q]; simp))
 have hN2 : b2 = false → G = (zS, false) := fun q => hR.trans (if_neg (by rw [q]; simp))
 have hN3 : (s.sigs.length : Int) < 2 → G = (zS, false) := fun q => hR.trans (if_neg (by rw [decide_eq_true q]; simp))
 clear hG hb hb2
 refine ASpec.of Try.func11 rfl rfl fun C hC => ?_
 refine AC.seq (AC.region ?_)
 refine AL.q (by exact h_boxF rfl rfl) rfl ?_
 refine AL.q (by exact h_alloc rfl) rfl ?_
 refine AL.p (by exact as1 rfl) rfl ?_
 refine AL.nil (th_n (AC.seq (AC.seq (AC.region ?_))))
 refine AL.p (by exact g_load_refN rfl rfl rfl rfl) rfl ?_
 refine AL.q (by exact h_pure en_l2Good rfl rfl (by repeat (first | exact rfl | exact DLead.same | refine ⟨_, _, rfl, ?_, ?_⟩ | refine ⟨_, rfl, ?_⟩)) hV rfl) rfl ?_
 refine AL.p (by exact g_not rfl) rfl ?_
 refine AL.p (by exact mv1 rfl) rfl ?_
 refine AL.caseGB rfl rfl (fun h0 => ?_) (fun h0 => ?_)
 ·refine AL.not rfl rfl rfl rfl rfl ?_
  refine AL.not rfl rfl rfl rfl rfl ?_
  refine AL.not rfl rfl rfl rfl rfl ?_
  refine AL.not rfl rfl rfl rfl rfl ?_
  refine AL.not rfl rfl rfl rfl rfl ?_
  refine AL.not rfl rfl rfl rfl rfl ?_
  refine AL.not rfl rfl rfl rfl rfl ?_
  refine AL.p (by exact g_pickT (r := .d _) rfl rfl) rfl ?_
  refine AL.p (by exact mv1 rfl) rfl ?_
  refine AL.not rfl rfl rfl rfl rfl ?_
  refine AL.not rfl rfl rfl rfl rfl ?_
  refine AL.not rfl rfl rfl rfl rfl ?_
  refine AL.not rfl rfl rfl rfl rfl ?_
  refine AL.p (by exact g_pickT (r := .d _) rfl rfl) rfl ?_
  refine AL.nil (th_n ?_)
  refine AC.condT rfl ?_
  refine AC.seq (AC.region ?_)
  refine AL.p (by exact g_build rfl rfl rfl) rfl ?_
  refine AL.q (by exact h_store rfl rfl rfl rfl rfl rfl) rfl ?_
  refine AL.p (by exact as1 rfl) rfl ?_
  refine AL.nil (th_n (AC.ret (th_r (bq_r ?_))))
  have e : G = (zS, false) := by exact hN1 (by simpa using h0)
  exact ret0 rfl (by rw [e]; show AV.leads _ (.tup [stgA zS, aT false]) _; repeat (first | exact DLead.same | exact DLead.nil | exact rfl | refine ⟨_, rfl, ?_⟩ | refine ⟨_, _, rfl, ?_, ?_⟩))
 ·refine AL.yes rfl rfl rfl ?_
  refine AL.p (by exact mv1 rfl) rfl ?_
  refine AL.yes rfl rfl rfl ?_
  refine AL.p (by exact g_fa_ref rfl rfl rfl rfl rfl rfl) rfl ?_
  refine AL.yes rfl rfl rfl ?_
  refine AL.p (by exact g_load_ref rfl rfl rfl) rfl ?_
  refine AL.yes rfl rfl rfl ?_
  refine AL.p (by exact g_len_view (k := s.sigs.length) rfl rfl (sigsL_len _)) rfl ?_
  refine AL.yes rfl rfl rfl ?_
  refine AL.p (by exact g_arith rfl rfl rfl (by exact wrap_i64 (by omega))) rfl ?_
  refine AL.yes rfl rfl rfl ?_
  refine AL.q (by exact h_pure en_l1In rfl rfl (by repeat (first | exact rfl | exact DLead.same | refine ⟨_, _, rfl, ?_, ?_⟩)) hW rfl) rfl ?_
  refine AL.yes rfl rfl rfl ?_
  refine AL.p (by exact g_not rfl) rfl ?_
  refine AL.p (by exact g_pickF (r := .d _) rfl rfl) rfl ?_
  refine AL.p (by exact mv1 rfl) rfl ?_
  refine AL.caseGB rfl rfl (fun h1 => ?_) (fun h1 => ?_)
  ·refine AL.not rfl rfl rfl rfl rfl ?_
   refine AL.not rfl rfl rfl rfl rfl ?_
   refine AL.not rfl rfl rfl rfl rfl ?_
   refine AL.not rfl rfl rfl rfl rfl ?_
   refine AL.p (by exact g_pickT (r := .d _) rfl rfl) rfl ?_
   refine AL.nil (th_n ?_)
   refine AC.condT rfl ?_
   refine AC.seq (AC.region ?_)
   refine AL.p (by exact g_build rfl rfl rfl) rfl ?_
   refine AL.q (by exact h_store rfl rfl rfl rfl rfl rfl) rfl ?_
   refine AL.p (by exact as1 rfl) rfl ?_
   refine AL.nil (th_n (AC.ret (th_r (bq_r ?_))))
   have e : G = (zS, false) := by exact hN2 (by simpa using h1)
   exact ret0 rfl (by rw [e]; show AV.leads _ (.tup [stgA zS, aT false]) _; repeat (first | exact DLead.same | exact DLead.nil | exact rfl | refine ⟨_, rfl, ?_⟩ | refine ⟨_, _, rfl, ?_, ?_⟩))
  ·refine AL.yes rfl rfl rfl ?_
   refine AL.p (by exact g_fa_ref rfl rfl rfl rfl rfl rfl) rfl ?_
   refine AL.yes rfl rfl rfl ?_
   refine AL.p (by exact g_load_ref rfl rfl rfl) rfl ?_
   refine AL.yes rfl rfl rfl ?_
   refine AL.p (by exact g_len_view (k := s.sigs.length) rfl rfl (sigsL_len _)) rfl ?_
   refine AL.yes rfl rfl rfl ?_
   refine AL.p (by exact g_cmp rfl rfl rfl) rfl ?_
   refine AL.p (by exact g_pickF (r := .d _) rfl rfl) rfl ?_
   refine AL.nil (th_n ?_)
   refine AC.condD rfl (fun h2 => ?_) (fun h2 => ?_)
   ·refine AC.seq (AC.region ?_)
    refine AL.p (by exact g_build rfl rfl rfl) rfl ?_
    refine AL.q (by exact h_store rfl rfl rfl rfl rfl rfl) rfl ?_
    refine AL.p (by exact as1 rfl) rfl ?_
    refine AL.nil (th_n (AC.ret (th_r (bq_r ?_))))
    have e : G = (zS, false) := by exact hN3 h2
    exact ret0 rfl (by rw [e]; show AV.leads _ (.tup [stgA zS, aT false]) _; repeat (first | exact DLead.same | exact DLead.nil | exact rfl | refine ⟨_, rfl, ?_⟩ | refine ⟨_, _, rfl, ?_, ?_⟩))
   ·refine AC.skip (th_n (AC.seq ?_))
    have q1 : b = true := by simpa using h0
    have q2 : b2 = true := by simpa using h1
    have q3 : ¬ (s.sigs.length : Int) < 2 := h2
    have hnb := hbn q2
    have hCp2 := hCp
    have e : G = (hidT s sg.toNat, true) := hR.trans (if_pos (by rw [q1, q2, decide_eq_false q3]; rfl))
    obtain ⟨i, rfl⟩ : ∃ i : Nat, sg = i := ⟨sg.toNat, by omega⟩
    rw [Int.toNat_natCast] at e
    have hi : i < s.sigs.length := by omega
    have hdl := delL_len hi
    clear hR hbn hCp hV hW
    refine AC.region ?_
    refine AL.p (by exact g_load_refN rfl rfl rfl rfl) rfl ?_
    refine AL.q (by exact h_fun (cs := []) en_l2Own rfl rfl (by repeat (first | exact rfl | exact DLead.same | refine ⟨_, _, rfl, ?_, ?_⟩ | refine ⟨_, rfl, ?_⟩)) (by repeat (exact True.intro)) hCp2 rfl rfl rfl rfl) rfl ?_
    refine AL.weak (Weak.freezeA (i := 30) (k := 1) rfl rfl rfl (ownl _ _) (ownt _ _)) ?_
    refine AL.q (by exact h_alloc rfl) rfl ?_
    refine AL.q (by exact h_store rfl rfl rfl rfl rfl rfl) rfl ?_
    refine AL.nil (th_n (AC.seq ?_))
    refine AC.weak (t := ⟨78, 300, [(1, aI (i : Int)), (2, .d (.ref (stgD s))), (4, .ptr 201 0), (6, .ptr 200 0)], [(200, some (.cells 30 [aI s.net.places, .d (vTs s.net.ts), .own 101 s.sigs.length, .own 102 s.labs.length, aS (bstr s.start)])), (101, some (.arr 58 2 (sigsL s.sigs))), (102, some (.arr 54 2 (labsL s.labs))), (201, some (.cells 30 zStg))]⟩) (Weak.ren _ [(200, _), (101, _), (102, _), (201, _)] hC rfl (by repeat (first | exact True.intro | refine And.intro ?_ ?_ | exact DLead.same | exact rfl | refine ⟨_, rfl, ?_⟩)) (by repeat (first | exact True.intro | refine And.intro ?_ ?_ | exact DLead.same | exact rfl | refine ⟨_, _, rfl, rfl, ?_⟩ | refine ⟨_, rfl, ?_⟩ | refine ⟨_, _, rfl, ?_, ?_⟩)) rfl rfl rfl) ?_
    have htk : ((sigsL s.sigs).take i).drop 0 = sigsL (s.sigs.take i) := by rw [List.drop_zero, ← List.map_take]
    have hdr : ((sigsL s.sigs).take (sigsL s.sigs).length).drop (i + 1) = sigsL (s.sigs.drop (i + 1)) := by rw [List.take_length, ← List.map_drop]
    refine AC.region ?_
    refine AL.q (by exact h_lit rfl rfl rfl rfl rfl rfl rfl rfl) rfl ?_
    refine AL.p (by exact g_fa_ref rfl rfl rfl rfl rfl rfl) rfl ?_
    refine AL.p (by exact g_load_ref rfl rfl rfl) rfl ?_
    refine AL.p (by exact mv1 rfl) rfl ?_
    refine AL.p (by exact g_slice_view (r := sigsL (s.sigs.take i)) (l := 0) (h := i) rfl rfl rfl rfl .none (.some rfl rfl) (Nat.zero_le _) (by rw [sigsL_len]; omega) htk) rfl ?_
    refine AL.q (by exact h_appendSg [] (s.sigs.take i) (.own rfl rfl rfl) (.view rfl) (by rw [List.nil_append, List.length_take]; omega) (by simp)) rfl ?_
    refine AL.p (by exact as2 rfl) rfl ?_
    refine AL.nil (th_n (AC.seq (AC.region ?_)))
    refine AL.p (by exact mv2 rfl) rfl ?_
    refine AL.p (by exact g_fa_ref rfl rfl rfl rfl rfl rfl) rfl ?_
    refine AL.p (by exact g_load_ref rfl rfl rfl) rfl ?_
    refine AL.p (by exact mv1 rfl) rfl ?_
    refine AL.p (by exact g_arith rfl rfl rfl (by exact wrap_i64 (by omega))) rfl ?_
    refine AL.p (by exact g_slice_view (r := sigsL (s.sigs.drop (i + 1))) (l := i + 1) (h := (sigsL s.sigs).length) rfl rfl rfl rfl (.some rfl (by omega)) .none (by rw [sigsL_len]; omega) (Nat.le_refl _) hdr) rfl ?_
    refine AL.q (by exact h_appendSg (s.sigs.take i) (s.sigs.drop (i + 1)) (.own rfl rfl (sigsL_len _).symm) (.view rfl) (by rw [List.length_append, List.length_take, List.length_drop]; omega) (by simp)) rfl ?_
    refine AL.p (by exact g_fa_ptr rfl rfl rfl rfl rfl) rfl ?_
    refine AL.q (by exact h_store rfl rfl rfl rfl rfl rfl) rfl ?_
    refine AL.nil (th_n (AC.seq (AC.seq (AC.region ?_))))
    refine AL.p (by exact g_fa_ref rfl rfl rfl rfl rfl rfl) rfl ?_
    refine AL.p (by exact g_load_ref rfl rfl rfl) rfl ?_
    refine AL.p (by exact g_len_view (k := s.labs.length) rfl rfl (labsL_len _)) rfl ?_
    refine AL.p (by exact mv1 rfl) rfl ?_
    refine AL.nil (th_n (AC.block ?_))
    refine AC.loop (ι := Nat) (fun k => ⟨78, 600, [(1, aI (i : Int)), (4, .ptr 201 0), (6, .ptr 200 0), (46, .d (vLabs s.labs)), (47, aI s.labs.length), (48, aI k)], [(200, some (.cells 30 [aI s.net.places, .d (vTs s.net.ts), .own 101 (delL s.sigs i).length, .own 102 s.labs.length, aS (bstr s.start)])), (101, some (.arr 58 2 (sigsL (delL s.sigs i)))), (102, some (.arr 54 2 (labsL (mixF (hidL i) s.labs k)))), (201, some (.cells 30 zStg))]⟩) (fun k => k ≤ s.labs.length) (fun k => s.labs.length - k) (0) ?_ (Nat.zero_le _) ?_
    ·exact Weak.ren _ [(200, 200), (101, _), (102, 102), (201, 201)] hC rfl (by repeat (first | exact True.intro | refine And.intro ?_ ?_ | exact DLead.same | exact rfl | refine ⟨_, rfl, ?_⟩)) (by rw [mixF_zero, show s.sigs.take i ++ s.sigs.drop (i + 1) = delL s.sigs i from rfl]; repeat (first | exact True.intro | refine And.intro ?_ ?_ | exact DLead.same | exact rfl | refine ⟨_, _, rfl, rfl, ?_⟩ | refine ⟨_, rfl, ?_⟩ | refine ⟨_, _, rfl, ?_, ?_⟩)) rfl rfl rfl
    ·intro k hk
     refine AC.seq (AC.region ?_)
     refine AL.p (by exact g_cmp rfl rfl rfl) rfl ?_
     refine AL.nil (th_n (AC.seq ?_))
     refine AC.condD rfl (fun h3 => ?_) (fun h3 => ?_)
     ·refine AC.skip (th_n (AC.seq (AC.block (AC.seq ?_))))
      have hk1 : k < s.labs.length := by omega
      have hget := labsL_get hk1
      have hbd := hlbs _ (List.getElem_mem hk1)
      have hml := mixF_len (hidL i) s.labs k
      have hrow : (labsL (mixF (hidL i) s.labs k))[k]? = some (labD s.labs[k]) := by rw [List.getElem?_map, mixF_get hk1]; rfl
      have hsame := mixF_same (f := hidL i) hk1
      have hset0 : ∀ y, hidL i s.labs[k] = y → (labsL (mixF (hidL i) s.labs k)).set k (labD y) = labsL (mixF (hidL i) s.labs (k + 1)) := fun y e => by rw [← mixF_set hk1, e]; unfold labsL; rw [List.map_set]
      obtain ⟨x, hx⟩ : ∃ x, x = s.labs[k] := ⟨_, rfl⟩
      rw [← hx] at hget hbd hrow hset0 hsame
      clear hx
      have hh : hidL i x = if x.sig = (i : Int) then ⟨-1, false⟩ else if x.sig > (i : Int) then ⟨x.sig - 1, x.up⟩ else x := rfl
      refine AC.region ?_
      refine AL.p (by exact mv1 rfl) rfl ?_
      refine AL.p (by exact g_ia_view rfl rfl rfl rfl rfl (by rfl) (by assumption)) rfl ?_
      refine AL.p (by exact g_load_refN rfl rfl rfl rfl) rfl ?_
      refine AL.q (by exact h_alloc rfl) rfl ?_
      refine AL.p (by exact as1 rfl) rfl ?_
      refine AL.q (by exact h_store rfl rfl rfl rfl rfl rfl) rfl ?_
      refine AL.nil (th_n (AC.block (AC.seq (AC.region ?_))))
      refine AL.p (by exact g_fa_ptr rfl rfl rfl rfl rfl) rfl ?_
      refine AL.p (by exact g_load_ptr rfl rfl rfl rfl rfl) rfl ?_
      refine AL.p (by exact mv1 rfl) rfl ?_
      refine AL.p (by exact g_cmp rfl rfl rfl) rfl ?_
      refine AL.p (by exact as1 rfl) rfl ?_
      refine AL.nil (th_n ?_)
      refine AC.condD rfl (fun h4 => ?_) (fun h4 => ?_)
      ·refine AC.region ?_
       refine AL.p (by exact g_fa_ptr rfl rfl rfl rfl rfl) rfl ?_
       refine AL.p (by exact g_load_ptr rfl rfl rfl rfl rfl) rfl ?_
       refine AL.p (by exact mv1 rfl) rfl ?_
       refine AL.p (by exact g_build rfl rfl rfl) rfl ?_
       refine AL.p (by exact g_ia_own (i := k) (l := s.labs.length) rfl rfl rfl rfl rfl rfl hk1 rfl) rfl ?_
       refine AL.q (by exact h_store_row (i := k) (ds := [dI (-1), dT false]) rfl rfl rfl rfl rfl rfl rfl (by rw [labsL_len, hml]; exact hk1)) rfl ?_
       refine AL.nil (ib_n (ib_n (th_n (AC.region ?_))))
       refine AL.p (by exact g_arith rfl rfl rfl (by exact wrap_i64 (by omega))) rfl ?_
       refine AL.p (by exact mv1 rfl) rfl ?_
       refine AL.nil (th_n ?_)
       (have e2 := hset0 _ (hh.trans (if_pos ‹x.sig = (i : Int)›)); exact ⟨k + 1, by omega, by omega, Weak.ren _ [(200, 200), (101, 101), (102, 102), (201, 201)] hC rfl (by repeat (first | exact True.intro | refine And.intro ?_ ?_ | exact DLead.same | exact rfl | refine ⟨_, rfl, ?_⟩)) (by rw [← e2]; repeat (first | exact True.intro | refine And.intro ?_ ?_ | exact DLead.same | exact rfl | refine ⟨_, _, rfl, rfl, ?_⟩ | refine ⟨_, rfl, ?_⟩ | refine ⟨_, _, rfl, ?_, ?_⟩)) rfl rfl rfl⟩)
      ·refine AC.seq (AC.region ?_)
       refine AL.p (by exact g_fa_ptr rfl rfl rfl rfl rfl) rfl ?_
       refine AL.p (by exact g_load_ptr rfl rfl rfl rfl rfl) rfl ?_
       refine AL.p (by exact mv1 rfl) rfl ?_
       refine AL.p (by exact g_cmp rfl rfl rfl) rfl ?_
       refine AL.p (by exact as1 rfl) rfl ?_
       refine AL.nil (th_n ?_)
       refine AC.condD rfl (fun h5 => ?_) (fun h5 => ?_)
       ·refine AC.region ?_
        refine AL.p (by exact g_fa_ptr rfl rfl rfl rfl rfl) rfl ?_
        refine AL.p (by exact g_load_ptr rfl rfl rfl rfl rfl) rfl ?_
        refine AL.p (by exact mv1 rfl) rfl ?_
        refine AL.p (by exact g_fa_ptr rfl rfl rfl rfl rfl) rfl ?_
        refine AL.p (by exact g_load_ptr rfl rfl rfl rfl rfl) rfl ?_
        refine AL.p (by exact g_arith rfl rfl rfl (by exact wrap_i64 (by omega))) rfl ?_
        refine AL.p (by exact g_ia_own (i := k) (l := s.labs.length) rfl rfl rfl rfl rfl rfl hk1 rfl) rfl ?_
        refine AL.p (by exact g_fa_ptr rfl rfl rfl rfl rfl) rfl ?_
        refine AL.q (by exact h_store_arr (i := k) (j := 0) (d := dI (x.sig - 1)) rfl rfl rfl rfl .same rfl hrow (by decide)) rfl ?_
        refine AL.nil (ib_n (ib_n (th_n (AC.region ?_))))
        refine AL.p (by exact g_arith rfl rfl rfl (by exact wrap_i64 (by omega))) rfl ?_
        refine AL.p (by exact mv1 rfl) rfl ?_
        refine AL.nil (th_n ?_)
        (have e2 := hset0 _ (hh.trans ((if_neg ‹¬ x.sig = (i : Int)›).trans (if_pos ‹x.sig > (i : Int)›))); exact ⟨k + 1, by omega, by omega, Weak.ren _ [(200, 200), (101, 101), (102, 102), (201, 201)] hC rfl (by repeat (first | exact True.intro | refine And.intro ?_ ?_ | exact DLead.same | exact rfl | refine ⟨_, rfl, ?_⟩)) (by rw [← e2]; repeat (first | exact True.intro | refine And.intro ?_ ?_ | exact DLead.same | exact rfl | refine ⟨_, _, rfl, rfl, ?_⟩ | refine ⟨_, rfl, ?_⟩ | refine ⟨_, _, rfl, ?_, ?_⟩)) rfl rfl rfl⟩)
       ·refine AC.skip (ib_n (ib_n (th_n (AC.region ?_))))
        refine AL.p (by exact g_arith rfl rfl rfl (by exact wrap_i64 (by omega))) rfl ?_
        refine AL.p (by exact mv1 rfl) rfl ?_
        refine AL.nil (th_n ?_)
        (have e2 := hsame (hh.trans ((if_neg ‹¬ x.sig = (i : Int)›).trans (if_neg ‹¬ x.sig > (i : Int)›))); exact ⟨k + 1, by omega, by omega, Weak.ren _ [(200, 200), (101, 101), (102, 102), (201, 201)] hC rfl (by repeat (first | exact True.intro | refine And.intro ?_ ?_ | exact DLead.same | exact rfl | refine ⟨_, rfl, ?_⟩)) (by rw [e2]; repeat (first | exact True.intro | refine And.intro ?_ ?_ | exact DLead.same | exact rfl | refine ⟨_, _, rfl, rfl, ?_⟩ | refine ⟨_, rfl, ?_⟩ | refine ⟨_, _, rfl, ?_, ?_⟩)) rfl rfl rfl⟩)
     ·refine AC.exit (th_e (th_e (ib_y (th_n (AC.seq ?_)))))
      have hkk : k = s.labs.length := by omega
      subst hkk
      rw [mixF_all]
      refine AC.weak (Weak.freezeP (els' := sigsL (delL s.sigs i)) 6 2 rfl rfl rfl rfl (by rw [sigsL_len]; exact Nat.le_refl _) (List.take_of_length_le (by rw [sigsL_len]; exact Nat.le_refl _)) rfl) ?_
      refine AC.weak (Weak.freezeP (els' := labsL (s.labs.map (hidL i))) 6 3 rfl rfl rfl rfl (by rw [labsL_len, List.length_map]; exact Nat.le_refl _) (List.take_of_length_le (by rw [labsL_len, List.length_map]; exact Nat.le_refl _)) rfl) ?_
      refine AC.region ?_
      refine AL.p (by exact g_load_ptrN rfl rfl rfl rfl rfl) rfl ?_
      refine AL.q (by exact h_store rfl rfl rfl rfl rfl rfl) rfl ?_
      refine AL.p (by exact as1 rfl) rfl ?_
      refine AL.nil (th_n (AC.ret (bq_r ?_)))
      exact ret0 rfl (by rw [e]; show AV.leads _ (.tup [stgA (hidT s i), aT true]) _; unfold hidT; repeat (first | exact DLead.same | exact rfl | refine ⟨_, rfl, ?_⟩ | refine ⟨_, _, rfl, ?_, ?_⟩))
theorem en_sHide : Enters Try.prog 11 := enters_of Try.func11 rfl rfl
end Go.Proofs.Ytjejbpeedblclaa
