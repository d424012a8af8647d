/- Contracts of the functions of the program and of the reference, each proved by a walk through its code. -/
import Derived.WalkKit
import Derived.WalkSpells
import Derived.WalkLawsBesides
import Derived.Deep.Draws
import Derived.Lib.Hide
import Derived.Maps.AppendAt
import Derived.OwnWalk
import Derived.Deep.MidRow
import Derived.Laws.ResultCell
import Derived.Deep.Upon
import Derived.Great.FillDense
import Derived.Laws.Tables
import Derived.Laws.BytesArg
import Derived.Laws.MakeOwn
import Derived.Great.BuildSlice
import Derived.ArgAppend
import Derived.Deep.AppendSrc
import Derived.Test.YthafkkgmekgmoaaGreatProg
import Derived.KernelRfl
import Derived.Orders
import Derived.Laws.IdiomStrings
import Derived.Lib.AppendZerosOnto
import Derived.ProofKit
import Derived.OpenShut
import Derived.Lib.SliceRun
import Derived.Laws.StructEq
import Derived.ChangeKeysEq
import Derived.Sort.Grow
import Derived.Laws.RangeString
import Derived.Below
import Derived.Laws.Small
import Derived.MapKept
import Derived.WideMake
import Derived.Laws.IdiomCopy
import Derived.Shelf.Bits.Mul64
import Derived.Test.YthafkkgmekgmoaaGreatRows
import Derived.Test.YthafkkgmekgmoaaGreatGCd5
set_option linter.all false
set_option maxRecDepth 20000
namespace Go.Proofs.YthafkkgmekgmoaaGreat
open Go.RowKit
def shLab (n : Nat) (x : Lab) : Lab := if 0 ≤ x.sig then ⟨x.sig + n, x.up⟩ else x
def zS : Stg := ⟨⟨0, []⟩, [], [], []⟩
def unionT (a b : Stg) : Stg := ⟨(unionR a.net b.net).1, a.sigs ++ b.sigs, a.labs ++ b.labs.map (shLab a.sigs.length), a.start ++ b.start⟩
def unionS (a b : Stg) : Stg × Bool := if ((unionR a.net b.net).2 && (goodS a && goodS b)) && goodS (unionT a b) then (unionT a b, true) else (zS, false)
structure StgB (s : Stg) : Prop where
 n : NetB s.net
 sg : s.sigs.length ≤ 100000
 sn : ∀ t, t ∈ s.sigs → t.name.length ≤ 100000
 l : s.labs.length ≤ 100000
 lb : ∀ x, x ∈ s.labs → -1000000 ≤ x.sig ∧ x.sig ≤ 1000000
 st : s.start.length ≤ 100000
theorem StgB.L {s : Stg} (h : StgB s) : StgL s := ⟨h.n.L, by have := h.sg; omega, fun t ht => by have := h.sn t ht; omega, by have := h.l; omega, by have := h.st; omega⟩
theorem takeLab {f : Lab → Lab} {l : List Lab} {k : Nat} (hk : k < l.length) : (l.take (k + 1)).map f = (l.take k).map f ++ [f l[k]] := by
 rw [List.take_add_one, List.getElem?_eq_getElem hk, List.map_append]; rfl
abbrev stgQ (s : Stg) (j k : Nat) : AV := .agg [aI s.net.places, .d (vTs s.net.ts), .own j s.sigs.length, .own k s.labs.length, aS (bstr s.start)]
set_option maxHeartbeats 8000000 in
theorem sUnionSTGs_own (a b : Stg) (ha : StgB a) (hb : StgB b) (hT : NetL (unionR a.net b.net).1) (hok : (unionS a b).2 = true) : ASpec Tryz.prog 240 [stgA a, stgA b] [] (Fun1 (.tup [stgQ (unionT a b) 0 1, aT true]) [(0, .arr 149 2 (sigsL (unionT a b).sigs)), (1, .arr 156 2 (labsL (unionT a b).labs))]) := by
 have hU := sUnion_spec a.net b.net ha.n hb.n
 have hGa := l2Good_spec a ha.L
 have hGb := l2Good_spec b hb.L
 have hcond : (((unionR a.net b.net).2 && (goodS a && goodS b)) && goodS (unionT a b)) = true := by
  unfold unionS at hok
  split at hok
  ·assumption
  ·cases hok
 simp only [Bool.and_eq_true] at hcond
 obtain ⟨⟨hc1, hc2, hc3⟩, hc4⟩ := hcond
 rw [hc2] at hGa
 rw [hc3] at hGb
 rw [hc1] at hU
 have hsa := ha.sg
 have hsb := hb.sg
 have hla := ha.l
 have hlb := hb.l
 have hta := ha.st
 have htb := hb.st
 have hGt := l2Good_spec (unionT a b) ⟨hT, by show (a.sigs ++ b.sigs).length ≤ _; rw [List.length_append]; omega, (fun t ht => by
  rcases List.mem_append.1 ht with h | h
  ·have := ha.sn t h; omega
  ·have := hb.sn t h; omega), by show (a.labs ++ b.labs.map _).length ≤ _; rw [List.length_append, List.length_map]; omega, by show (a.start ++ b.start).length ≤ _; rw [List.length_append]; omega⟩
 rw [hc4] at hGt
 have hU1 : unionT a b = ⟨(unionR a.net b.net).1, a.sigs ++ b.sigs, a.labs ++ b.labs.map (shLab a.sigs.length), a.start ++ b.start⟩ := rfl
 obtain ⟨U, hUU⟩ : ∃ U, U = (unionR a.net b.net).1 := ⟨_, rfl⟩
 rw [← hUU] at hU hU1
 obtain ⟨T, hTT⟩ : ∃ T, T = unionT a b := ⟨_, rfl⟩
 rw [← hTT] at hGt hU1 ⊢
 clear hTT hUU hT hok
 refine ASpec.of Tryz.func240 rfl rfl fun C hC => ?_
 refine AC.seq (AC.region ?_)
 refine AL.q (by exact h_boxF rfl rfl) rfl ?_
 refine AL.q (by exact h_boxF rfl rfl) rfl ?_
 refine AL.q (by exact h_alloc rfl) rfl ?_
 refine za ?_
 refine AL.nil (th_n (AC.seq (AC.region ?_)))
 refine zf ?_
 refine AL.p (by exact g_load_refN rfl rfl rfl rfl) rfl ?_
 refine zf ?_
 refine AL.p (by exact g_load_refN rfl rfl rfl rfl) rfl ?_
 refine AL.q (by exact h_pure en_sUnion rfl rfl (by repeat (first | exact rfl | exact DLead.same | refine ⟨_, _, rfl, ?_, ?_⟩ | refine ⟨_, rfl, ?_⟩)) hU rfl) rfl ?_
 refine AL.p (by exact mv5 rfl) rfl ?_
 refine AL.p (by exact g_extract (r := .agg _) rfl rfl) rfl ?_
 refine AL.p (by exact g_extract (r := .d _) rfl rfl) rfl ?_
 refine AL.q (by exact h_alloc rfl) rfl ?_
 refine zs ?_
 refine za ?_
 refine AL.nil (th_n (AC.seq (AC.seq (AC.region ?_))))
 refine zm ?_
 refine AL.p (by exact g_not rfl) rfl ?_
 refine zm ?_
 refine AL.caseGB rfl rfl (fun h0 => ?_) (fun h0 => ?_)
 ·refine zn ?_
  refine zn ?_
  refine zn ?_
  refine zQ ?_
  refine zm ?_
  refine zn ?_
  refine zn ?_
  refine zn ?_
  refine zQ ?_
  refine AL.nil (th_n ?_)
  refine AC.condT rfl ?_
  refine AC.seq ?_
  exfalso; simp_all
 ·refine zy ?_
  refine AL.p (by exact g_load_refN rfl rfl rfl rfl) rfl ?_
  refine zy ?_
  refine AL.q (by exact h_pure en_l2Good rfl rfl (by repeat (first | exact rfl | exact DLead.same | refine ⟨_, _, rfl, ?_, ?_⟩ | refine ⟨_, rfl, ?_⟩)) hGa rfl) rfl ?_
  refine zy ?_
  refine AL.p (by exact g_not rfl) rfl ?_
  refine zP ?_
  refine zm ?_
  refine AL.caseGB rfl rfl (fun h1 => ?_) (fun h1 => ?_)
  ·refine zn ?_
   refine zn ?_
   refine zn ?_
   refine zQ ?_
   refine AL.nil (th_n ?_)
   refine AC.condT rfl ?_
   refine AC.seq ?_
   exfalso; simp_all
  ·refine zy ?_
   refine AL.p (by exact g_load_refN rfl rfl rfl rfl) rfl ?_
   refine zy ?_
   refine AL.q (by exact h_pure en_l2Good rfl rfl (by repeat (first | exact rfl | exact DLead.same | refine ⟨_, _, rfl, ?_, ?_⟩ | refine ⟨_, rfl, ?_⟩)) hGb rfl) rfl ?_
   refine zy ?_
   refine AL.p (by exact g_not rfl) rfl ?_
   refine zP ?_
   refine AL.nil (th_n ?_)
   refine AC.condB rfl (fun h2 => ?_) (fun h2 => ?_)
   ·refine AC.seq ?_
    exfalso; simp_all
   ·refine AC.skip (th_n (AC.seq ?_))
    refine AC.drawn' mixed_ok [[], [], [], [2], [1,2,3], [], [5], [1,2,3,4,5,6], [], [], [9], [1,2,3,4,5,6,7,8,9,10], [], [12], [], [14], [12,13,14,15], [0,1,2,3,4,5,6,7,8,9,10,11,12,13,14,15,16], [], [0,1,2,3,4,5,6,7,8,9,10,11,12,13,14,15,16,17,18]] (by decide) ?_
    refine DF.op 0 [] 20 rfl rfl rfl (.free rfl (NOp.of (by exact g_load_ptrN rfl rfl rfl rfl rfl))) rfl ?_
    refine DF.op 1 [] 20 rfl rfl rfl (.free rfl (by exact h_lit rfl rfl rfl rfl rfl rfl rfl rfl)) rfl ?_
    refine DF.op 2 [] 20 rfl rfl rfl (.free rfl (NOp.of (by exact g_fa_ref rfl rfl rfl rfl rfl rfl))) rfl ?_
    refine DF.op 3 [2] 20 rfl rfl rfl (.free rfl (NOp.of (by exact g_load_ref rfl rfl rfl))) rfl ?_
    refine DF.op 4 [1,2,3] 20 rfl rfl rfl (.free rfl (by exact h_appendSg [] a.sigs (.own rfl rfl rfl) (.view rfl) (by rw [List.nil_append]; omega) (by simp))) rfl ?_
    refine DF.op 5 [] 20 rfl rfl rfl (.free rfl (NOp.of (by exact g_fa_ref rfl rfl rfl rfl rfl rfl))) rfl ?_
    refine DF.op 6 [5] 20 rfl rfl rfl (.free rfl (NOp.of (by exact g_load_ref rfl rfl rfl))) rfl ?_
    refine DF.op 7 [1,2,3,4,5,6] 20 rfl rfl rfl (.free rfl (by exact h_appendSg a.sigs b.sigs (.own rfl rfl (sigsL_len _).symm) (.view rfl) (by rw [List.length_append]; omega) (by simp))) rfl ?_
    refine DF.op 8 [] 20 rfl rfl rfl (.free rfl (by exact h_lit rfl rfl rfl rfl rfl rfl rfl rfl)) rfl ?_
    refine DF.op 9 [] 20 rfl rfl rfl (.free rfl (NOp.of (by exact g_fa_ref rfl rfl rfl rfl rfl rfl))) rfl ?_
    refine DF.op 10 [9] 20 rfl rfl rfl (.free rfl (NOp.of (by exact g_load_ref rfl rfl rfl))) rfl ?_
    refine DF.op 11 [1,2,3,4,5,6,7,8,9,10] 20 rfl rfl rfl (.free rfl (by exact h_appendLx [] a.labs (.own rfl rfl rfl) (.view rfl) (by rw [List.nil_append]; omega) (by simp))) rfl ?_
    refine DF.op 12 [] 20 rfl rfl rfl (.free rfl (NOp.of (by exact g_fa_ref rfl rfl rfl rfl rfl rfl))) rfl ?_
    refine DF.op 13 [12] 20 rfl rfl rfl (.free rfl (NOp.of (by exact g_load_ref rfl rfl rfl))) rfl ?_
    refine DF.op 14 [] 20 rfl rfl rfl (.free rfl (NOp.of (by exact g_fa_ref rfl rfl rfl rfl rfl rfl))) rfl ?_
    refine DF.op 15 [14] 20 rfl rfl rfl (.free rfl (NOp.of (by exact g_load_ref rfl rfl rfl))) rfl ?_
    refine DF.op 16 [12,13,14,15] 20 rfl rfl rfl (.free rfl (NOp.of (by exact g_saddB (a := a.start) (b := b.start) rfl rfl (by omega)))) rfl ?_
    refine DF.op 17 (List.range 17) 20 rfl rfl rfl (.free rfl (NOp.of (by exact g_build rfl rfl rfl))) rfl ?_
    refine DF.op 18 [] 20 rfl rfl rfl (.free rfl (by exact h_alloc rfl)) rfl ?_
    refine DF.op 19 (List.range 19) 20 rfl rfl rfl (.free rfl (by exact h_store rfl rfl rfl rfl rfl rfl)) rfl ?_
    refine DF.fin (ps := [(0,1),(0,2),(0,3),(0,4),(0,5),(0,6),(0,7),(0,8),(0,9),(0,10),(0,11),(0,12),(0,13),(0,14),(0,15),(0,16),(0,18),(1,0),(1,2),(1,3),(1,5),(1,6),(1,8),(1,9),(1,10),(1,12),(1,13),(1,14),(1,15),(1,16),(1,18),(2,0),(2,1),(2,5),(2,6),(2,8),(2,9),(2,10),(2,12),(2,13),(2,14),(2,15),(2,16),(2,18),(3,0),(3,1),(3,5),(3,6),(3,8),(3,9),(3,10),(3,12),(3,13),(3,14),(3,15),(3,16),(3,18),(4,0),(4,5),(4,6),(4,8),(4,9),(4,10),(4,12),(4,13),(4,14),(4,15),(4,16),(4,18),(5,0),(5,1),(5,2),(5,3),(5,4),(5,8),(5,9),(5,10),(5,12),(5,13),(5,14),(5,15),(5,16),(5,18),(6,0),(6,1),(6,2),(6,3),(6,4),(6,8),(6,9),(6,10),(6,12),(6,13),(6,14),(6,15),(6,16),(6,18),(7,0),(7,8),(7,9),(7,10),(7,12),(7,13),(7,14),(7,15),(7,16),(7,18),(8,0),(8,1),(8,2),(8,3),(8,4),(8,5),(8,6),(8,7),(8,9),(8,10),(8,12),(8,13),(8,14),(8,15),(8,16),(8,18),(9,0),(9,1),(9,2),(9,3),(9,4),(9,5),(9,6),(9,7),(9,8),(9,12),(9,13),(9,14),(9,15),(9,16),(9,18),(10,0),(10,1),(10,2),(10,3),(10,4),(10,5),(10,6),(10,7),(10,8),(10,12),(10,13),(10,14),(10,15),(10,16),(10,18),(11,0),(11,12),(11,13),(11,14),(11,15),(11,16),(11,18),(12,0),(12,1),(12,2),(12,3),(12,4),(12,5),(12,6),(12,7),(12,8),(12,9),(12,10),(12,11),(12,14),(12,15),(12,18),(13,0),(13,1),(13,2),(13,3),(13,4),(13,5),(13,6),(13,7),(13,8),(13,9),(13,10),(13,11),(13,14),(13,15),(13,18),(14,0),(14,1),(14,2),(14,3),(14,4),(14,5),(14,6),(14,7),(14,8),(14,9),(14,10),(14,11),(14,12),(14,13),(14,18),(15,0),(15,1),(15,2),(15,3),(15,4),(15,5),(15,6),(15,7),(15,8),(15,9),(15,10),(15,11),(15,12),(15,13),(15,18),(16,0),(16,1),(16,2),(16,3),(16,4),(16,5),(16,6),(16,7),(16,8),(16,9),(16,10),(16,11),(16,18),(17,18),(18,0),(18,1),(18,2),(18,3),(18,4),(18,5),(18,6),(18,7),(18,8),(18,9),(18,10),(18,11),(18,12),(18,13),(18,14),(18,15),(18,16),(18,17)]) 20 rfl (by decide +kernel) (by decide +kernel) (by rfl) ?_
    refine th_n (AC.seq (AC.seq (AC.region ?_)))
    refine zf ?_
    refine zr ?_
    refine AL.p (by exact g_len_view rfl rfl (by exact List.length_map _)) rfl ?_
    refine zm ?_
    refine AL.nil (th_n (AC.block ?_))
    refine AC.loop (ι := Nat) (fun k => ⟨79, 400, [(2, .d (.ref (stgD a))), (4, .ptr 201 0), (8, .ptr 200 0), (51, .d (vLabs b.labs)), (52, aI b.labs.length), (53, aI k)], [(200, some (.cells 30 [aI U.places, .d (vTs U.ts), .own 101 (a.sigs ++ b.sigs).length, .own 102 (a.labs ++ (b.labs.take k).map (shLab a.sigs.length)).length, aS (bstr (a.start ++ b.start))])), (101, some (.arr 149 2 (sigsL (a.sigs ++ b.sigs)))), (102, some (.arr 156 2 (labsL (a.labs ++ (b.labs.take k).map (shLab a.sigs.length))))), (201, some (.cells 30 zStg))]⟩) (fun k => k ≤ b.labs.length) (fun k => b.labs.length - k) (0) ?_ (Nat.zero_le _) ?_
    ·exact zw [(200, _), (101, _), (102, _), (201, _)] hC (b := by rw [List.take_zero, List.map_nil, List.append_nil a.labs]; repeat (first | exact True.intro | refine And.intro ?_ ?_ | exact DLead.same | exact rfl | refine ⟨_, _, rfl, rfl, ?_⟩ | refine ⟨_, rfl, ?_⟩ | refine ⟨_, _, rfl, ?_, ?_⟩))
    ·intro k hk
     refine AC.seq (AC.region ?_)
     refine zc ?_
     refine AL.nil (th_n (AC.seq ?_))
     refine AC.condD rfl (fun h3 => ?_) (fun h3 => ?_)
     ·refine AC.skip (th_n (AC.seq (AC.block (AC.seq ?_))))
      have hk1 : k < b.labs.length := by omega
      have hget := labsL_get hk1
      have htk := takeLab (f := shLab a.sigs.length) hk1
      have hbd := hb.lb _ (List.getElem_mem hk1)
      have hacc : (a.labs ++ (b.labs.take k).map (shLab a.sigs.length)).length ≤ 300000 := by rw [List.length_append, List.length_map, List.length_take]; omega
      obtain ⟨acc, hac⟩ : ∃ acc, acc = a.labs ++ (b.labs.take k).map (shLab a.sigs.length) := ⟨_, rfl⟩
      have hnext : a.labs ++ (b.labs.take (k + 1)).map (shLab a.sigs.length) = acc ++ [shLab a.sigs.length b.labs[k]] := by rw [htk, ← List.append_assoc, ← hac]
      rw [← hac] at hacc ⊢
      have hsh : shLab a.sigs.length b.labs[k] = if 0 ≤ b.labs[k].sig then ⟨b.labs[k].sig + a.sigs.length, b.labs[k].up⟩ else b.labs[k] := rfl
      obtain ⟨x, hx⟩ : ∃ x, x = b.labs[k] := ⟨_, rfl⟩
      rw [← hx] at hget hbd hsh hnext
      refine AC.region ?_
      refine AL.p (by exact g_ia_view rfl rfl rfl rfl rfl (by rfl) (by assumption)) rfl ?_
      refine AL.p (by exact g_load_refN rfl rfl rfl rfl) rfl ?_
      refine AL.q (by exact h_alloc rfl) rfl ?_
      refine zs ?_
      refine AL.nil (th_n ?_)
      refine AC.cut (fun (_ : Unit) => ⟨79, 600, [(2, .d (.ref (stgD a))), (4, .ptr 201 0), (8, .ptr 200 0), (10, .ptr 202 0), (51, .d (vLabs b.labs)), (52, aI b.labs.length), (53, aI k)], [(200, some (.cells 30 [aI U.places, .d (vTs U.ts), .own 101 (a.sigs ++ b.sigs).length, .own 102 acc.length, aS (bstr (a.start ++ b.start))])), (101, some (.arr 149 2 (sigsL (a.sigs ++ b.sigs)))), (102, some (.arr 156 2 (labsL acc))), (201, some (.cells 30 zStg)), (202, some (.cells 156 [aI (shLab a.sigs.length x).sig, aT (shLab a.sigs.length x).up]))]⟩) (fun _ => True) ?_ ?_
      ·refine AC.seq (AC.region ?_)
       refine zF ?_
       refine zl ?_
       refine zc ?_
       refine AL.nil (th_n ?_)
       refine AC.condD rfl (fun h4 => ?_) (fun h4 => ?_)
       ·refine AC.region ?_
        refine zF ?_
        refine zl ?_
        refine zf ?_
        refine zr ?_
        refine AL.p (by exact g_len_view (k := a.sigs.length) rfl rfl (sigsL_len _)) rfl ?_
        refine zA ?_
        refine zF ?_
        refine zs ?_
        refine AL.nil (th_n ?_)
        have e := hsh.trans (if_pos h4)
        exact ⟨(), trivial, zw [(200, 200), (101, 101), (102, 102), (201, 201), (202, 400)] hC (b := by rw [e]; repeat (first | exact True.intro | refine And.intro ?_ ?_ | exact DLead.same | exact rfl | refine ⟨_, _, rfl, rfl, ?_⟩ | refine ⟨_, rfl, ?_⟩ | refine ⟨_, _, rfl, ?_, ?_⟩))⟩
       ·refine AC.skip (th_n ?_)
        have e := hsh.trans (if_neg h4)
        exact ⟨(), trivial, zw [(200, 200), (101, 101), (102, 102), (201, 201), (202, 400)] hC (b := by rw [e]; repeat (first | exact True.intro | refine And.intro ?_ ?_ | exact DLead.same | exact rfl | refine ⟨_, _, rfl, rfl, ?_⟩ | refine ⟨_, rfl, ?_⟩ | refine ⟨_, _, rfl, ?_, ?_⟩))⟩
      ·intro _ _
       refine AC.region ?_
       refine zF ?_
       refine zl ?_
       refine AL.p (by exact g_load_ptrN rfl rfl rfl rfl rfl) rfl ?_
       refine AL.q (by exact h_litF rfl rfl rfl rfl rfl rfl rfl rfl) rfl ?_
       refine AL.q (by exact h_appendLx acc [shLab a.sigs.length x] (.own rfl rfl (labsL_len _).symm) (.view rfl) (by rw [List.length_append]; simp only [List.length_cons, List.length_nil]; omega) (by simp)) rfl ?_
       refine zF ?_
       refine zs ?_
       refine AL.nil (ib_n (th_n (AC.region ?_)))
       refine zA ?_
       refine zm ?_
       refine AL.nil (th_n ?_)
       exact ⟨k + 1, by omega, by omega, zw [(200, 200), (101, 101), (102, _), (201, 201)] hC (b := by rw [hnext]; repeat (first | exact True.intro | refine And.intro ?_ ?_ | exact DLead.same | exact rfl | refine ⟨_, _, rfl, rfl, ?_⟩ | refine ⟨_, rfl, ?_⟩ | refine ⟨_, _, rfl, ?_, ?_⟩))⟩
     ·refine AC.exit (th_e (th_e (ib_y (th_n (AC.seq (AC.seq ?_))))))
      have hkk : k = b.labs.length := by omega
      subst hkk
      rw [List.take_length]
      obtain ⟨t1, t2, t3, t4⟩ : T.net = U ∧ T.sigs = a.sigs ++ b.sigs ∧ T.labs = a.labs ++ b.labs.map (shLab a.sigs.length) ∧ T.start = a.start ++ b.start := by rw [hU1]; exact ⟨rfl, rfl, rfl, rfl⟩
      rw [← t1, ← t2, ← t3, ← t4]
      refine AC.region ?_
      refine AL.p (by exact g_load_ptrN rfl rfl rfl rfl rfl) rfl ?_
      refine AL.q (by exact h_borrow [101, 102] en_l2Good rfl rfl hGt (.cons (.aggs (ds := stgD T) (.cons .d (.cons .d (.cons (.own (id := 101) rfl rfl (ownl _ _) (ownt _ _)) (.cons (.own (id := 102) rfl rfl (ownl _ _) (ownt _ _)) (.cons .d .nil)))))) .nil) rfl) rfl ?_
      refine AL.p (by exact g_not rfl) rfl ?_
      refine AL.nil (th_n ?_)
      refine AC.condB rfl (fun h4 => ?_) (fun h4 => ?_)
      ·refine AC.seq ?_
       exact absurd ‹(!true) = true› (by decide)
      ·refine AC.skip (th_n (AC.seq (AC.region ?_)))
       refine AL.p (by exact g_load_ptrN rfl rfl rfl rfl rfl) rfl ?_
       refine zs ?_
       refine za ?_
       refine AL.nil (th_n (AC.ret (bq_r ?_)))
       exact retN [(0, 101), (1, 102)] rfl (by repeat (first | exact rfl | exact DLead.same | refine ⟨_, _, rfl, ?_, ?_⟩ | refine ⟨_, rfl, ?_⟩)) (by repeat (first | exact True.intro | refine And.intro ?_ ?_ | exact rfl | refine ⟨_, _, rfl, rfl, ?_⟩)) rfl rfl
theorem en_sUnionSTGs : Enters Tryz.prog 240 := enters_of Tryz.func240 rfl rfl
theorem goodS_sigs {s : Stg} (h : goodS s = true) : (1 ≤ s.sigs.length ∧ s.sigs.length ≤ 8) ∧ (∀ x, x ∈ s.sigs → nameB x.name = true) ∧ goodN s.net = true ∧ s.labs.length = s.net.ts.length := by
 simp only [goodS, Bool.and_eq_true, decide_eq_true_eq] at h
 obtain ⟨⟨h1, h2⟩, h3, h4, h5⟩ := h
 unfold sigsB at h3
 rw [Bool.and_eq_true] at h3
 have h6 := inI_iff.1 h3.2
 refine ⟨by omega, fun x hx => ?_, h1, by omega⟩
 obtain ⟨k, hk, rfl⟩ := List.getElem_of_mem hx
 have := allK_iff.1 h3.1 k hk
 unfold sigK at this
 rw [Bool.and_eq_true, sAt_nat hk] at this
 exact this.1
section
variable {P : Program} [PT P] {C : Ctx} {s : ASt}
theorem Weak.freezeA {i id k n e sz : Nat} {cs : List AV} {els els' : List (List DV)} (hs : s.get i = .agg cs) (hk : cs[k]? = some (.own id n)) (hc : s.chunk id = some (.arr e sz els)) (hn : n ≤ els.length) (he : els.take n = els') : Weak C s { n := s.n, nx := s.nx, sl := (i, .agg (cs.set k (.d (.view e sz els')))) :: s.sl, ch := (id, none) :: s.ch } := by
 subst he
 refine ⟨?_⟩
 rintro a w ⟨m, hR⟩
 have hch : ∀ j c, (getL j ((id, none) :: s.ch)).getD none = some c → j ≠ id ∧ s.chunk j = some c := by
  intro j c h
  rw [getL_cons] at h
  split at h
  ·simp at h
  ·rename_i e; exact ⟨e, h⟩
 have hF : ∀ q, Fz C m s w q → Fz C m { n := s.n, nx := s.nx, sl := (i, .agg (cs.set k (.d (.view e sz (els.take n))))) :: s.sl, ch := (id, none) :: s.ch } w q := fun q hq => ⟨hq.1, hq.2.1, fun j c p h1 h2 => hq.2.2 j c p (hch j c h1).2 h2⟩
 obtain ⟨q, hq, hCq, hloc⟩ := hR.ch id _ hc
 have hFb : ∀ b, q.1 = some b → Fz C m { n := s.n, nx := s.nx, sl := (i, .agg (cs.set k (.d (.view e sz (els.take n))))) :: s.sl, ch := (id, none) :: s.ch } w b := by
  intro b hb
  refine ⟨.inr (hloc b (.inl hb)), hCq.lt (.inl hb), fun j c p h1 h2 h3 => ?_⟩
  obtain ⟨hne, h4⟩ := hch j c h1
  exact hne (hR.inj j id c _ p q h4 hc h2 hq b h3 (.inl hb))
 refine ⟨m, hR.fr, hR.fin, hR.sz, fun j => ?_, fun j c h1 => ?_, fun j j' c c' p p' h1 h2 hp hp' b hb hb' => hR.inj j j' c c' p p' (hch j c h1).2 (hch j' c' h2).2 hp hp' b hb hb', hR.un, hR.defers, hR.m0, hR.m0k⟩
 ·show ARep _ _ _ ((getL j ((i, .agg (cs.set k (.d (.view e sz (els.take n))))) :: s.sl)).getD .dead) _
  rw [getL_cons]
  by_cases hj : j = i
  ·subst hj
   rw [if_pos rfl]
   have hv := hR.sl j
   rw [hs] at hv
   generalize a.tmps.getD j undef = v at hv
   simp only [Option.getD_some]
   cases hv with
   | agg g1 g2 g3 =>
    refine .agg (by rw [List.length_set]; exact g1) (fun i' c hc' => ?_) g3
    by_cases hik : k = i'
    ·subst hik
     rw [List.getElem?_set_self (List.getElem?_eq_some_iff.1 hk).1] at hc'
     simp only [Option.some.injEq] at hc'
     subst hc'
     exact .d (own_view (g2 k _ hk) hq (hR.chunkAt hc hq) hn hF hFb)
    ·rw [List.getElem?_set_ne hik] at hc'
     exact (g2 i' c hc').turn (MLe.refl m) (fun k hk _ => ⟨hF k hk, rfl⟩)
  ·rw [if_neg hj]
   exact (hR.sl j).turn (MLe.refl m) (fun k hk _ => ⟨hF k hk, rfl⟩)
 ·obtain ⟨hne, h4⟩ := hch j c h1
  obtain ⟨p, hp, hr, hl⟩ := hR.ch j c h4
  exact ⟨p, hp, hr.turn (MLe.refl m) (fun k hk _ => ⟨hF k hk, rfl⟩) (fun _ _ => rfl), hl⟩
theorem Weak.freezeA3 (i : Nat) {id1 id2 id3 n1 n2 n3 e1 e2 e3 z1 z2 z3 : Nat} {x y : AV} {els1 els2 els3 els1' els2' els3' : List (List DV)} (hs : s.get i = .agg [x, .own id1 n1, .own id2 n2, .own id3 n3, y]) (hc1 : s.chunk id1 = some (.arr e1 z1 els1)) (hc2 : s.chunk id2 = some (.arr e2 z2 els2)) (hc3 : s.chunk id3 = some (.arr e3 z3 els3))
  (h12 : Nat.beq id2 id1 = false) (h13 : Nat.beq id3 id1 = false) (h23 : Nat.beq id3 id2 = false) (hn1 : n1 ≤ els1.length) (hn2 : n2 ≤ els2.length) (hn3 : n3 ≤ els3.length) (he1 : els1.take n1 = els1') (he2 : els2.take n2 = els2') (he3 : els3.take n3 = els3') :
  Weak C s { n := s.n, nx := s.nx, sl := (i, .agg [x, .d (.view e1 z1 els1'), .d (.view e2 z2 els2'), .d (.view e3 z3 els3'), y]) :: s.sl, ch := (id3, none) :: (id2, none) :: (id1, none) :: s.ch } := by
 have a1 := Weak.freezeA (C := C) (k := 1) hs rfl hc1 hn1 he1
 have g : ∀ (z : AV) (l : List (Nat × AV)) (c : List (Nat × Option Chunk)), ({ n := s.n, nx := s.nx, sl := (i, z) :: l, ch := c } : ASt).get i = z := fun z l c => by show (getL i ((i, z) :: l)).getD .dead = z; rw [getL_cons, if_pos rfl]; rfl
 have k2 : ∀ (l : List (Nat × AV)), ({ n := s.n, nx := s.nx, sl := l, ch := (id1, none) :: s.ch } : ASt).chunk id2 = some (.arr e2 z2 els2) := fun l => by show (getL id2 ((id1, none) :: s.ch)).getD none = _; rw [getL_cons, if_neg (Nat.ne_of_beq_eq_false h12)]; exact hc2
 have k3 : ∀ (l : List (Nat × AV)), ({ n := s.n, nx := s.nx, sl := l, ch := (id2, none) :: (id1, none) :: s.ch } : ASt).chunk id3 = some (.arr e3 z3 els3) := fun l => by show (getL id3 ((id2, none) :: (id1, none) :: s.ch)).getD none = _; rw [getL_cons, if_neg (Nat.ne_of_beq_eq_false h23), getL_cons, if_neg (Nat.ne_of_beq_eq_false h13)]; exact hc3
 have a2 := Weak.freezeA (C := C) (k := 2) (cs := [x, .d (.view e1 z1 els1'), .own id2 n2, .own id3 n3, y]) (g _ s.sl ((id1, none) :: s.ch)) rfl (k2 _) hn2 he2
 have a3 := Weak.freezeA (C := C) (k := 3) (cs := [x, .d (.view e1 z1 els1'), .d (.view e2 z2 els2'), .own id3 n3, y]) (g _ ((i, .agg [x, .d (.view e1 z1 els1'), .own id2 n2, .own id3 n3, y]) :: s.sl) ((id2, none) :: (id1, none) :: s.ch)) rfl (k3 _) hn3 he3
 refine ((a1.trans a2).trans a3).trans ⟨fun a w h => h.weak rfl (Nat.le_refl _) (fun j => .inr ?_) (fun j c h => h)⟩
 show (getL j (_ :: _)).getD AV.dead = (getL j (_ :: _ :: _ :: _)).getD AV.dead
 rw [getL_cons, getL_cons]
 split
 ·rfl
 ·rename_i hne; rw [getL_cons, if_neg hne, getL_cons, if_neg hne]
end
section
variable {P : Program} [PT P] {s : ASt} {dst : Option Nat} {ty : Nat} {pos : String} {af : Array Edge} {gd : Option (Nat × Bool)} {x y : Operand} {xt yt : Nat}
theorem g_eqBr {a : Bool} {n bt : Nat} {zs : List ZK} (ht : PT.ty P xt = some ⟨.bool, n, bt, zs⟩) (hx : s.ev x = aT a) (hy : s.ev y = aT a) : GOp P [] s ⟨dst, .binOp .eql xt x y yt, ty, pos, af, gd⟩ (aT true) := by
 have h := g_eqB (P := P) (dst := dst) (ty := ty) (pos := pos) (af := af) (gd := gd) (yt := yt) ht hx hy
 rwa [beq_self_eq_true] at h
theorem g_neBr {a : Bool} {n bt : Nat} {zs : List ZK} (ht : PT.ty P xt = some ⟨.bool, n, bt, zs⟩) (hx : s.ev x = aT a) (hy : s.ev y = aT a) : GOp P [] s ⟨dst, .binOp .neq xt x y yt, ty, pos, af, gd⟩ (aT false) := by
 have h := g_neB (P := P) (dst := dst) (ty := ty) (pos := pos) (af := af) (gd := gd) (yt := yt) ht hx hy
 rwa [beq_self_eq_true] at h
theorem g_neIr {k : IntKind} {a b : Int} (hx : s.ev x = .d (.val (.int k a))) (hy : s.ev y = .d (.val (.int k b))) (h : a = b) : GOp P [] s ⟨dst, .binOp .neq xt x y yt, ty, pos, af, gd⟩ (aT false) := g_cmp hx hy (by show some (!decide (a = b)) = _; rw [decide_eq_true h]; rfl)
theorem g_neSr {a b : ByteArray} (hx : s.ev x = aS a) (hy : s.ev y = aS b) (h : a = b) : GOp P [] s ⟨dst, .binOp .neq xt x y yt, ty, pos, af, gd⟩ (aT false) := g_scmp hx hy (by show some (!decide (a = b)) = _; rw [decide_eq_true h]; rfl)
end
def txtInt (P : Program) (t : Nat) : Bool :=
 match P.underlying t with
 | some (.struct fs) =>
  !P.stoodInHeld t && !P.eqGuardType P.depth t &&
   match fs.toList with
   | [f, g] => f.name != "_" && g.name != "_" && f.offset == 0 && g.offset == 1 &&
    (match P.underlying f.type with | some .string => true | _ => false) && (match P.underlying g.type with | some (.int _) => true | _ => false) && P.plainKey f.type && P.plainKey g.type
   | _ => false
 | _ => false
section
variable {P : Program} [PT P]
variable {s : ASt} {dst : Option Nat} {ty : Nat} {pos : String} {af : Array Edge} {gd : Option (Nat × Bool)} {x y : Operand} {xt yt : Nat}
theorem run_equalIn_str {P : Program} (w : World) (d : Nat) (t : TypeId) (a b : ByteArray) (h : P.underlying t = some .string) : (Op.equalIn (d + 1) t (.string a) (.string b)).run P w = .ok (a == b) w := by
 simp [Op.equalIn, run_underlying h]
theorem equalSI {t : Nat} {a c : ByteArray} {b d : Int} (h : txtInt P t = true) (w : World) : (Op.equalIn 10000 t (.agg #[.string a, .int .i64 b]) (.agg #[.string c, .int .i64 d])).run P w = .ok (decide (a = c ∧ b = d)) w ∧ P.eqGuardType P.depth t = false := by
 unfold txtInt at h
 split at h
 ·rename_i fs hu
  simp only [Bool.and_eq_true, Bool.not_eq_true'] at h
  obtain ⟨⟨h1, h2⟩, h3⟩ := h
  refine ⟨?_, h2⟩
  have hF : P.fieldsOf t = fs := by unfold Program.fieldsOf; rw [hu]
  rw [run_equalIn_agg w 9999 t _ _ (by rw [hF]; exact hu) h1, hF]
  split at h3
  ·rename_i f g he
   rw [he]
   simp only [Bool.and_eq_true, bne_iff_ne, ne_eq, beq_iff_eq] at h3
   obtain ⟨⟨⟨⟨⟨⟨⟨n1, n2⟩, o1⟩, o2⟩, u1⟩, u2⟩, p1⟩, p2⟩ := h3
   split at u1
   ·rename_i hu1
    split at u2
    ·rename_i k2 hu2
     simp only [Op.eqFields, ne_eq, n1, n2, not_false_eq_true, if_true, o1, o2, Sem.run_bind]
     rw [run_part_plain (w := w) p1 (v := .string a) rfl]
     simp only [Result.andThen_ok, Sem.run_bind]
     rw [run_part_plain (w := w) p1 (v := .string c) rfl]
     simp only [Result.andThen_ok, Sem.run_bind]
     rw [run_equalIn_str w _ _ _ _ hu1]
     simp only [Result.andThen_ok, Sem.run_ite]
     by_cases e1 : a = c
     ·subst e1
      rw [if_neg (by simp [(MapKept.bytes_beq a a).2 rfl])]
      simp only [Sem.run_bind]
      rw [run_part_plain (w := w) p2 (v := .int .i64 b) rfl]
      simp only [Result.andThen_ok, Sem.run_bind]
      rw [run_part_plain (w := w) p2 (v := .int .i64 d) rfl]
      simp only [Result.andThen_ok, Sem.run_bind]
      rw [run_equalIn_int w _ _ _ _ _ _ hu2]
      simp only [Result.andThen_ok, Sem.run_ite, Sem.run_pure]
      by_cases e2 : b = d
      ·subst e2; simp
      ·simp [e2]
     ·rw [if_pos (by simp [Bool.eq_false_iff.2 fun q => e1 ((MapKept.bytes_beq a c).1 q)])]
      simp [e1]
    ·exact absurd u2 (by decide)
   ·exact absurd u1 (by decide)
  ·exact absurd h3 (by decide)
 ·exact absurd h (by decide)
theorem si_agg {m : Nat → Option (Option Nat × Nat)} {F : Nat → Prop} {w : World} {a : ByteArray} {b : Int} {v : Value} (h : ARep m F w (.agg [aS a, aI b]) v) : v = .agg #[.string a, .int .i64 b] := by
 cases h with
 | agg h1 h2 h3 =>
  rename_i vs
  have e0 := h2 0 _ rfl
  have e1 := h2 1 _ rfl
  obtain ⟨e0, -⟩ := e0.val_eq
  obtain ⟨e1, -⟩ := e1.val_eq
  have hsz : vs.size = 2 := h1
  congr 1
  apply Array.ext
  ·exact hsz
  ·intro i hi hi2
   match i, hi, hi2 with
   | 0, hi, hi2 => rw [Array.getD_eq_getD_getElem?, Array.getElem?_eq_getElem hi] at e0; exact e0
   | 1, hi, hi2 => rw [Array.getD_eq_getD_getElem?, Array.getElem?_eq_getElem hi] at e1; exact e1
   | n + 2, hi, hi2 => omega
theorem g_eqSI {a c : ByteArray} {b d : Int} {op : BinOp} {r : Bool} (ht : txtInt P xt = true) (hx : s.ev x = .agg [aS a, aI b]) (hy : s.ev y = .agg [aS c, aI d]) (hop : eqOf op (decide (a = c ∧ b = d)) = some r) :
  GOp P [] s ⟨dst, .binOp op xt x y yt, ty, pos, af, gd⟩ (aT r) := by
 refine ⟨fun s' ha C U a' w m hR => ?_⟩
 have h1 := hR.ev x
 have h2 := hR.ev y
 rw [ha.2.1 x (by simp [Op.operands]), hx] at h1
 rw [ha.2.1 y (by simp [Op.operands]), hy] at h2
 have e1 := si_agg h1
 have e2 := si_agg h2
 obtain ⟨q1, q2⟩ := equalSI (a := a) (b := b) (c := c) (d := d) ht w
 refine ⟨.bool r, ?_, .d (.val trivial)⟩
 simp only [execOp, e1, e2, Sem.run_bind, run_eqGuard_agg w op xt x y _ _ q2, Result.andThen_ok]
 cases op <;> simp only [eqOf, Option.some.injEq, reduceCtorEq] at hop
 ·subst hop; rw [run_eql_struct, q1]; rfl
 ·subst hop; rw [run_neq_struct, q1]; rfl
end
section
variable {P : Program} [PT P]
variable {s : ASt} {dst : Option Nat} {ty : Nat} {pos : String} {af : Array Edge} {gd : Option (Nat × Bool)} {x y : Operand} {xt yt : Nat}
end
def eqL {α : Type} (f : α → α → Bool) : List α → List α → Bool
 | [], [] => true
 | x :: xs, y :: ys => f x y && eqL f xs ys
 | _, _ => false
theorem eqL_len {α : Type} {f : α → α → Bool} : ∀ {a b : List α}, a.length ≠ b.length → eqL f a b = false
 | [], [], h => absurd rfl h
 | [], _ :: _, _ => rfl
 | _ :: _, [], _ => rfl
 | x :: xs, y :: ys, h => by rw [eqL, eqL_len (by simpa using h), Bool.and_false]
theorem eqL_no {α : Type} {f : α → α → Bool} : ∀ {a b : List α} {k : Nat} (ha : k < a.length) (hb : k < b.length), f a[k] b[k] = false → eqL f a b = false
 | x :: xs, y :: ys, 0, _, _, h => by rw [eqL, show f x y = false from h, Bool.false_and]
 | x :: xs, y :: ys, k + 1, ha, hb, h => by rw [eqL, eqL_no (k := k) (by simpa using ha) (by simpa using hb) (by simpa using h), Bool.and_false]
theorem eqL_yes {α : Type} {f : α → α → Bool} : ∀ {a b : List α}, a.length = b.length → (∀ k (ha : k < a.length) (hb : k < b.length), f a[k] b[k] = true) → eqL f a b = true
 | [], [], _, _ => rfl
 | [], _ :: _, h, _ => by simp at h
 | _ :: _, [], h, _ => by simp at h
 | x :: xs, y :: ys, h, hh => by
  have h0 := hh 0 (by simp) (by simp)
  rw [eqL, show f x y = true from h0, eqL_yes (by simpa using h) (fun k ha hb => hh (k + 1) (Nat.succ_lt_succ ha) (Nat.succ_lt_succ hb))]; rfl
def eqSigB (x y : Sig) : Bool := decide (bstr x.name = bstr y.name ∧ x.kind = y.kind)
set_option maxHeartbeats 2000000 in
theorem eqSigs_spec (a b : List Sig) (ha : a.length ≤ 1000000) (hb : b.length ≤ 1000000) : ASpec Tryz.prog 147 [.d (vSigs a), .d (vSigs b)] [] (Pure1 (aT (eqL eqSigB a b))) := by
 have hL := eqL_len (f := eqSigB) (a := a) (b := b)
 have hNo := fun k => eqL_no (f := eqSigB) (a := a) (b := b) (k := k)
 have hYes := eqL_yes (f := eqSigB) (a := a) (b := b)
 obtain ⟨G, hG⟩ : ∃ G, G = eqL eqSigB a b := ⟨_, rfl⟩
 rw [← hG] at hL hNo hYes ⊢
 clear hG
 refine ASpec.of Tryz.func147 rfl rfl fun C hC => ?_
 refine AC.seq (AC.region ?_)
 refine za ?_
 refine AL.nil (th_n (AC.seq (AC.seq (AC.region ?_))))
 refine zm ?_
 refine AL.p (by exact g_len_view (k := a.length) rfl rfl (sigsL_len _)) rfl ?_
 refine zm ?_
 refine AL.p (by exact g_len_view (k := b.length) rfl rfl (sigsL_len _)) rfl ?_
 refine zc ?_
 refine AL.nil (th_n ?_)
 refine AC.condND rfl (fun h0 => ?_) (fun h0 => ?_)
 ·refine AC.seq (AC.region ?_)
  refine za ?_
  refine AL.nil (th_n (AC.ret (th_r (bq_r ?_))))
  have e := hL (by omega)
  exact ret1 rfl (by rw [e])
 ·refine AC.skip (th_n (AC.seq (AC.seq ?_)))
  have hl : a.length = b.length := by omega
  refine AC.region ?_
  refine zm ?_
  refine AL.p (by exact g_len_view (k := a.length) rfl rfl (sigsL_len _)) rfl ?_
  refine zm ?_
  refine AL.nil (th_n (AC.block ?_))
  refine AC.loop (ι := Nat) (fun k => ⟨26, 100, [(0, .d (vSigs a)), (1, .d (vSigs b)), (12, aI a.length), (13, aI k)], []⟩) (fun k => k ≤ a.length ∧ ∀ j (hj : j < a.length) (hj2 : j < b.length), j < k → eqSigB a[j] b[j] = true) (fun k => a.length - k) (0) ?_ (⟨Nat.zero_le _, fun j _ _ hj => by omega⟩) ?_
  ·refine Weak.ren _ [] hC rfl ?_ ?_ rfl rfl rfl <;> repeat (first | exact True.intro | refine And.intro ?_ ?_ | exact DLead.same)
  ·intro k ⟨hk, hall⟩
   refine AC.seq (AC.region ?_)
   refine zc ?_
   refine AL.nil (th_n (AC.seq ?_))
   refine AC.condD rfl (fun h1 => ?_) (fun h1 => ?_)
   ·refine AC.skip (th_n (AC.seq (AC.block (AC.seq ?_))))
    have hk1 : k < a.length := by omega
    have hk2 : k < b.length := by omega
    have hget := sigsL_get hk1
    have hget2 := sigsL_get hk2
    have hNk := hNo k hk1 hk2
    have hall2 : eqSigB a[k] b[k] = true → ∀ j (hj : j < a.length) (hj2 : j < b.length), j < k + 1 → eqSigB a[j] b[j] = true := fun h j hj hj2 hj3 => by rcases Nat.lt_succ_iff_lt_or_eq.1 hj3 with q | rfl; exact hall j hj hj2 q; exact h
    obtain ⟨x, hx⟩ : ∃ x, x = a[k] := ⟨_, rfl⟩
    obtain ⟨y, hy⟩ : ∃ y, y = b[k] := ⟨_, rfl⟩
    rw [← hx, ← hy] at hNk hall2
    rw [← hx] at hget
    rw [← hy] at hget2
    refine AC.region ?_
    refine zm ?_
    refine za ?_
    refine AL.nil (th_n (AC.seq ?_))
    refine AC.drawn' mixed_ok [[], [], [0,1], [0,1,2], [], [], [4,5], [4,5,6], [0,1,2,3,4,5,6,7]] (by decide) ?_
    refine DF.op 0 [] 9 rfl rfl rfl (.free rfl (NOp.of (by exact mv1 rfl))) rfl ?_
    refine DF.op 1 [] 9 rfl rfl rfl (.free rfl (NOp.of (by exact mv1 rfl))) rfl ?_
    refine DF.op 2 [0,1] 9 rfl rfl rfl (.free rfl (NOp.of (by exact g_ia_view (i := k) rfl rfl rfl rfl rfl rfl hget))) rfl ?_
    refine DF.op 3 [0,1,2] 9 rfl rfl rfl (.free rfl (NOp.of (by exact g_load_refN rfl rfl rfl rfl))) rfl ?_
    refine DF.op 4 [] 9 rfl rfl rfl (.free rfl (NOp.of (by exact mv1 rfl))) rfl ?_
    refine DF.op 5 [] 9 rfl rfl rfl (.free rfl (NOp.of (by exact mv1 rfl))) rfl ?_
    refine DF.op 6 [4,5] 9 rfl rfl rfl (.free rfl (NOp.of (by exact g_ia_view (i := k) rfl rfl rfl rfl rfl rfl hget2))) rfl ?_
    refine DF.op 7 [4,5,6] 9 rfl rfl rfl (.free rfl (NOp.of (by exact g_load_refN rfl rfl rfl rfl))) rfl ?_
    refine DF.op 8 [0,1,2,3,4,5,6,7] 9 rfl rfl rfl (.free rfl (NOp.of (by exact g_eqSI (r := !decide (bstr x.name = bstr y.name ∧ x.kind = y.kind)) (by decide +kernel) rfl rfl rfl))) rfl ?_
    refine DF.fin (ps := [(0,1),(0,4),(0,5),(0,6),(0,7),(1,0),(1,4),(1,5),(1,6),(1,7),(2,4),(2,5),(2,6),(2,7),(3,4),(3,5),(3,6),(3,7),(4,0),(4,1),(4,2),(4,3),(4,5),(5,0),(5,1),(5,2),(5,3),(5,4),(6,0),(6,1),(6,2),(6,3),(7,0),(7,1),(7,2),(7,3)]) 9 rfl (by decide +kernel) (by decide +kernel) (by rfl) ?_
    refine th_n ?_
    refine AC.condND rfl (fun h2 => ?_) (fun h2 => ?_)
    ·refine AC.seq (AC.region ?_)
     refine za ?_
     refine AL.nil (th_n (AC.ret (ib_r (th_r (th_r (ib_r (th_r (bq_r ?_))))))))
     have e := hNk (by show decide _ = false; exact decide_eq_false h2)
     exact ret1 rfl (by rw [e])
    ·refine AC.skip (ib_n (th_n (AC.region ?_)))
     refine zA ?_
     refine zm ?_
     refine AL.nil (th_n ?_)
     exact ⟨k + 1, ⟨by omega, hall2 (by show decide _ = true; exact decide_eq_true h2)⟩, by omega, Weak.ren _ [] hC rfl (by repeat (first | exact True.intro | refine And.intro ?_ ?_ | exact DLead.same)) (by repeat (exact True.intro)) rfl rfl rfl⟩
   ·refine AC.exit (th_e (th_e (ib_y (th_n (AC.seq (AC.region ?_))))))
    refine za ?_
    refine AL.nil (th_n (AC.ret (bq_r ?_)))
    have e := hYes hl (fun j hj hj2 => hall j hj hj2 (by omega))
    exact ret1 rfl (by rw [e])
theorem en_eqSigs : Enters Tryz.prog 147 := enters_of Tryz.func147 rfl rfl
set_option maxHeartbeats 2000000 in
theorem l2SameSigs_spec (a b : List Sig) (ha : a.length ≤ 1000000) (hb : b.length ≤ 1000000) : ASpec Tryz.prog 150 [.d (vSigs a), .d (vSigs b)] [] (Pure1 (aT (eqL eqSigB a b))) := by
 have hL := eqL_len (f := eqSigB) (a := a) (b := b)
 have hNo := fun k => eqL_no (f := eqSigB) (a := a) (b := b) (k := k)
 have hYes := eqL_yes (f := eqSigB) (a := a) (b := b)
 obtain ⟨G, hG⟩ : ∃ G, G = eqL eqSigB a b := ⟨_, rfl⟩
 rw [← hG] at hL hNo hYes ⊢
 clear hG
 refine ASpec.of Tryz.func150 rfl rfl fun C hC => ?_
 refine AC.seq (AC.region ?_)
 refine za ?_
 refine AL.nil (th_n (AC.seq (AC.seq (AC.region ?_))))
 refine zm ?_
 refine AL.p (by exact g_len_view (k := a.length) rfl rfl (sigsL_len _)) rfl ?_
 refine zm ?_
 refine AL.p (by exact g_len_view (k := b.length) rfl rfl (sigsL_len _)) rfl ?_
 refine zc ?_
 refine AL.nil (th_n ?_)
 refine AC.condND rfl (fun h0 => ?_) (fun h0 => ?_)
 ·refine AC.seq (AC.region ?_)
  refine za ?_
  refine AL.nil (th_n (AC.ret (th_r (bq_r ?_))))
  have e := hL (by omega)
  exact ret1 rfl (by rw [e])
 ·refine AC.skip (th_n (AC.seq (AC.seq ?_)))
  have hl : a.length = b.length := by omega
  refine AC.region ?_
  refine zm ?_
  refine AL.p (by exact g_len_view (k := a.length) rfl rfl (sigsL_len _)) rfl ?_
  refine zm ?_
  refine AL.nil (th_n (AC.block ?_))
  refine AC.loop (ι := Nat) (fun k => ⟨26, 100, [(0, .d (vSigs a)), (1, .d (vSigs b)), (12, aI a.length), (13, aI k)], []⟩) (fun k => k ≤ a.length ∧ ∀ j (hj : j < a.length) (hj2 : j < b.length), j < k → eqSigB a[j] b[j] = true) (fun k => a.length - k) (0) ?_ (⟨Nat.zero_le _, fun j _ _ hj => by omega⟩) ?_
  ·refine Weak.ren _ [] hC rfl ?_ ?_ rfl rfl rfl <;> repeat (first | exact True.intro | refine And.intro ?_ ?_ | exact DLead.same)
  ·intro k ⟨hk, hall⟩
   refine AC.seq (AC.region ?_)
   refine zc ?_
   refine AL.nil (th_n (AC.seq ?_))
   refine AC.condD rfl (fun h1 => ?_) (fun h1 => ?_)
   ·refine AC.skip (th_n (AC.seq (AC.block (AC.seq ?_))))
    have hk1 : k < a.length := by omega
    have hk2 : k < b.length := by omega
    have hget := sigsL_get hk1
    have hget2 := sigsL_get hk2
    have hNk := hNo k hk1 hk2
    have hall2 : eqSigB a[k] b[k] = true → ∀ j (hj : j < a.length) (hj2 : j < b.length), j < k + 1 → eqSigB a[j] b[j] = true := fun h j hj hj2 hj3 => by rcases Nat.lt_succ_iff_lt_or_eq.1 hj3 with q | rfl; exact hall j hj hj2 q; exact h
    obtain ⟨x, hx⟩ : ∃ x, x = a[k] := ⟨_, rfl⟩
    obtain ⟨y, hy⟩ : ∃ y, y = b[k] := ⟨_, rfl⟩
    rw [← hx, ← hy] at hNk hall2
    rw [← hx] at hget
    rw [← hy] at hget2
    refine AC.region ?_
    refine zm ?_
    refine za ?_
    refine AL.nil (th_n (AC.seq ?_))
    refine AC.drawn' mixed_ok [[], [], [0,1], [0,1,2], [], [], [4,5], [4,5,6], [0,1,2,3,4,5,6,7]] (by decide) ?_
    refine DF.op 0 [] 9 rfl rfl rfl (.free rfl (NOp.of (by exact mv1 rfl))) rfl ?_
    refine DF.op 1 [] 9 rfl rfl rfl (.free rfl (NOp.of (by exact mv1 rfl))) rfl ?_
    refine DF.op 2 [0,1] 9 rfl rfl rfl (.free rfl (NOp.of (by exact g_ia_view (i := k) rfl rfl rfl rfl rfl rfl hget))) rfl ?_
    refine DF.op 3 [0,1,2] 9 rfl rfl rfl (.free rfl (NOp.of (by exact g_load_refN rfl rfl rfl rfl))) rfl ?_
    refine DF.op 4 [] 9 rfl rfl rfl (.free rfl (NOp.of (by exact mv1 rfl))) rfl ?_
    refine DF.op 5 [] 9 rfl rfl rfl (.free rfl (NOp.of (by exact mv1 rfl))) rfl ?_
    refine DF.op 6 [4,5] 9 rfl rfl rfl (.free rfl (NOp.of (by exact g_ia_view (i := k) rfl rfl rfl rfl rfl rfl hget2))) rfl ?_
    refine DF.op 7 [4,5,6] 9 rfl rfl rfl (.free rfl (NOp.of (by exact g_load_refN rfl rfl rfl rfl))) rfl ?_
    refine DF.op 8 [0,1,2,3,4,5,6,7] 9 rfl rfl rfl (.free rfl (NOp.of (by exact g_eqSI (r := !decide (bstr x.name = bstr y.name ∧ x.kind = y.kind)) (by decide +kernel) rfl rfl rfl))) rfl ?_
    refine DF.fin (ps := [(0,1),(0,4),(0,5),(0,6),(0,7),(1,0),(1,4),(1,5),(1,6),(1,7),(2,4),(2,5),(2,6),(2,7),(3,4),(3,5),(3,6),(3,7),(4,0),(4,1),(4,2),(4,3),(4,5),(5,0),(5,1),(5,2),(5,3),(5,4),(6,0),(6,1),(6,2),(6,3),(7,0),(7,1),(7,2),(7,3)]) 9 rfl (by decide +kernel) (by decide +kernel) (by rfl) ?_
    refine th_n ?_
    refine AC.condND rfl (fun h2 => ?_) (fun h2 => ?_)
    ·refine AC.seq (AC.region ?_)
     refine za ?_
     refine AL.nil (th_n (AC.ret (ib_r (th_r (th_r (ib_r (th_r (bq_r ?_))))))))
     have e := hNk (by show decide _ = false; exact decide_eq_false h2)
     exact ret1 rfl (by rw [e])
    ·refine AC.skip (ib_n (th_n (AC.region ?_)))
     refine zA ?_
     refine zm ?_
     refine AL.nil (th_n ?_)
     exact ⟨k + 1, ⟨by omega, hall2 (by show decide _ = true; exact decide_eq_true h2)⟩, by omega, Weak.ren _ [] hC rfl (by repeat (first | exact True.intro | refine And.intro ?_ ?_ | exact DLead.same)) (by repeat (exact True.intro)) rfl rfl rfl⟩
   ·refine AC.exit (th_e (th_e (ib_y (th_n (AC.seq (AC.region ?_))))))
    refine za ?_
    refine AL.nil (th_n (AC.ret (bq_r ?_)))
    have e := hYes hl (fun j hj hj2 => hall j hj hj2 (by omega))
    exact ret1 rfl (by rw [e])
theorem en_l2SameSigs : Enters Tryz.prog 150 := enters_of Tryz.func150 rfl rfl
set_option maxHeartbeats 4000000 in
theorem enabled_spec (N : Net) (m : List UInt8) (hB : NetB N) (hM : NetM N m) (hb : bitsB m N.places = true) : ASpec Tryz.prog 107 [netA N, aS (bstr m)] [] (Pure1 (.d (vI (readyL N m N.ts.length)))) := by
 have hl := hB.l
 refine ASpec.of Tryz.func107 rfl rfl fun C hC => ?_
 refine AC.seq (AC.region ?_)
 refine AL.q (by exact h_boxF rfl rfl) rfl ?_
 refine za ?_
 refine AL.nil (th_n (AC.seq (AC.region ?_)))
 refine AL.q (by exact h_lit rfl rfl rfl rfl rfl rfl rfl rfl) rfl ?_
 refine AL.p (by exact as2 rfl) rfl ?_
 refine AL.nil (th_n (AC.seq (AC.seq (AC.region ?_))))
 refine zf ?_
 refine zr ?_
 refine AL.p (by exact g_len_view rfl rfl (by exact List.length_map _)) rfl ?_
 refine zm ?_
 refine AL.nil (th_n (AC.block ?_))
 refine AC.loop (ι := Nat) (fun k => ⟨26, 108, [(1, aS (bstr m)), (5, .own 100 (readyL N m k).length), (10, .d (vTs N.ts)), (11, aI N.ts.length), (12, aI k)], [(100, some (.arr 3 1 (ints (readyL N m k))))]⟩) (fun k => k ≤ N.ts.length) (fun k => N.ts.length - k) (0) ?_ (Nat.zero_le _) ?_
 ·exact zw [(100, _)] hC
 ·intro k hk
  refine AC.seq (AC.region ?_)
  refine zc ?_
  refine AL.nil (th_n (AC.seq ?_))
  refine AC.condD rfl (fun h0 => ?_) (fun h0 => ?_)
  ·refine AC.skip (th_n (AC.seq (AC.block (AC.seq ?_))))
   have hk1 : k < N.ts.length := by omega
   have hget := tsL_get hk1
   have hl1 := (hB.t _ (List.getElem_mem hk1)).1
   have hp1 := (hM _ (List.getElem_mem hk1)).1
   have hre := ready_enabled hb hp1
   have hln := readyL_len N m k
   refine AC.region ?_
   refine zm ?_
   refine AL.p (by exact g_ia_view rfl rfl rfl rfl rfl (by rfl) (by assumption)) rfl ?_
   refine AL.p (by exact g_load_refN rfl rfl rfl rfl) rfl ?_
   refine AL.q (by exact h_alloc rfl) rfl ?_
   refine za ?_
   refine zs ?_
   refine AL.nil (th_n (AC.seq (AC.region ?_)))
   refine AL.p (by exact g_load_ptrN rfl rfl rfl rfl rfl) rfl ?_
   refine zm ?_
   refine AL.q (by exact h_pure en_isEnabled rfl rfl (by repeat (first | exact rfl | exact DLead.same | refine ⟨_, _, rfl, ?_, ?_⟩ | refine ⟨_, rfl, ?_⟩)) (isEnabled_spec _ _ (by assumption) (by assumption)) rfl) rfl ?_
   refine AL.nil (th_n ?_)
   refine AC.condB rfl (fun h1 => ?_) (fun h1 => ?_)
   ·refine AC.region ?_
    refine AL.p (by exact mv2 rfl) rfl ?_
    refine zm ?_
    refine AL.q (by exact h_litF rfl rfl rfl rfl rfl rfl rfl rfl) rfl ?_
    refine AL.q (by exact h_appendI (readyL N m k) [(k : Int)] (.own rfl rfl (ints_len _).symm) (.view rfl) (by simp; omega) (by simp)) rfl ?_
    refine AL.p (by exact as2 rfl) rfl ?_
    refine AL.nil (ib_n (th_n (AC.region ?_)))
    refine zA ?_
    refine zm ?_
    refine AL.nil (th_n ?_)
    (have e := readyL_t (m := m) hk1 (by rw [hre]; exact h1); exact ⟨k + 1, by omega, by omega, zw [(100, _)] hC (by rw [e]; repeat (first | exact True.intro | refine And.intro ?_ ?_ | exact DLead.same | exact rfl | refine ⟨_, rfl, ?_⟩)) (by rw [e]; repeat (first | exact True.intro | refine And.intro ?_ ?_ | exact rfl | refine ⟨_, _, rfl, rfl, ?_⟩))⟩)
   ·refine AC.skip (ib_n (th_n (AC.region ?_)))
    refine zA ?_
    refine zm ?_
    refine AL.nil (th_n ?_)
    (have e := readyL_f (m := m) hk1 (by rw [hre]; exact h1); exact ⟨k + 1, by omega, by omega, zw [(100, _)] hC (by rw [e]; repeat (first | exact True.intro | refine And.intro ?_ ?_ | exact DLead.same | exact rfl | refine ⟨_, rfl, ?_⟩)) (by rw [e]; repeat (first | exact True.intro | refine And.intro ?_ ?_ | exact rfl | refine ⟨_, _, rfl, rfl, ?_⟩))⟩)
  ·refine AC.exit (th_e (th_e (ib_y (th_n (AC.seq ?_)))))
   have hkk : k = N.ts.length := by omega
   subst hkk
   refine AC.weak (Weak.freeze (i := 5) rfl rfl (Nat.le_of_eq (ints_len _).symm) (ints_all _)) ?_
   refine AC.region ?_
   refine zm ?_
   refine za ?_
   refine AL.nil (th_n (AC.ret (bq_r ?_)))
   exact ret1 rfl rfl
theorem en_enabled : Enters Tryz.prog 107 := enters_of Tryz.func107 rfl rfl
def posM (k : ByteArray) : List (ByteArray × Value) → Option (Nat × Value)
 | [] => none
 | (a, v) :: es => if k = a then some (0, v) else (posM k es).map fun p => (p.1 + 1, p.2)
def setM (k : ByteArray) (v : Value) : List (ByteArray × Value) → List (ByteArray × Value)
 | [] => [(k, v)]
 | (a, u) :: es => if k = a then (a, v) :: es else (a, u) :: setM k v es
def mkE (p : (ByteArray × Value) × Nat) : MapEntry := ⟨.string p.1.1, p.1.2, p.2⟩
theorem mapObj_eq (es : List (ByteArray × Value)) : mapObj es = .map (es.zipIdx.map mkE).toArray es.length := rfl
theorem findNow_pos (k : ByteArray) : ∀ (es : List (ByteArray × Value)) (n i : Nat), Instr.findNow .string (.string k) ((es.zipIdx n).map mkE) i = some ((posM k es).map fun p => (i + p.1, p.2))
 | [], n, i => rfl
 | (a, v) :: es, n, i => by
  rw [List.zipIdx_cons, List.map_cons, Instr.findNow]
  show (match (some (k == a) : Option Bool) with | some true => _ | some false => _ | none => _) = _
  rw [posM]
  by_cases h : k = a
  ·rw [if_pos h, show (k == a) = true from (MapKept.bytes_beq k a).2 h]; simp [mkE]
  ·rw [if_neg h, show (k == a) = false from Bool.eq_false_iff.2 fun q => h ((MapKept.bytes_beq k a).1 q)]
   show Instr.findNow _ _ _ (i + 1) = _
   rw [findNow_pos k es (n + 1) (i + 1)]
   cases posM k es <;> simp
   omega
theorem posM_lt {k : ByteArray} : ∀ {es : List (ByteArray × Value)} {i : Nat} {v : Value}, posM k es = some (i, v) → ∃ h : i < es.length, es[i] = (k, v)
 | [], i, v, h => by cases h
 | (a, u) :: es, i, v, h => by
  rw [posM] at h
  split at h
  ·rename_i e
   cases h
   exact ⟨by simp, by rw [e]; rfl⟩
  ·cases hp : posM k es with
   | none => rw [hp] at h; cases h
   | some p =>
    obtain ⟨j, u2⟩ := p
    rw [hp] at h
    cases h
    obtain ⟨h1, h2⟩ := posM_lt hp
    exact ⟨by simpa using h1, by simpa using h2⟩
theorem setM_some {k : ByteArray} {v : Value} : ∀ {es : List (ByteArray × Value)} {i : Nat} {u : Value}, posM k es = some (i, u) → setM k v es = es.set i (k, v)
 | [], i, u, h => by cases h
 | (a, x) :: es, i, u, h => by
  rw [posM] at h
  rw [setM]
  split at h
  ·rename_i e
   cases h
   rw [if_pos e, e]; rfl
  ·rename_i e
   rw [if_neg e]
   cases hp : posM k es with
   | none => rw [hp] at h; cases h
   | some p =>
    obtain ⟨j, u2⟩ := p
    rw [hp] at h
    cases h
    rw [setM_some hp]; rfl
theorem setM_none {k : ByteArray} {v : Value} : ∀ {es : List (ByteArray × Value)}, posM k es = none → setM k v es = es ++ [(k, v)]
 | [], h => rfl
 | (a, x) :: es, h => by
  rw [posM] at h
  rw [setM]
  split at h
  ·cases h
  ·rename_i e
   rw [if_neg e]
   cases hp : posM k es with
   | none => rw [setM_none hp]; rfl
   | some p => rw [hp] at h; cases h
theorem run_zero {P : Program} {w : World} {t : TypeId} {z : Value} (h : (P.info? t).bind (·.zero) = some z) : (zeroValue t).run P w = .ok z w := by
 cases hi : P.info? t with
 | none => simp [hi] at h
 | some i => simp [hi] at h; simp [zeroValue, typeInfo, hi, h]
theorem run_lookup_txt {P : Program} {w : World} {t kt et : TypeId} {es : List (ByteArray × Value)} {b : Nat} {k : ByteArray} {z : Value} (hu : P.underlying t = some (.map kt et)) (hk : P.underlying kt = some .string) (hz : (zeroValue et).run P w = .ok z w) (hb : w.heap[b]? = some (mapObj es)) :
  (Instr.lookup t (.map (some b)) (.string k) true).run P w = .ok (match posM k es with | some p => .tuple #[p.2, .bool true] | none => .tuple #[z, .bool false]) w := by
 have hc : ∀ e, (Instr.checkKey e 10000 kt (.string k)).run P w = .ok () w := fun e => MapKept.run_checkKey (k := .string k) hk (by simp [MapKept.IsKey]) e 9999
 have hf := MapKept.run_findKey (w := w) hk (findNow_pos k es 0 0)
 rw [mapObj_eq] at hb
 cases hp : posM k es with
 | none =>
  rw [hp] at hf
  simp [Instr.lookup, run_underlying hu, MapKept.run_getObj_map hb, hc, hf, hz, Result.andThen]
 | some p =>
  rw [hp] at hf
  simp [Instr.lookup, run_underlying hu, MapKept.run_getObj_map hb, hc, hf, Result.andThen]
theorem run_mapUpdate_txt {P : Program} {w : World} {t kt et : TypeId} {es : List (ByteArray × Value)} {b : Nat} {k : ByteArray} {v : Value} (hu : P.underlying t = some (.map kt et)) (hk : P.underlying kt = some .string) (hb : w.heap[b]? = some (mapObj es)) :
  (Instr.mapUpdate t (.map (some b)) (.string k) v).run P w = .ok () { w with heap := w.heap.setIfInBounds b (mapObj (setM k v es)) } := by
 have hc : (Instr.checkKey false 10000 kt (.string k)).run P w = .ok () w := MapKept.run_checkKey (k := .string k) hk (by simp [MapKept.IsKey]) false 9999
 have hf := MapKept.run_findKey (w := w) hk (findNow_pos k es 0 0)
 have hb' := hb
 rw [mapObj_eq] at hb'
 cases hp : posM k es with
 | none =>
  rw [hp] at hf
  have e : mapObj (setM k v es) = .map ((es.zipIdx.map mkE).toArray.push ⟨.string k, v, es.length⟩) (es.length + 1) := by
   rw [setM_none hp, mapObj_eq, List.zipIdx_append, List.map_append, List.length_append]
   simp [mkE]
  simp [Instr.mapUpdate, run_underlying hu, MapKept.run_getObj_map hb', hc, hf, MapKept.run_setObj_map _ hb', Result.andThen, e]
 | some p =>
  obtain ⟨i, u⟩ := p
  rw [hp] at hf
  obtain ⟨hi, he⟩ := posM_lt hp
  have hks : (Instr.keyThatStays (.string k) (.string k)).run P w = .ok (.string k) w := MapKept.run_keyThatStays (d := .string) (by simp [MapKept.IsKey])
  have hget : (es.zipIdx.map mkE).toArray[i]? = some ⟨.string k, u, i⟩ := by
   rw [List.getElem?_toArray, List.getElem?_map, List.getElem?_zipIdx, List.getElem?_eq_getElem hi, he]
   simp [mkE]
  have e : mapObj (setM k v es) = .map ((es.zipIdx.map mkE).toArray.modify i fun e => { e with key := .string k, val := v }) es.length := by
   rw [setM_some hp, mapObj_eq, List.length_set]
   congr 1
   apply Array.ext_getElem?
   intro j
   rw [Array.getElem?_modify, List.getElem?_toArray, List.getElem?_toArray, List.getElem?_map, List.getElem?_map, List.getElem?_zipIdx, List.getElem?_zipIdx, List.getElem?_set]
   by_cases hj : i = j
   ·subst hj
    rw [if_pos rfl, if_pos hi, List.getElem?_eq_getElem hi, if_pos rfl]
    simp [mkE]
   ·rw [if_neg hj, if_neg hj]
  have hei : es[i]? = some (k, u) := by rw [List.getElem?_eq_getElem hi, he]
  simp [Instr.mapUpdate, run_underlying hu, MapKept.run_getObj_map hb', hc, hf, hei, mkE, hks, MapKept.run_setObj_map _ hb', Result.andThen, e]
section
variable {P : Program} [PT P] {s : ASt} {dst : Option Nat} {ty : Nat} {pos : String} {af : Array Edge} {gd : Option (Nat × Bool)} {x y z : Operand} {f t : Nat}
theorem h_makeMap : NOp P [] s ⟨dst, .makeMap t none, ty, pos, af, gd⟩ f ⟨.mp f, [(f, some (.map []))]⟩ := by
 refine NOp.value fun s' ha C U U' a w m hR hU hU' hd => ?_
 refine ⟨.map (some w.heap.size), w.alloc (.map #[] 0), _, ?_, hR.new (cap := 0) hd _ (by simpa using hU 0 (by omega)) (fun j hj => by have := hU' j hj; exact ⟨this.1, by omega⟩) (fun F' hF => ⟨.mp (newM_self _ _ _), .map (heap_alloc_new w _)⟩)⟩
 simp only [execOp, Option.map_none]
 rw [Sem.run_bind, run_makeMap_plain]
 rfl
theorem g_lookup {id kt et : Nat} {es : List (ByteArray × Value)} {k : ByteArray} {z : Value} {v : Value} {b : Bool} (hu : P.underlying t = some (.map kt et)) (hk : P.underlying kt = some .string) (hz : (P.info? et).bind (·.zero) = some z) (hx : s.ev x = .mp id) (hc : s.chunk id = some (.map es)) (hy : s.ev y = aS k)
  (hv : (match posM k es with | some p => (p.2, true) | none => (z, false)) = (v, b)) (hok : okV v) : GOp P [id] s ⟨dst, .lookup t x y true, ty, pos, af, gd⟩ (.tup [.d (.val v), aT b]) := by
 refine ⟨fun s' ha C U a w m hR => ?_⟩
 have hxr := hR.ev x
 rw [ha.2.1 x (by simp [Op.operands]), hx] at hxr
 have hyr := hR.ev y
 rw [ha.2.1 y (by simp [Op.operands]), hy] at hyr
 have hc' : s'.chunk id = some (.map es) := by rw [ha.2.2 id (by simp)]; exact hc
 generalize hxv : a.eval x = xv at hxr
 cases hxr with
 | mp hp =>
  rename_i bk cap
  have hC := hR.chunkAt hc' hp
  cases hC with
  | map hbl =>
   have hrun := run_lookup_txt (k := k) hu hk (run_zero hz) hbl
   refine ⟨.tuple #[v, .bool b], ?_, .tup rfl fun i c hi => ?_⟩
   ·simp only [execOp, hxv, hyr.val_eq.1, Sem.run_bind, hrun]
    cases hp2 : posM k es with
    | none => rw [hp2] at hv; cases hv; rfl
    | some p => rw [hp2] at hv; cases hv; rfl
   ·match i with
    | 0 => cases hi; exact .d (.val hok)
    | 1 => cases hi; exact .d (.val trivial)
    | i + 2 => simp at hi
theorem h_mapUpdate {id kt et : Nat} {es : List (ByteArray × Value)} {k : ByteArray} {v : Value} (hu : P.underlying t = some (.map kt et)) (hk : P.underlying kt = some .string) (hx : s.ev x = .mp id) (hc : s.chunk id = some (.map es)) (hy : s.ev y = aS k) (hz : s.ev z = .d (.val v)) :
  NOp P [id] s ⟨dst, .mapUpdate t x y z, ty, pos, af, gd⟩ f ⟨.dead, [(id, some (.map (setM k v es)))]⟩ := by
 refine ⟨fun s' ha C U U' a w m hR hU hU' hd K Q hK => ?_⟩
 have hxr := hR.ev x
 rw [ha.2.1 x (by simp [Op.operands]), hx] at hxr
 have hyr := hR.ev y
 rw [ha.2.1 y (by simp [Op.operands]), hy] at hyr
 have hzr := hR.ev z
 rw [ha.2.1 z (by simp [Op.operands]), hz] at hzr
 have hc' : s'.chunk id = some (.map es) := by rw [ha.2.2 id (by simp)]; exact hc
 generalize hxv : a.eval x = xv at hxr
 cases hxr with
 | mp hp =>
  rename_i b cap
  have hC := hR.chunkAt hc' hp
  cases hC with
  | map hbl =>
   have hrun := run_mapUpdate_txt (k := k) (v := v) hu hk hbl
   have hR' := hR.turned (i := dst) (r := .dead) (v := undef) (w' := { w with heap := w.heap.setIfInBounds b (mapObj (setM k v es)) }) (c' := .map (setM k v es)) hd hc' hp (fr_iter w b _) (fun F' hF => ⟨.dead, .map (by show (w.heap.setIfInBounds b _)[b]? = _; rw [Array.getElem?_setIfInBounds_self_of_lt (Array.getElem?_eq_some_iff.1 hbl).1])⟩)
   unfold Oper.wp
   simp only [execOp, Sem.run_bind, hxv, hyr.val_eq.1, hzr.val_eq.1, hrun, Result.andThen_ok, Sem.run_pure, Oper.upon]
   exact hK _ _ m (hR'.weaken rfl (fun _ => .inr rfl) (fun _ _ h => h) (fun j hj => (hU' j hj).1))
theorem h_insert {id kt et : Nat} {es : List (ByteArray × Value)} {k : ByteArray} {v : Value} (hu : P.underlying t = some (.map kt et)) (hk : P.underlying kt = some .string) (hx : s.ev x = .mp id) (hc : s.chunk id = some (.map es)) (hy : s.ev y = aS k) (hz : s.ev z = .d (.val v)) :
  NOp P [id] s ⟨dst, .insert t x y z, ty, pos, af, gd⟩ f ⟨.dead, [(id, some (.map (setM k v es)))]⟩ := by
 refine ⟨fun s' ha C U U' a w m hR hU hU' hd K Q hK => ?_⟩
 have hxr := hR.ev x
 rw [ha.2.1 x (by simp [Op.operands]), hx] at hxr
 have hyr := hR.ev y
 rw [ha.2.1 y (by simp [Op.operands]), hy] at hyr
 have hzr := hR.ev z
 rw [ha.2.1 z (by simp [Op.operands]), hz] at hzr
 have hc' : s'.chunk id = some (.map es) := by rw [ha.2.2 id (by simp)]; exact hc
 generalize hxv : a.eval x = xv at hxr
 cases hxr with
 | mp hp =>
  rename_i b cap
  have hC := hR.chunkAt hc' hp
  cases hC with
  | map hbl =>
   have hrun := run_mapUpdate_txt (k := k) (v := v) hu hk hbl
   have hR' := hR.turned (i := dst) (r := .dead) (v := undef) (w' := { w with heap := w.heap.setIfInBounds b (mapObj (setM k v es)) }) (c' := .map (setM k v es)) hd hc' hp (fr_iter w b _) (fun F' hF => ⟨.dead, .map (by show (w.heap.setIfInBounds b _)[b]? = _; rw [Array.getElem?_setIfInBounds_self_of_lt (Array.getElem?_eq_some_iff.1 hbl).1])⟩)
   unfold Oper.wp
   simp only [execOp, Sem.run_bind, hxv, hyr.val_eq.1, hzr.val_eq.1, hrun, Result.andThen_ok, Sem.run_pure, Oper.upon]
   exact hK _ _ m (hR'.weaken rfl (fun _ => .inr rfl) (fun _ _ h => h) (fun j hj => (hU' j hj).1))
end
structure Mv where
 from_ : Int
 by_ : Int
 to_ : Int
abbrev mvD (d : Mv) : List DV := [dI d.from_, dI d.by_, dI d.to_]
abbrev mvL (l : List Mv) : List (List DV) := l.map mvD
abbrev vMvs (l : List Mv) : DV := .view 52 3 (mvL l)
theorem mvL_len (l : List Mv) : (mvL l).length = l.length := List.length_map _
theorem mvL_get {l : List Mv} {k : Nat} (h : k < l.length) : (mvL l)[k]? = some [dI l[k].from_, dI l[k].by_, dI l[k].to_] := by rw [List.getElem?_map, List.getElem?_eq_getElem h]; rfl
theorem h_appendMv (acc new : List Mv) {s : ASt} {dst : Option Nat} {ty : Nat} {pos : String} {af : Array Edge} {gd : Option (Nat × Bool)} {x y : Operand} {f : Nat} {ids ids2 : List Nat} {gone : List (Nat × Option Chunk)}
  (hto : AppTo s x 52 3 (mvL acc) ids gone) (harg : AppArg s y 3 (mvL new) ids2) (h : (acc ++ new).length ≤ 100000000) (hnew : gone = [] → 0 < new.length) :
  NOp Tryz.prog (ids ++ ids2) s ⟨dst, .call { callee := .builtin .append, args := #[x, y], argTypes := #[33, 33] }, ty, pos, af, gd⟩ f ⟨.own f (acc ++ new).length, (f, some (.arr 52 3 (mvL (acc ++ new)))) :: gone⟩ := by
 have := h_append (P := Tryz.prog) (s := s) (dst := dst) (ty := ty) (pos := pos) (af := af) (gd := gd) (x := x) (y := y) (f := f) (t := 33) (tx := 33) (k := (acc ++ new).length) rfl rfl rfl rfl rfl rfl hto harg (by simp) (by omega) (by show (acc ++ new).length * 24 ≤ _; omega) (fun h => by rw [mvL_len]; exact hnew h)
 rwa [← List.map_append] at this
abbrev tsX (l : List (List UInt8)) : List (List DV) := l.map (fun s => [dS (bstr s)])
theorem tsX_len (l : List (List UInt8)) : (tsX l).length = l.length := List.length_map _
theorem tsX_get {l : List (List UInt8)} {k : Nat} (h : k < l.length) : (tsX l)[k]? = some [dS (bstr l[k])] := by rw [List.getElem?_map, List.getElem?_eq_getElem h]; rfl
theorem h_appendX (acc new : List (List UInt8)) {s : ASt} {dst : Option Nat} {ty : Nat} {pos : String} {af : Array Edge} {gd : Option (Nat × Bool)} {x y : Operand} {f : Nat} {ids ids2 : List Nat} {gone : List (Nat × Option Chunk)}
  (hto : AppTo s x 9 1 (tsX acc) ids gone) (harg : AppArg s y 1 (tsX new) ids2) (h : (acc ++ new).length ≤ 100000000) (hnew : gone = [] → 0 < new.length) :
  NOp Tryz.prog (ids ++ ids2) s ⟨dst, .call { callee := .builtin .append, args := #[x, y], argTypes := #[32, 32] }, ty, pos, af, gd⟩ f ⟨.own f (acc ++ new).length, (f, some (.arr 9 1 (tsX (acc ++ new)))) :: gone⟩ := by
 have := h_append (P := Tryz.prog) (s := s) (dst := dst) (ty := ty) (pos := pos) (af := af) (gd := gd) (x := x) (y := y) (f := f) (t := 32) (tx := 32) (k := (acc ++ new).length) rfl rfl rfl rfl rfl rfl hto harg (by simp) (by omega) (by show (acc ++ new).length * 16 ≤ _; omega) (fun h => by rw [tsX_len]; exact hnew h)
 rwa [← List.map_append] at this
structure Ex where
 marks : List (List UInt8)
 moves : List Mv
def posL (m : List UInt8) : List (List UInt8) → Option Nat
 | [] => none
 | a :: l => if m = a then some 0 else (posL m l).map (· + 1)
theorem posL_lt {m : List UInt8} : ∀ {l : List (List UInt8)} {i : Nat}, posL m l = some i → i < l.length
 | [], i, h => by cases h
 | a :: l, i, h => by
  rw [posL] at h
  split at h
  ·cases h; simp
  ·cases hp : posL m l with
   | none => rw [hp] at h; cases h
   | some j =>
    rw [hp] at h
    cases h
    have := posL_lt hp
    simpa using this
def mapX (l : List (List UInt8)) : List (ByteArray × Value) := l.zipIdx.map fun p => (bstr p.1, .int .i64 (p.2 : Int))
theorem mapX_pos (m : List UInt8) (l : List (List UInt8)) : posM (bstr m) (mapX l) = (posL m l).map fun (i : Nat) => (i, Value.int .i64 (i : Int)) := by
 have key : ∀ (l : List (List UInt8)) (n : Nat), posM (bstr m) ((l.zipIdx n).map fun p => (bstr p.1, Value.int .i64 (p.2 : Int))) = (posL m l).map fun (i : Nat) => (i, Value.int .i64 ((n + i : Nat) : Int)) := by
  intro l
  induction l with
  | nil => intro n; rfl
  | cons a l ih =>
   intro n
   rw [List.zipIdx_cons, List.map_cons, posM, posL]
   by_cases h : m = a
   ·rw [if_pos (by rw [h]), if_pos h]; rfl
   ·rw [if_neg (fun e => h (bstr_inj e)), if_neg h, ih (n + 1)]
    cases posL m l with
    | none => rfl
    | some i => simp only [Option.map_some]; congr 3; omega
 have := key l 0
 unfold mapX
 simpa only [Nat.zero_add] using this
theorem mapX_push {m : List UInt8} {l : List (List UInt8)} (h : posL m l = none) : setM (bstr m) (.int .i64 (l.length : Int)) (mapX l) = mapX (l ++ [m]) := by
 rw [setM_none (by rw [mapX_pos, h]; rfl)]
 unfold mapX
 rw [List.zipIdx_append, List.map_append]
 simp
theorem lookX (m : List UInt8) (l : List (List UInt8)) (hl : l.length ≤ 1000000) : ∃ (v : Int) (b : Bool), (match posM (bstr m) (mapX l) with | some p => (p.2, true) | none => (Value.int .i64 0, false)) = (Value.int .i64 v, b) ∧ ((b = true ∧ ∃ i : Nat, posL m l = some i ∧ v = i) ∨ (b = false ∧ posL m l = none)) ∧ okV (.int .i64 v) := by
 rw [mapX_pos]
 cases hq : posL m l with
 | none => exact ⟨0, false, rfl, .inr ⟨rfl, rfl⟩, rfl⟩
 | some i =>
  have := posL_lt hq
  exact ⟨i, true, rfl, .inl ⟨rfl, i, rfl, rfl⟩, wrap_i64 (by omega)⟩
def mkAt (x : Ex) (k : Nat) : List UInt8 := x.marks.getD k []
theorem mkAt_nat {x : Ex} {k : Nat} (h : k < x.marks.length) : mkAt x k = x.marks[k] := by unfold mkAt; rw [List.getD_eq_getElem?_getD, List.getElem?_eq_getElem h]; rfl
def exIn (N : Net) (k : Nat) (m : List UInt8) : List Int → Ex → Ex × Option (Int × Int)
 | [], x => (x, none)
 | t :: ts, x =>
  if (fireI N m t).2 = true then
   match posL (fireI N m t).1 x.marks with
   | some i => exIn N k m ts ⟨x.marks, x.moves ++ [⟨k, t, i⟩]⟩
   | none => if x.marks.length = 300 then (x, some (-1, -1)) else exIn N k m ts ⟨x.marks ++ [(fireI N m t).1], x.moves ++ [⟨k, t, x.marks.length⟩]⟩
  else (x, some ((k : Int), t))
def exOut (N : Net) : Nat → Nat → Ex → Ex × Option (Int × Int)
 | 0, _, x => (x, none)
 | n + 1, k, x => if k < x.marks.length then
   (match exIn N k (mkAt x k) (readyL N (mkAt x k) N.ts.length) x with
   | (y, none) => exOut N n (k + 1) y
   | r => r) else (x, none)
theorem exOut_end {N : Net} {n k : Nat} {x : Ex} {F : Ex × Option (Int × Int)} (hn : 0 < n) (hk : ¬ k < x.marks.length) (h : exOut N n k x = F) : (x, none) = F := by
 obtain ⟨q, rfl⟩ : ∃ q, n = q + 1 := ⟨n - 1, by omega⟩
 rw [exOut, if_neg hk] at h
 exact h
def explR (N : Net) (start : List UInt8) : Ex × Option (Int × Int) := exOut N 301 0 ⟨[start], []⟩
def exK (r : Ex × Option (Int × Int)) : Int := match r.2 with | some p => p.1 | none => -1
def exT (r : Ex × Option (Int × Int)) : Int := match r.2 with | some p => p.2 | none => -1
def exB (r : Ex × Option (Int × Int)) : Bool := match r.2 with | some _ => false | none => true
abbrev rgA (x : Ex) : AV := .agg [.d (.view 9 1 (tsX x.marks)), .d (vMvs x.moves)]
abbrev rgD (x : Ex) : List DV := [.view 9 1 (tsX x.marks), vMvs x.moves]
abbrev rgC (x : Ex) : List AV := [.d (.view 9 1 (tsX x.marks)), .d (vMvs x.moves)]
abbrev zRG : List AV := [.d (.val (.slice none 0 0)), .d (.val (.slice none 0 0))]
structure ExI (N : Net) (x : Ex) (q : Nat) : Prop where
 n : x.marks.length ≤ 300
 b : ∀ m, m ∈ x.marks → bitsB m N.places = true
 l : x.moves.length ≤ q
theorem ExI.len {N : Net} {x : Ex} {q : Nat} (h : ExI N x q) (hp : N.places ≤ 30) : ∀ m, m ∈ x.marks → m.length ≤ 30 := fun m hm => by have := bits_len (h.b m hm); omega
set_option maxHeartbeats 16000000 in
theorem iExplored_spec (s : Stg) (hB : StgB s) (hg : goodS s = true) : ASpec Tryz.prog 97 [stgA s] [] (Pure1 (.tup [rgA (explR s.net s.start).1, aI (exK (explR s.net s.start)), aI (exT (explR s.net s.start)), aT (exB (explR s.net s.start))])) := by
 obtain ⟨hg1, hg2⟩ : goodN s.net = true ∧ bitsB s.start s.net.places = true := by
  simp only [goodS, Bool.and_eq_true] at hg
  exact hg.1
 have hpl := good_places hg1
 have hun : explR s.net s.start = exOut s.net 301 0 ⟨[s.start], []⟩ := rfl
 obtain ⟨F, hF⟩ : ∃ F, F = explR s.net s.start := ⟨_, rfl⟩
 rw [← hF] at hun ⊢
 have hI0 : ExI s.net ⟨[s.start], []⟩ 0 := ⟨by show 1 ≤ 300; omega, fun m hm => by rw [List.mem_singleton.1 hm]; exact hg2, Nat.le_refl _⟩
 have hst := bits_len hg2
 clear hF
 refine ASpec.of Tryz.func97 rfl rfl fun C hC => ?_
 refine AC.seq (AC.region ?_)
 refine AL.q (by exact h_boxF rfl rfl) rfl ?_
 refine AL.q (by exact h_alloc rfl) rfl ?_
 refine za ?_
 refine za ?_
 refine za ?_
 refine AL.nil (th_n (AC.seq ?_))
 refine AC.drawn' mixed_ok [[], [0], [0,1], [0,1,2], [], [], [5], [4,5,6], [4,5,6,7], [], [0,1,2,3,9], [0,1,2,3,4,5,6,7,8,9,10]] (by decide) ?_
 refine DF.op 0 [] 12 rfl rfl rfl (.free rfl (NOp.of (by exact g_fa_ref rfl rfl rfl rfl rfl rfl))) rfl ?_
 refine DF.op 1 [0] 12 rfl rfl rfl (.free rfl (NOp.of (by exact g_load_ref rfl rfl rfl))) rfl ?_
 refine DF.op 2 [0,1] 12 rfl rfl rfl (.free rfl (by exact h_lit rfl rfl rfl rfl rfl rfl rfl rfl)) rfl ?_
 refine DF.op 3 [0,1,2] 12 rfl rfl rfl (.free rfl (NOp.of (by exact g_build rfl rfl rfl))) rfl ?_
 refine DF.op 4 [] 12 rfl rfl rfl (.free rfl (by exact h_makeMap)) rfl ?_
 refine DF.op 5 [] 12 rfl rfl rfl (.free rfl (NOp.of (by exact g_fa_ref rfl rfl rfl rfl rfl rfl))) rfl ?_
 refine DF.op 6 [5] 12 rfl rfl rfl (.free rfl (NOp.of (by exact g_load_ref rfl rfl rfl))) rfl ?_
 refine DF.op 7 [4,5,6] 12 rfl rfl rfl (.free rfl (by exact h_insert Tryz.underlying182 Tryz.underlying9 rfl rfl rfl rfl)) rfl ?_
 refine DF.op 8 [4,5,6,7] 12 rfl rfl rfl (.free rfl (NOp.of (by exact mv11 rfl))) rfl ?_
 refine DF.op 9 [] 12 rfl rfl rfl (.free rfl (by exact h_alloc rfl)) rfl ?_
 refine DF.op 10 [0,1,2,3,9] 12 rfl rfl rfl (.free rfl (by exact h_store rfl rfl rfl rfl rfl rfl)) rfl ?_
 refine DF.op 11 (List.range 11) 12 rfl rfl rfl (.free rfl (NOp.of (by exact as11 rfl))) rfl ?_
 refine DF.fin (ps := [(0,4),(0,5),(0,6),(0,7),(0,8),(0,9),(1,4),(1,5),(1,6),(1,7),(1,8),(1,9),(2,4),(2,5),(2,6),(2,7),(2,8),(2,9),(3,4),(3,5),(3,6),(3,7),(3,8),(3,9),(4,0),(4,1),(4,2),(4,3),(4,5),(4,6),(4,9),(4,10),(5,0),(5,1),(5,2),(5,3),(5,4),(5,9),(5,10),(6,0),(6,1),(6,2),(6,3),(6,4),(6,9),(6,10),(7,0),(7,1),(7,2),(7,3),(7,9),(7,10),(8,0),(8,1),(8,2),(8,3),(8,9),(8,10),(9,0),(9,1),(9,2),(9,3),(9,4),(9,5),(9,6),(9,7),(9,8),(10,4),(10,5),(10,6),(10,7),(10,8)]) 12 rfl (by decide +kernel) (by decide +kernel) (by rfl) ?_
 refine th_n (AC.seq (AC.seq (AC.region ?_)))
 refine za ?_
 refine AL.nil (th_n (AC.block ?_))
 refine AC.loop (ι := Nat × Ex) (fun x => ⟨96, 300, [(1, .d (.ref (stgD s))), (2, .ptr 201 0), (6, .ptr 200 0), (7, .mp 203), (8, aI x.1)], [(200, some (.cells 35 [.own 101 x.2.marks.length, .own 102 x.2.moves.length])), (101, some (.arr 9 1 (tsX x.2.marks))), (102, some (.arr 52 3 (mvL x.2.moves))), (203, some (.map (mapX x.2.marks))), (201, some (.cells 35 zRG))]⟩) (fun x => x.1 ≤ x.2.marks.length ∧ ExI s.net x.2 (24 * x.1) ∧ exOut s.net (301 - x.1) x.1 x.2 = F) (fun x => 301 - x.1) ((0, ⟨[s.start], []⟩)) ?_ (⟨Nat.zero_le _, hI0, hun.symm⟩) ?_
 ·exact (Weak.nilOwnP 6 1 (e := 52) (sz := 3) rfl rfl rfl rfl rfl).trans (zw [(200, _), (101, _), (102, _), (203, _), (201, _)] hC)
 ·rintro ⟨k, x⟩ ⟨hk, hI, hrun⟩
  dsimp only at hk hI hrun ⊢
  have hxn := hI.n
  refine AC.seq (AC.seq (AC.region ?_))
  refine zm ?_
  refine zF ?_
  refine zl ?_
  refine AL.p (by exact g_len_own (sz := 1) (els := []) (e' := 0) rfl rfl (by simp only [maxLen]; omega)) rfl ?_
  refine zc ?_
  refine AL.nil (th_n ?_)
  refine AC.condD rfl (fun h0 => ?_) (fun h0 => ?_)
  ·refine AC.skip (th_n (AC.seq (AC.block (AC.seq ?_))))
   have hk1 : k < x.marks.length := by omega
   have hmk := mkAt_nat hk1
   have hbm := hI.b _ (List.getElem_mem hk1)
   rw [← hmk] at hbm
   have hrow : (tsX x.marks)[k]? = some [dS (bstr (mkAt x k))] := by rw [hmk]; exact tsX_get hk1
   obtain ⟨n, hn⟩ : ∃ n, 301 - k = n + 1 := ⟨300 - k, by omega⟩
   rw [hn, exOut, if_pos hk1] at hrun
   obtain ⟨m, hm⟩ : ∃ m, m = mkAt x k := ⟨_, rfl⟩
   rw [← hm] at hbm hrow hrun
   have hEn := enabled_spec s.net m hB.n (good_netM hg1 hbm) hbm
   have hLl := readyL_len s.net m s.net.ts.length
   obtain ⟨L, hL⟩ : ∃ L, L = readyL s.net m s.net.ts.length := ⟨_, rfl⟩
   rw [← hL] at hEn hLl hrun
   have hml := bits_len hbm
   have hmarks : x.marks[k]? = some m := by rw [List.getElem?_eq_getElem hk1, hm, hmk]
   obtain ⟨Z, hZ⟩ : ∃ Z, Z = exIn s.net k m L x := ⟨_, rfl⟩
   rw [← hZ] at hrun
   clear hL
   refine AC.drawn' mixed_ok [[], [0], [], [2], [], [2,3,4], [2,3,4,5], [0,1,2,3,4,5,6], [0,1,2,3,4,5,6,7], []] (by decide) ?_
   refine DF.op 0 [] 10 rfl rfl rfl (.free rfl (NOp.of (by exact g_fa_ref rfl rfl rfl rfl rfl rfl))) rfl ?_
   refine DF.op 1 [0] 10 rfl rfl rfl (.free rfl (NOp.of (by exact g_load_refN rfl rfl rfl rfl))) rfl ?_
   refine DF.op 2 [] 10 rfl rfl rfl (.free rfl (NOp.of (by exact g_fa_ptr rfl rfl rfl rfl rfl))) rfl ?_
   refine DF.op 3 [2] 10 rfl rfl rfl (.free rfl (NOp.of (by exact g_load_ptr rfl rfl rfl rfl rfl))) rfl ?_
   refine DF.op 4 [] 10 rfl rfl rfl (.free rfl (NOp.of (by exact mv1 rfl))) rfl ?_
   refine DF.op 5 [2,3,4] 10 rfl rfl rfl (.free rfl (NOp.of (by exact g_ia_own (i := k) (l := x.marks.length) rfl rfl rfl rfl rfl rfl hk1 rfl))) rfl ?_
   refine DF.op 6 [2,3,4,5] 10 rfl rfl rfl (.free rfl (NOp.of (by exact g_load_arr1 rfl rfl rfl rfl (by rw [Nat.mul_one]; exact hrow)))) rfl ?_
   refine DF.op 7 [0,1,2,3,4,5,6] 10 rfl rfl rfl (.free rfl (by exact h_pure en_enabled rfl rfl (by repeat (first | exact rfl | exact DLead.same | refine ⟨_, _, rfl, ?_, ?_⟩ | refine ⟨_, rfl, ?_⟩)) hEn rfl)) rfl ?_
   refine DF.op 8 [0,1,2,3,4,5,6,7] 10 rfl rfl rfl (.free rfl (NOp.of (by exact g_len_view (k := L.length) rfl rfl (ints_len _)))) rfl ?_
   refine DF.op 9 [] 10 rfl rfl rfl (.free rfl (NOp.of (by exact mv1 rfl))) rfl ?_
   refine DF.fin (ps := [(0,2),(0,3),(0,4),(0,5),(0,6),(0,9),(1,2),(1,3),(1,4),(1,5),(1,6),(1,9),(2,0),(2,1),(2,4),(2,9),(3,0),(3,1),(3,4),(3,9),(4,0),(4,1),(4,2),(4,3),(4,9),(5,0),(5,1),(5,9),(6,0),(6,1),(6,9),(7,9),(8,9),(9,0),(9,1),(9,2),(9,3),(9,4),(9,5),(9,6),(9,7),(9,8)]) 10 rfl (by decide +kernel) (by decide +kernel) (by rfl) ?_
   refine th_n (AC.block ?_)
   refine AC.loop (ι := Nat × Ex) (fun y => ⟨96, 900, [(1, .d (.ref (stgD s))), (2, .ptr 201 0), (6, .ptr 200 0), (7, .mp 203), (8, aI k), (37, .d (vI L)), (38, aI L.length), (39, aI y.1)], [(200, some (.cells 35 [.own 101 y.2.marks.length, .own 102 y.2.moves.length])), (101, some (.arr 9 1 (tsX y.2.marks))), (102, some (.arr 52 3 (mvL y.2.moves))), (203, some (.map (mapX y.2.marks))), (201, some (.cells 35 zRG))]⟩) (fun y => y.1 ≤ L.length ∧ k < y.2.marks.length ∧ y.2.marks[k]? = some m ∧ ExI s.net y.2 (24 * k + y.1) ∧ exIn s.net k m (L.drop y.1) y.2 = Z) (fun y => L.length - y.1) ((0, x)) ?_ (⟨Nat.zero_le _, hk1, hmarks, hI, hZ.symm⟩) ?_
   ·exact zw [(200, 200), (101, 101), (102, 102), (203, 203), (201, 201)] hC
   ·rintro ⟨j, y⟩ ⟨hj, hky, hym, hJ, hin⟩
    dsimp only at hj hky hym hJ hin ⊢
    have hyn := hJ.n
    have hyl := hJ.l
    refine AC.seq (AC.region ?_)
    refine zc ?_
    refine AL.nil (th_n (AC.seq ?_))
    refine AC.condD rfl (fun h1 => ?_) (fun h1 => ?_)
    ·refine AC.skip (th_n (AC.seq (AC.block (AC.seq ?_))))
     have hj1 : j < L.length := by omega
     have hget := ints_at hj1
     rw [List.drop_eq_getElem_cons hj1, exIn] at hin
     obtain ⟨t, ht⟩ : ∃ t, t = L[j] := ⟨_, rfl⟩
     rw [← ht] at hget hin
     clear ht
     have hrowy : (tsX y.marks)[k]? = some [dS (bstr m)] := by rw [List.getElem?_map, hym]; rfl
     have hFi := ifire_spec s.net m t hB.n (good_netM hg1 hbm) (by omega)
     have hfb := fireI_bits (N := s.net) (t := t) hbm
     obtain ⟨f, hf⟩ : ∃ f, f = fireI s.net m t := ⟨_, rfl⟩
     rw [← hf] at hFi hfb hin
     clear hf
     refine AC.region ?_
     refine AL.p (by exact g_ia_view rfl rfl rfl rfl rfl (by rfl) (by assumption)) rfl ?_
     refine zr ?_
     refine za ?_
     refine AL.nil (th_n (AC.seq ?_))
     refine AC.drawn' mixed_ok [[], [0], [], [2], [], [2,3,4], [2,3,4,5], [], [0,1,2,3,4,5,6,7], [0,1,2,3,4,5,6,7,8], [0,1,2,3,4,5,6,7,8,9], [0,1,2,3,4,5,6,7,8,9], [0,1,2,3,4,5,6,7,8,9,10], [0,1,2,3,4,5,6,7,8,9,10,11,12]] (by decide) ?_
     refine DF.op 0 [] 14 rfl rfl rfl (.free rfl (NOp.of (by exact g_fa_ref rfl rfl rfl rfl rfl rfl))) rfl ?_
     refine DF.op 1 [0] 14 rfl rfl rfl (.free rfl (NOp.of (by exact g_load_refN rfl rfl rfl rfl))) rfl ?_
     refine DF.op 2 [] 14 rfl rfl rfl (.free rfl (NOp.of (by exact g_fa_ptr rfl rfl rfl rfl rfl))) rfl ?_
     refine DF.op 3 [2] 14 rfl rfl rfl (.free rfl (NOp.of (by exact g_load_ptr rfl rfl rfl rfl rfl))) rfl ?_
     refine DF.op 4 [] 14 rfl rfl rfl (.free rfl (NOp.of (by exact mv1 rfl))) rfl ?_
     refine DF.op 5 [2,3,4] 14 rfl rfl rfl (.free rfl (NOp.of (by exact g_ia_own (i := k) (l := y.marks.length) rfl rfl rfl rfl rfl rfl hky rfl))) rfl ?_
     refine DF.op 6 [2,3,4,5] 14 rfl rfl rfl (.free rfl (NOp.of (by exact g_load_arr1 rfl rfl rfl rfl (by rw [Nat.mul_one]; exact hrowy)))) rfl ?_
     refine DF.op 7 [] 14 rfl rfl rfl (.free rfl (NOp.of (by exact mv1 rfl))) rfl ?_
     refine DF.op 8 [0,1,2,3,4,5,6,7] 14 rfl rfl rfl (.free rfl (by exact h_pure en_ifire rfl rfl (by repeat (first | exact rfl | exact DLead.same | refine ⟨_, _, rfl, ?_, ?_⟩ | refine ⟨_, rfl, ?_⟩)) hFi rfl)) rfl ?_
     refine DF.op 9 (List.range 9) 14 rfl rfl rfl (.free rfl (NOp.of (by exact mv5 rfl))) rfl ?_
     refine DF.op 10 (List.range 10) 14 rfl rfl rfl (.free rfl (NOp.of (by exact g_extract (r := .d _) rfl rfl))) rfl ?_
     refine DF.op 11 (List.range 10) 14 rfl rfl rfl (.free rfl (NOp.of (by exact g_extract (r := .d _) rfl rfl))) rfl ?_
     refine DF.op 12 (List.range 11) 14 rfl rfl rfl (.free rfl (NOp.of (by exact as1 rfl))) rfl ?_
     refine DF.op 13 (List.range 13) 14 rfl rfl rfl (.free rfl (NOp.of (by exact as1 rfl))) rfl ?_
     refine DF.fin (ps := [(0,2),(0,3),(0,4),(0,5),(0,6),(0,7),(1,2),(1,3),(1,4),(1,5),(1,6),(1,7),(2,0),(2,1),(2,4),(2,7),(3,0),(3,1),(3,4),(3,7),(4,0),(4,1),(4,2),(4,3),(4,7),(5,0),(5,1),(5,7),(6,0),(6,1),(6,7),(7,0),(7,1),(7,2),(7,3),(7,4),(7,5),(7,6),(10,11),(11,10),(11,12),(12,11)]) 14 rfl (by decide +kernel) (by decide +kernel) (by rfl) ?_
     refine th_n (AC.seq (AC.seq (AC.region ?_)))
     refine zm ?_
     refine AL.p (by exact g_not rfl) rfl ?_
     refine AL.nil (th_n ?_)
     refine AC.condB rfl (fun h2 => ?_) (fun h2 => ?_)
     ·refine AC.seq ?_
      have qf : ¬ f.2 = true := by simpa using ‹(!f.2) = true›
      rw [if_neg qf] at hin
      have e : F = (y, some ((k : Int), t)) := by rw [← hrun, ← hin]
      refine AC.weak (Weak.freezeP (els' := tsX y.marks) 6 0 rfl rfl rfl rfl (by rw [tsX_len]; exact Nat.le_refl _) (List.take_of_length_le (by rw [tsX_len]; exact Nat.le_refl _)) rfl) ?_
      refine AC.weak (Weak.freezeP (els' := mvL y.moves) 6 1 rfl rfl rfl rfl (by rw [mvL_len]; exact Nat.le_refl _) (List.take_of_length_le (by rw [mvL_len]; exact Nat.le_refl _)) rfl) ?_
      refine AC.region ?_
      refine AL.p (by exact g_load_ptrN rfl rfl rfl rfl rfl) rfl ?_
      refine zm ?_
      refine zm ?_
      refine zs ?_
      refine za ?_
      refine za ?_
      refine za ?_
      refine AL.nil (th_n (AC.ret (th_r (ib_r (th_r (th_r (ib_r (ib_r (th_r (th_r (ib_r (th_r (bq_r ?_)))))))))))))
      exact ret0 rfl (by rw [e]; show AV.leads _ (.tup [rgA y, aI (k : Int), aI t, aT false]) _; repeat (first | exact DLead.same | exact rfl | refine ⟨_, rfl, ?_⟩ | refine ⟨_, _, rfl, ?_, ?_⟩))
     ·refine AC.skip (th_n (AC.seq ?_))
      have qf : f.2 = true := by simpa using ‹(!f.2) = false›
      rw [if_pos qf] at hin
      have hfbb := hfb qf
      have hpm := mapX_pos f.1 y.marks
      obtain ⟨v, b, hvb, hvok, hvr⟩ := lookX f.1 y.marks (by omega)
      refine AC.region ?_
      refine AL.p (by exact mv11 rfl) rfl ?_
      refine zm ?_
      refine AL.p (by exact g_lookup (z := .int .i64 0) Tryz.underlying182 Tryz.underlying9 (by kernel_rfl) rfl rfl rfl hvb hvr) rfl ?_
      refine AL.p (by exact mv5 rfl) rfl ?_
      refine AL.p (by exact g_extract (r := .d _) rfl rfl) rfl ?_
      refine AL.p (by exact g_extract (r := .d _) rfl rfl) rfl ?_
      refine za ?_
      refine za ?_
      refine AL.nil (th_n ?_)
      refine AC.cut (fun (z : List (List UInt8) × Int) => ⟨96, 1500, [(1, .d (.ref (stgD s))), (2, .ptr 201 0), (6, .ptr 200 0), (7, .mp 203), (8, aI k), (10, aI t), (13, aI z.2), (37, .d (vI L)), (38, aI L.length), (39, aI j)], [(200, some (.cells 35 [.own 101 z.1.length, .own 102 y.moves.length])), (101, some (.arr 9 1 (tsX z.1))), (102, some (.arr 52 3 (mvL y.moves))), (203, some (.map (mapX z.1))), (201, some (.cells 35 zRG))]⟩) (fun z => exIn s.net k m (L.drop (j + 1)) ⟨z.1, y.moves ++ [⟨k, t, z.2⟩]⟩ = Z ∧ k < z.1.length ∧ z.1[k]? = some m ∧ z.1.length ≤ 300 ∧ ∀ a, a ∈ z.1 → bitsB a s.net.places = true) ?_ ?_
      ·refine AC.seq (AC.region ?_)
       refine zm ?_
       refine AL.p (by exact g_not rfl) rfl ?_
       refine AL.nil (th_n ?_)
       refine AC.condB rfl (fun h3 => ?_) (fun h3 => ?_)
       ·refine AC.seq (AC.seq (AC.region ?_))
        refine zF ?_
        refine zl ?_
        refine AL.p (by exact g_len_own (sz := 1) (els := []) (e' := 0) rfl rfl (by simp only [maxLen]; omega)) rfl ?_
        refine zc ?_
        refine AL.nil (th_n ?_)
        refine AC.condD rfl (fun h4 => ?_) (fun h4 => ?_)
        ·refine AC.seq ?_
         have hpn : posL f.1 y.marks = none := by rcases hvok with ⟨hb, _⟩ | ⟨_, h⟩; (rw [hb] at h3; exact absurd h3 (by decide)); exact h
         have hlen : y.marks.length = 300 := by omega
         rw [hpn] at hin
         dsimp only at hin
         rw [if_pos hlen] at hin
         have e : F = (y, some ((-1 : Int), (-1 : Int))) := by rw [← hrun, ← hin]
         refine AC.weak (Weak.freezeP (els' := tsX y.marks) 6 0 rfl rfl rfl rfl (by rw [tsX_len]; exact Nat.le_refl _) (List.take_of_length_le (by rw [tsX_len]; exact Nat.le_refl _)) rfl) ?_
         refine AC.weak (Weak.freezeP (els' := mvL y.moves) 6 1 rfl rfl rfl rfl (by rw [mvL_len]; exact Nat.le_refl _) (List.take_of_length_le (by rw [mvL_len]; exact Nat.le_refl _)) rfl) ?_
         refine AC.region ?_
         refine AL.p (by exact g_load_ptrN rfl rfl rfl rfl rfl) rfl ?_
         refine zs ?_
         refine za ?_
         refine za ?_
         refine za ?_
         refine AL.nil (th_n (AC.ret (th_r (th_r (ib_r (th_r (th_r (ib_r (ib_r (th_r (th_r (ib_r (th_r (bq_r ?_))))))))))))))
         exact ret0 rfl (by rw [e]; show AV.leads _ (.tup [rgA y, aI (-1 : Int), aI (-1 : Int), aT false]) _; repeat (first | exact DLead.same | exact rfl | refine ⟨_, rfl, ?_⟩ | refine ⟨_, _, rfl, ?_, ?_⟩))
        ·refine AC.skip (th_n (AC.seq ?_))
         have hpn : posL f.1 y.marks = none := by rcases hvok with ⟨hb, _⟩ | ⟨_, h⟩; (rw [hb] at h3; exact absurd h3 (by decide)); exact h
         have hlen : ¬ y.marks.length = 300 := by omega
         rw [hpn] at hin
         dsimp only at hin
         rw [if_neg hlen] at hin
         have hpush := mapX_push hpn
         refine AC.region ?_
         refine zF ?_
         refine zl ?_
         refine AL.p (by exact g_len_own (sz := 1) (els := []) (e' := 0) rfl rfl (by simp only [maxLen]; omega)) rfl ?_
         refine za ?_
         refine AL.nil (th_n (AC.seq (AC.region ?_)))
         refine AL.p (by exact mv11 rfl) rfl ?_
         refine zm ?_
         refine zm ?_
         refine AL.q (by exact h_mapUpdate Tryz.underlying182 Tryz.underlying9 rfl rfl rfl rfl) rfl ?_
         refine AL.nil (th_n (AC.region ?_))
         refine zF ?_
         refine zl ?_
         refine zm ?_
         refine AL.q (by exact h_litF rfl rfl rfl rfl rfl rfl rfl rfl) rfl ?_
         refine AL.q (by exact h_appendX y.marks [f.1] (.own rfl rfl (tsX_len _).symm) (.view rfl) (by rw [List.length_append]; simp only [List.length_cons, List.length_nil]; omega) (by simp)) rfl ?_
         refine zF ?_
         refine zs ?_
         refine AL.nil (th_n ?_)
         (have hpn : posL f.1 y.marks = none := (by rcases hvok with ⟨hb, _⟩ | ⟨_, h⟩; (rw [hb] at h3; exact absurd h3 (by decide)); exact h); exact ⟨(y.marks ++ [f.1], (y.marks.length : Int)), ⟨hin, by rw [List.length_append]; omega, by rw [List.getElem?_append_left hky]; exact hym, by rw [List.length_append]; simp only [List.length_cons, List.length_nil]; omega, fun a ha => (List.mem_append.1 ha).elim (hJ.b a) (fun h => by rw [List.mem_singleton.1 h]; exact hfbb)⟩, zw [(200, 200), (101, _), (102, 102), (203, 203), (201, 201)] hC (b := by rw [← hpush]; repeat (first | exact True.intro | refine And.intro ?_ ?_ | exact DLead.same | exact rfl | refine ⟨_, _, rfl, rfl, ?_⟩ | refine ⟨_, rfl, ?_⟩ | refine ⟨_, _, rfl, ?_, ?_⟩))⟩)
       ·refine AC.skip (th_n ?_)
        (obtain ⟨i, hi, hiv⟩ : ∃ i : Nat, posL f.1 y.marks = some i ∧ v = i := (by rcases hvok with ⟨_, h⟩ | ⟨hb, _⟩; exact h; (rw [hb] at h3; exact absurd h3 (by decide))); (rw [hi] at hin); exact ⟨(y.marks, v), ⟨by rw [hiv]; exact hin, hky, hym, hyn, hJ.b⟩, zw [(200, 200), (101, 101), (102, 102), (203, 203), (201, 201)] hC⟩)
      ·rintro ⟨M, v2⟩ ⟨hz1, hz2, hz3, hz4, hz5⟩
       dsimp only at hz1 hz2 hz3 hz4 hz5 ⊢
       refine AC.region ?_
       refine zF ?_
       refine zl ?_
       refine zm ?_
       refine zm ?_
       refine zm ?_
       refine AL.p (by exact g_build rfl rfl rfl) rfl ?_
       refine AL.q (by exact h_litF rfl rfl rfl rfl rfl rfl rfl rfl) rfl ?_
       refine AL.q (by exact h_appendMv y.moves [⟨k, t, v2⟩] (.own rfl rfl (mvL_len _).symm) (.view rfl) (by rw [List.length_append]; simp only [List.length_cons, List.length_nil]; omega) (by simp)) rfl ?_
       refine zF ?_
       refine zs ?_
       refine AL.nil (ib_n (th_n (AC.region ?_)))
       refine zA ?_
       refine zm ?_
       refine AL.nil (th_n ?_)
       exact ⟨(j + 1, ⟨M, y.moves ++ [⟨k, t, v2⟩]⟩), ⟨by omega, hz2, hz3, ⟨hz4, hz5, by rw [List.length_append]; simp only [List.length_cons, List.length_nil]; omega⟩, hz1⟩, by dsimp only; omega, zw [(200, 200), (101, 101), (102, _), (203, 203), (201, 201)] hC⟩
    ·refine AC.exit (th_e (th_e (ib_y (ib_n (th_n (AC.region ?_))))))
     refine zm ?_
     refine zA ?_
     refine za ?_
     refine AL.nil (th_n ?_)
     have hjj : j = L.length := by omega
     rw [hjj, List.drop_length, exIn] at hin
     rw [← hin] at hrun
     dsimp only at hrun
     exact ⟨(k + 1, y), ⟨by dsimp only; omega, ⟨hyn, hJ.b, by dsimp only; omega⟩, by rw [show 301 - (k + 1) = n by omega]; exact hrun⟩, by dsimp only; omega, zw [(200, 200), (101, 101), (102, 102), (203, 203), (201, 201)] hC⟩
  ·refine AC.exit (th_e (th_e (ib_y (th_n (AC.seq ?_)))))
   have e : F = (x, none) := (exOut_end (by omega) (by omega) hrun).symm
   refine AC.weak (Weak.freezeP (els' := tsX x.marks) 6 0 rfl rfl rfl rfl (by rw [tsX_len]; exact Nat.le_refl _) (List.take_of_length_le (by rw [tsX_len]; exact Nat.le_refl _)) rfl) ?_
   refine AC.weak (Weak.freezeP (els' := mvL x.moves) 6 1 rfl rfl rfl rfl (by rw [mvL_len]; exact Nat.le_refl _) (List.take_of_length_le (by rw [mvL_len]; exact Nat.le_refl _)) rfl) ?_
   refine AC.region ?_
   refine AL.p (by exact g_load_ptrN rfl rfl rfl rfl rfl) rfl ?_
   refine zs ?_
   refine za ?_
   refine za ?_
   refine za ?_
   refine AL.nil (th_n (AC.ret (bq_r ?_)))
   exact ret0 rfl (by rw [e]; show AV.leads _ (.tup [rgA x, aI (-1 : Int), aI (-1 : Int), aT true]) _; repeat (first | exact DLead.same | exact rfl | refine ⟨_, rfl, ?_⟩ | refine ⟨_, _, rfl, ?_, ?_⟩))
theorem en_iExplored : Enters Tryz.prog 97 := enters_of Tryz.func97 rfl rfl
theorem exIn_I {N : Net} {k : Nat} {m : List UInt8} (hm : bitsB m N.places = true) : ∀ (L : List Int) {x : Ex} {q : Nat}, ExI N x q → ExI N (exIn N k m L x).1 (q + L.length)
 | [], x, q, h => h
 | t :: ts, x, q, h => by
  rw [exIn]
  split
  ·rename_i hf
   have hb := fireI_bits (N := N) hm hf
   split
   ·rename_i i he
    have := exIn_I (k := k) hm ts (x := ⟨x.marks, x.moves ++ [⟨k, t, (i : Int)⟩]⟩) (q := q + 1) ⟨h.n, h.b, by show (x.moves ++ _).length ≤ _; rw [List.length_append]; have := h.l; simp only [List.length_cons, List.length_nil]; omega⟩
    rw [List.length_cons, show q + (ts.length + 1) = q + 1 + ts.length by omega]
    exact this
   ·split
    ·exact ⟨h.n, h.b, by have := h.l; dsimp only; omega⟩
    ·rename_i hn
     have := exIn_I (k := k) hm ts (x := ⟨x.marks ++ [(fireI N m t).1], x.moves ++ [⟨k, t, x.marks.length⟩]⟩) (q := q + 1) ⟨by show (x.marks ++ _).length ≤ _; rw [List.length_append]; have := h.n; simp only [List.length_cons, List.length_nil]; omega, fun a ha => (List.mem_append.1 ha).elim (h.b a) (fun h => by rw [List.mem_singleton.1 h]; exact hb), by show (x.moves ++ _).length ≤ _; rw [List.length_append]; have := h.l; simp only [List.length_cons, List.length_nil]; omega⟩
     rw [List.length_cons, show q + (ts.length + 1) = q + 1 + ts.length by omega]
     exact this
  ·exact ⟨h.n, h.b, by have := h.l; dsimp only; omega⟩
theorem exOut_I {N : Net} (hN : N.ts.length ≤ 24) : ∀ (n k : Nat) {x : Ex} {q : Nat}, ExI N x q → ExI N (exOut N n k x).1 (q + 24 * n)
 | 0, k, x, q, h => h
 | n + 1, k, x, q, h => by
  rw [exOut]
  split
  ·rename_i hk
   have hm := h.b _ (List.getElem_mem hk)
   rw [← mkAt_nat hk] at hm
   have hL := readyL_len N (mkAt x k) N.ts.length
   have h1 := exIn_I (k := k) hm (readyL N (mkAt x k) N.ts.length) h
   split
   ·rename_i y e
    rw [e] at h1
    have := exOut_I hN n (k + 1) (x := y) (q := q + 24) ⟨h1.n, h1.b, by have := h1.l; dsimp only at this; omega⟩
    rw [show q + 24 * (n + 1) = q + 24 + 24 * n by omega]
    exact this
   ·exact ⟨h1.n, h1.b, by have := h1.l; omega⟩
  ·exact ⟨h.n, h.b, by have := h.l; dsimp only; omega⟩
def explS (s : Stg) : Ex × Bool := if (goodS s && exB (explR s.net s.start)) = true then ((explR s.net s.start).1, true) else (⟨[], []⟩, false)
theorem explS_in (s : Stg) : (explS s).1.marks.length ≤ 300 ∧ (explS s).1.moves.length ≤ 10000 := by
 unfold explS
 split
 ·rename_i h
  have hg := (Bool.and_eq_true_iff.1 h).1
  have h1 : goodN s.net = true ∧ bitsB s.start s.net.places = true := by
   simp only [goodS, Bool.and_eq_true] at hg
   exact hg.1
  have := exOut_I (good_places h1.1).2.2 301 0 (x := ⟨[s.start], []⟩) (q := 0) ⟨by show 1 ≤ 300; omega, fun m hm => by rw [List.mem_singleton.1 hm]; exact h1.2, Nat.le_refl _⟩
  exact ⟨this.n, Nat.le_trans this.l (by omega)⟩
 ·exact ⟨Nat.zero_le _, Nat.zero_le _⟩
set_option maxHeartbeats 2000000 in
theorem iExplore_spec (s : Stg) (hB : StgB s) : ASpec Tryz.prog 11 [stgA s] [] (Pure1 (.tup [rgA (explS s).1, aT (explS s).2])) := by
 have hV := iIsValidSTG_spec s hB.L
 have hX := iExplored_spec s hB
 have hR : explS s = if (goodS s && exB (explR s.net s.start)) = true then ((explR s.net s.start).1, true) else (⟨[], []⟩, false) := rfl
 obtain ⟨b, hb⟩ : ∃ b, b = goodS s := ⟨_, rfl⟩
 rw [← hb] at hV hX hR
 obtain ⟨c, hc⟩ : ∃ c, c = exB (explR s.net s.start) := ⟨_, rfl⟩
 rw [← hc] at hX hR
 obtain ⟨x, hx⟩ : ∃ x, x = (explR s.net s.start).1 := ⟨_, rfl⟩
 obtain ⟨k, hk⟩ : ∃ k, k = exK (explR s.net s.start) := ⟨_, rfl⟩
 obtain ⟨t, ht⟩ : ∃ t, t = exT (explR s.net s.start) := ⟨_, rfl⟩
 rw [← hx, ← hk, ← ht] at hX
 rw [← hx] at hR
 obtain ⟨G, hG⟩ : ∃ G, G = explS s := ⟨_, rfl⟩
 rw [← hG] at hR ⊢
 have hN1 : b = false → G = (⟨[], []⟩, false) := fun q => hR.trans (if_neg (by rw [q]; simp))
 have hN2 : c = false → G = (⟨[], []⟩, false) := fun q => hR.trans (if_neg (by rw [q]; simp))
 clear hG hb hc hx hk ht
 refine ASpec.of Tryz.func11 rfl rfl fun C hC => ?_
 refine AC.seq (AC.region ?_)
 refine AL.q (by exact h_boxF rfl rfl) rfl ?_
 refine AL.q (by exact h_alloc rfl) rfl ?_
 refine za ?_
 refine AL.nil (th_n (AC.seq (AC.seq (AC.region ?_))))
 refine AL.p (by exact g_load_refN rfl rfl rfl rfl) rfl ?_
 refine AL.q (by exact h_pure en_iIsValidSTG rfl rfl (by repeat (first | exact rfl | exact DLead.same | refine ⟨_, _, rfl, ?_, ?_⟩ | refine ⟨_, rfl, ?_⟩)) hV rfl) rfl ?_
 refine AL.p (by exact g_not rfl) rfl ?_
 refine AL.nil (th_n ?_)
 refine AC.condB rfl (fun h0 => ?_) (fun h0 => ?_)
 ·refine AC.seq (AC.region ?_)
  refine AL.p (by exact g_build rfl rfl rfl) rfl ?_
  refine zs ?_
  refine za ?_
  refine AL.nil (th_n (AC.ret (th_r (bq_r ?_))))
  have e := hN1 (by simpa using h0)
  exact ret0 rfl (by rw [e]; show AV.leads _ (.tup [rgA ⟨[], []⟩, aT false]) _; repeat (first | exact DLead.same | exact DLead.nil | exact rfl | refine ⟨_, rfl, ?_⟩ | refine ⟨_, _, rfl, ?_, ?_⟩))
 ·refine AC.skip (th_n (AC.seq ?_))
  have q1 : b = true := by simpa using h0
  have hX2 := hX q1
  refine AC.region ?_
  refine AL.p (by exact g_load_refN rfl rfl rfl rfl) rfl ?_
  refine AL.q (by exact h_pure en_iExplored rfl rfl (by repeat (first | exact rfl | exact DLead.same | refine ⟨_, _, rfl, ?_, ?_⟩ | refine ⟨_, rfl, ?_⟩)) hX2 rfl) rfl ?_
  refine AL.p (by exact mv5 rfl) rfl ?_
  refine AL.p (by exact g_extract (r := .agg _) rfl rfl) rfl ?_
  refine AL.p (by exact g_extract (r := .d _) rfl rfl) rfl ?_
  refine AL.p (by exact g_extract (r := .d _) rfl rfl) rfl ?_
  refine AL.p (by exact g_extract (r := .d _) rfl rfl) rfl ?_
  refine AL.q (by exact h_alloc rfl) rfl ?_
  refine zs ?_
  refine za ?_
  refine za ?_
  refine za ?_
  refine AL.nil (th_n (AC.seq (AC.seq (AC.region ?_))))
  refine zm ?_
  refine AL.p (by exact g_not rfl) rfl ?_
  refine AL.nil (th_n ?_)
  refine AC.condB rfl (fun h1 => ?_) (fun h1 => ?_)
  ·refine AC.seq (AC.region ?_)
   refine AL.p (by exact g_build rfl rfl rfl) rfl ?_
   refine zs ?_
   refine za ?_
   refine AL.nil (th_n (AC.ret (th_r (bq_r ?_))))
   have e := hN2 (by simpa using h1)
   exact ret0 rfl (by rw [e]; show AV.leads _ (.tup [rgA ⟨[], []⟩, aT false]) _; repeat (first | exact DLead.same | exact DLead.nil | exact rfl | refine ⟨_, rfl, ?_⟩ | refine ⟨_, _, rfl, ?_, ?_⟩))
  ·refine AC.skip (th_n (AC.seq (AC.region ?_)))
   refine AL.p (by exact g_load_ptrN rfl rfl rfl rfl rfl) rfl ?_
   refine zs ?_
   refine za ?_
   refine AL.nil (th_n (AC.ret (bq_r ?_)))
   have q2 : c = true := by simpa using h1
   have e : G = (x, true) := hR.trans (if_pos (by rw [q1, q2]; rfl))
   exact ret0 rfl (by rw [e]; show AV.leads _ (.tup [rgA x, aT true]) _; repeat (first | exact DLead.same | exact rfl | refine ⟨_, rfl, ?_⟩ | refine ⟨_, _, rfl, ?_, ?_⟩))
theorem en_iExplore : Enters Tryz.prog 11 := enters_of Tryz.func11 rfl rfl
theorem filt_take {α : Type} {p : α → Bool} {l : List α} {k : Nat} (hk : k < l.length) : (l.take (k + 1)).filter (fun x => !p x) = (l.take k).filter (fun x => !p x) ++ (if p l[k] = true then [] else [l[k]]) := by
 rw [List.take_add_one, List.getElem?_eq_getElem hk, List.filter_append]
 congr 1
 cases h : p l[k] <;> simp [h]
structure DelI {α : Type} (p : α → Bool) (l : List α) (i j : Nat) (e : List α) : Prop where
 len : e.length = l.length
 lt : i < j
 le : j ≤ l.length
 kept : e.take i = (l.take j).filter fun x => !p x
 rest : e.drop j = l.drop j
theorem DelI.get {α : Type} {p : α → Bool} {l e : List α} {i j : Nat} (h : DelI p l i j e) (hj : j < l.length) : e[j]? = some l[j] := by
 have : (e.drop j)[0]? = (l.drop j)[0]? := by rw [h.rest]
 rw [List.getElem?_drop, List.getElem?_drop, Nat.add_zero, List.getElem?_eq_getElem hj] at this
 exact this
theorem DelI.skip {α : Type} {p : α → Bool} {l e : List α} {i j : Nat} (h : DelI p l i j e) (hj : j < l.length) (hp : p l[j] = true) : DelI p l i (j + 1) e :=
 ⟨h.len, by have := h.lt; omega, hj, by rw [filt_take hj, if_pos hp, List.append_nil]; exact h.kept, by
  have : (e.drop j).drop 1 = (l.drop j).drop 1 := by rw [h.rest]
  rwa [List.drop_drop, List.drop_drop] at this⟩
theorem DelI.move {α : Type} {p : α → Bool} {l e : List α} {i j : Nat} (h : DelI p l i j e) (hj : j < l.length) (hp : p l[j] = false) : DelI p l (i + 1) (j + 1) (e.set i l[j]) := by
 have h1 := h.len
 have h2 := h.lt
 refine ⟨by rw [List.length_set]; exact h1, by omega, hj, ?_, ?_⟩
 ·rw [filt_take hj, if_neg (by rw [hp]; simp), ← h.kept, List.take_add_one, List.take_set_of_le (Nat.le_refl _), List.getElem?_set_self (by omega)]
  rfl
 ·rw [List.drop_set_of_lt (by omega)]
  have : (e.drop j).drop 1 = (l.drop j).drop 1 := by rw [h.rest]
  rwa [List.drop_drop, List.drop_drop] at this
section
variable {P : Program} [PT P] {s : ASt} {dst : Option Nat} {ty : Nat} {pos : String} {af : Array Edge} {gd : Option (Nat × Bool)} {x y : Operand} {f t : Nat}
theorem g_slice_part {e n bt sz id k l h o : Nat} {zs : List ZK} {te : TS} {lo hi : Option Operand} (ht : PT.ty P t = some ⟨.slice e, n, bt, zs⟩) (he : PT.ty P e = some te) (hs : te.size = sz) {els : List (List DV)} {e' : Nat} (hx : s.ev x = .own id k) (hc : s.chunk id = some (.arr e' sz els)) (hlo : OptEv s lo 0 l) (hhi : OptEv s hi k h) (h1 : l ≤ h) (h2 : h ≤ els.length) (ho : l * sz = o) {q : Nat} (hq : h - l = q) :
  GOp P [id] s ⟨dst, .slice t x lo hi none, ty, pos, af, gd⟩ (.part id o q) := by
 subst ho hq
 refine ⟨fun s' ha C U a w m hR => ?_⟩
 have hv := hR.ev x
 rw [ha.2.1 x (by simp [Op.operands]), hx] at hv
 have hc' : s'.chunk id = some (.arr e' sz els) := by rw [ha.2.2 id (by simp)]; exact hc
 have olo := optEv_run ha hR hlo (by rintro x rfl; simp [Op.operands])
 have ohi := optEv_run ha hR hhi (by rintro x rfl; cases lo <;> simp [Op.operands])
 generalize hvv : a.eval x = v at hv
 cases hv with
 | own hp h0 =>
  rename_i cap b
  have hle : els.length ≤ cap ∧ (0 < els.length → ∃ k, b = some k) := by
   cases hR.chunkAt hc' hp with
   | arr _ _ _ h _ => exact ⟨h, fun _ => ⟨_, rfl⟩⟩
   | nil => simp
  have hb := run_bounds (P := P) (isS := true) (len := k) (cap := cap) (mx := none) (l := l) (mm := cap) olo ohi (.inl ⟨rfl, rfl⟩) h1 (by omega) (Nat.le_refl _) w
  refine ⟨_, ?_, .part (b := b) (cap := cap) (a := if cap = l then b.map (fun b => ⟨b, 0, none⟩) else (b.map (fun b => (⟨b, 0, none⟩ : Addr))).map (·.add (l * sz))) (c := cap - l) hp (fun hpos => ?_)⟩
  ·simp only [execOp, Sem.run_bind, hvv, Option.map_none, run_sliceS ht he hs hb, Result.andThen_ok, Sem.run_pure]
  ·obtain ⟨q, rfl⟩ := hle.2 (by omega)
   refine ⟨q, rfl, ?_⟩
   rw [if_neg (by omega)]
   simp [addr_add]
inductive CpTo (s : ASt) (x : Operand) (sz id i n : Nat) : Prop
 | own : s.ev x = .own id n → i = 0 → CpTo s x sz id i n
 | part {o : Nat} : s.ev x = .part id o n → o = i * sz → CpTo s x sz id i n
theorem run_copyN {w : World} {dT sT ty elem : TypeId} {b o dLen dCap sz : Nat} {d a : Option Addr} {sLen sCap : Nat} {cs : List Value}
  (hu : P.underlying dT = some (.slice elem)) (hs : (P.info? elem).map (·.size) = some sz) (hn : cs.length = Nat.min sLen dLen * sz)
  (hsrc : ∀ p, a = some p → ∀ j v, cs[j]? = some v → w.cell? (p.add j) = some v) (ha : a = none → cs = []) (hd : cs ≠ [] → d = some ⟨b, o, none⟩) (hc : ∀ j, j < cs.length → (w.cell? ⟨b, o + j, none⟩).isSome = true) (hf : ∀ j, j < cs.length → w.frozen? ⟨b, o + j, none⟩ = false) (h1 : ∀ v ∈ cs, v.oneCell' = true) :
  (Builtin.copy_ #[dT, sT] ty #[.slice d dLen dCap, .slice a sLen sCap]).run P w = .ok (goInt (Nat.min sLen dLen)) (w.setCells b o cs) := by
 have hst := run_storeCells_cells (P := P) b o cs 0 w (by simpa using hc) (by simpa using hf) h1
 have hl : ∀ p, a = some p → (loadCells p cs.length).run P w = .ok cs.toArray w := fun p hp => run_loadCells_list (P := P) w p cs (hsrc p hp)
 cases hq : P.info? elem with
 | none => simp [hq] at hs
 | some i =>
  have hi : i.size = sz := by simpa [hq] using hs
  have key : (Builtin.firstCells sz (Nat.min sLen dLen) (.slice a sLen sCap)).run P w = .ok cs.toArray w := by
   cases a with
   | none => rw [ha rfl]; simp [Builtin.firstCells]
   | some p => rw [← hl p rfl, hn]; rfl
  by_cases h0 : cs = []
  ·subst h0
   have hst0 : ∀ p : Addr, (storeCells p [] 0).run P w = .ok () w := fun p => rfl
   cases d <;> simp [Builtin.copy_, run_underlying hu, Builtin.lenOf, sizeOf, typeInfo, hq, hi, key, World.setCells, hst0]
  ·rw [hd h0]
   simp [Builtin.copy_, run_underlying hu, Builtin.lenOf, sizeOf, typeInfo, hq, hi, key, hst]
theorem h_copy {tx e n bt id sz i k q : Nat} {zs : List ZK} {te : TS} {els new : List (List DV)} {ids2 : List Nat} {e' : Nat} (ht : PT.ty P t = some ⟨.slice e, n, bt, zs⟩) (he : PT.ty P e = some te) (hs : te.size = sz) (hto : CpTo s x sz id i k) (hc : s.chunk id = some (.arr e' sz els)) (harg : AppArg s y sz new ids2) (hik : i + k ≤ els.length) (hk : k ≤ maxLen) (hq : min new.length k = q) :
  NOp P (id :: ids2) s ⟨dst, .call { callee := .builtin .copy, args := #[x, y], argTypes := #[t, tx] }, ty, pos, af, gd⟩ f ⟨aI (q : Int), [(id, some (.arr e' sz (els.take i ++ new.take q ++ els.drop (i + q))))]⟩ := by
 subst hq
 refine ⟨fun s' hag C U U' a w m hR hU hU' hd K Q hK => ?_⟩
 have hc' : s'.chunk id = some (.arr e' sz els) := by rw [hag.2.2 id (by simp)]; exact hc
 have hxr := hR.ev x
 rw [hag.2.1 x (by simp [Op.operands, Call.operands])] at hxr
 obtain ⟨vs, hv⟩ := harg.rows (hag.2.1 y (by simp [Op.operands, Call.operands])) (fun j hj => hag.2.2 j (List.mem_cons_of_mem _ hj)) hR
 obtain ⟨⟨sa, sc, hsv, hsrc, hnone⟩, hvl, hone, hrep, hrows⟩ := hv
 obtain ⟨p, hp, hC, hloc⟩ := hR.ch id _ hc'
 have hdst : ∃ d c, a.eval x = .slice d k c ∧ (0 < k → ∃ b, p.1 = some b ∧ d = some ⟨b, i * sz, none⟩) := by
  cases hto with
  | own h1 h2 =>
   subst h2
   rw [h1] at hxr
   generalize a.eval x = v at hxr
   cases hxr with
   | own hp' h0 =>
    rename_i cap b
    rw [hp] at hp'
    simp only [Option.some.injEq] at hp'
    subst hp'
    refine ⟨_, _, rfl, fun hk => ?_⟩
    cases b with
    | none => have := h0 rfl; omega
    | some b => exact ⟨b, rfl, by simp⟩
  | part h1 h2 =>
   subst h2
   rw [h1] at hxr
   generalize a.eval x = v at hxr
   cases hxr with
   | part hp' h0 =>
    rw [hp] at hp'
    simp only [Option.some.injEq] at hp'
    subst hp'
    exact ⟨_, _, rfl, h0⟩
 obtain ⟨d, c, hdv, hdp⟩ := hdst
 obtain ⟨i0, _, _, hi0, _, _, hsz0, _⟩ := PT.facts he
 have hinfo : (P.info? e).map (·.size) = some sz := by rw [hi0]; simp [hsz0, hs]
 let cs := vs.take (min new.length k * sz)
 have hcl : cs.length = min new.length k * sz := by
  show (vs.take _).length = _
  rw [List.length_take, hvl]
  exact Nat.min_eq_left (Nat.mul_le_mul_right _ (Nat.min_le_left ..))
 have hcs : ∀ (j : Nat) (v : Value), cs[j]? = some v → vs[j]? = some v := by
  intro j v hj
  change (vs.take _)[j]? = _ at hj
  rw [List.getElem?_take] at hj
  split at hj
  ·exact hj
  ·cases hj
 have h1 : ∀ v ∈ cs, v.oneCell' = true := fun v hv => hone v (List.mem_of_mem_take hv)
 cases hC with
 | nil hz0 =>
  have hk0 : k = 0 := by simp at hik; omega
  subst hk0
  have hcs0 : cs = [] := List.eq_nil_of_length_eq_zero (by rw [hcl]; simp)
  have hi0' : i = 0 := by simpa using hik
  subst hi0'
  have hrun := run_copyN (P := P) (w := w) (dT := t) (sT := tx) (ty := ty) (b := 0) (o := 0) (dLen := 0) (dCap := c) (d := d) (a := sa) (sLen := new.length) (sCap := sc) (cs := []) (PT.slice ht) hinfo (by simp) (fun p hp j v hj => by simp at hj) (fun _ => rfl) (fun h => absurd rfl h) (fun j hj => by simp at hj) (fun j hj => by simp at hj) (fun v hv => by cases hv)
  simp only [Nat.min_zero] at hK
  have hR' := hR.setSlot (i := dst) hd (x := aI ((0 : Nat) : Int)) (v := .int .i64 0) (.d (.val (ok_len (n := 0) (by simp [maxLen]))))
  unfold Oper.wp
  simp only [execOp, resolve, invoke, builtin, Sem.run_bind, Sem.run_pure, Result.andThen_ok, Oper.upon]
  simp [hdv, hsv, hrun, Result.andThen, goInt, World.setCells]
  refine hK _ _ m (hR'.weaken (by simp only [ASt.n_app]) (fun j => .inr ?_) (fun j c hj => ?_) (fun j hj => (hU' j hj).1))
  ·rw [ASt.get_app, ASt.get_app]
  ·rw [ASt.chunk_app] at hj ⊢
   simp only [getL_cons] at hj
   simp only [getL] at hj ⊢
   split at hj
   ·rename_i c0 hc0
    split at hc0
    ·rename_i e1
     subst e1
     simp only [Option.some.injEq] at hc0
     subst hc0
     simpa using hc'.trans (by simpa using hj)
    ·cases hc0
   ·exact hj
 | arr hb hf hsz hl hm h0 hrow hel =>
  rename_i b cap arr fz
  have hin : (i + min new.length k) * sz ≤ arr.size := by rw [hsz]; exact Nat.mul_le_mul_right _ (by have := Nat.min_le_right new.length k; omega)
  rw [Nat.add_mul] at hin
  have hrun := run_copyN (P := P) (w := w) (dT := t) (sT := tx) (ty := ty) (b := b) (o := i * sz) (dLen := k) (dCap := c) (d := d) (a := sa) (sLen := new.length) (sCap := sc) (cs := cs) (PT.slice ht) hinfo hcl (fun p hp j v hj => hsrc p hp j v (hcs j v hj)) (fun h => by
    have := hnone h
    show vs.take _ = []
    rw [this]; simp) (fun h => by
    have hk0 : 0 < k := by
     rcases Nat.eq_zero_or_pos k with h2 | h2
     ·exfalso; exact h (List.eq_nil_of_length_eq_zero (by rw [hcl, h2]; simp))
     ·exact h2
    obtain ⟨b', hb', hd'⟩ := hdp hk0
    simp only [Option.some.injEq] at hb'
    rw [hd', hb']) (fun j hj => by rw [cell_getD hb (by omega)]; rfl) (fun j hj => by
    have := hf (i * sz + j) (by omega)
    simp only [World.frozen?, hb]
    simpa using this) h1
  have hg : ∀ q, (setSeg arr (i * sz) cs).getD q undef = if i * sz ≤ q ∧ q < i * sz + min new.length k * sz then cs.getD (q - i * sz) undef else arr.getD q undef := by
   intro q
   rw [setSeg_get _ _ _ (by omega) q, hcl]
  have hcg : ∀ q, q < min new.length k * sz → cs.getD q undef = vs.getD q undef := by
   intro q hq
   have h2 : q < cs.length := by omega
   have h3 := hcs q cs[q] (List.getElem?_eq_getElem h2)
   rw [List.getD_eq_getElem?_getD, List.getD_eq_getElem?_getD, h3, List.getElem?_eq_getElem h2]
  have hlen : (els.take i ++ new.take (min new.length k) ++ els.drop (i + min new.length k)).length = els.length := by
   have := Nat.min_le_right new.length k
   have := Nat.min_le_left new.length k
   simp; omega
  have hat : ∀ (q : Nat) (row : List DV), (els.take i ++ new.take (min new.length k) ++ els.drop (i + min new.length k))[q]? = some row → (i ≤ q ∧ q < i + min new.length k ∧ new[q - i]? = some row) ∨ ((q < i ∨ i + min new.length k ≤ q) ∧ els[q]? = some row) := by
   intro q row hq
   have hmk := Nat.min_le_right new.length k
   have hmn := Nat.min_le_left new.length k
   rcases Nat.lt_or_ge q i with h2 | h2
   ·right
    rw [List.append_assoc, List.getElem?_append_left (by simp; omega), List.getElem?_take, if_pos h2] at hq
    exact ⟨.inl h2, hq⟩
   ·rcases Nat.lt_or_ge q (i + min new.length k) with h3 | h3
    ·left
     rw [List.getElem?_append_left (by simp; omega), List.getElem?_append_right (by simp; omega), List.getElem?_take, if_pos (by simp; omega)] at hq
     refine ⟨h2, h3, ?_⟩
     rw [← hq]; congr 1; simp; omega
    ·right
     rw [List.getElem?_append_right (by simp; omega), List.getElem?_drop] at hq
     refine ⟨.inr h3, ?_⟩
     rw [← hq]; congr 1; simp; omega
  have hR' := hR.turned (i := dst) (r := aI ((min new.length k : Nat) : Int)) (v := .int .i64 ((min new.length k : Nat) : Int)) (w' := w.setCells b (i * sz) cs) (c' := .arr e' sz (els.take i ++ new.take (min new.length k) ++ els.drop (i + min new.length k))) hd hc' hp (fr_setCells _ w _) (fun F' hF => ⟨.d (.val (ok_len (Nat.le_trans (Nat.min_le_right ..) hk))), .arr (heap_setCells_at _ w _ _ hb) (by rw [setSeg_size]; exact hf) (by rw [setSeg_size]; exact hsz) (by rw [hlen]; exact hl) hm h0 (fun q row hq => ?_) (fun q row j dd hq hj => ?_)⟩)
  ·unfold Oper.wp
   simp only [execOp, resolve, invoke, builtin, Sem.run_bind, Sem.run_pure, Result.andThen_ok, Oper.upon]
   simp [hdv, hsv, hrun, Result.andThen, goInt]
   exact hK _ _ m (hR'.weaken rfl (fun _ => .inr rfl) (fun _ _ h => h) (fun j hj => (hU' j hj).1))
  ·rcases hat q row hq with ⟨_, _, h2⟩ | ⟨_, h2⟩
   ·exact hrows _ _ h2
   ·exact hrow _ _ h2
  ·rw [hg]
   rcases hat q row hq with ⟨h2, h3, h4⟩ | ⟨h2, h4⟩
   ·have hj2 : j < sz := by
     have := hrows _ _ h4
     have := (List.getElem?_eq_some_iff.1 hj).1
     omega
    have e1 : q * sz = i * sz + (q - i) * sz := by rw [← Nat.add_mul]; congr 1; omega
    have e2 : (q - i + 1) * sz ≤ min new.length k * sz := Nat.mul_le_mul_right _ (by omega)
    rw [Nat.succ_mul] at e2
    rw [if_pos (by omega), show q * sz + j - i * sz = (q - i) * sz + j from by omega, hcg _ (by omega)]
    exact (hrep _ _ j dd h4 hj).turn (fun k hk _ => hF k hk)
   ·have hj2 : j < sz := by
     have := hrow _ _ h4
     have := (List.getElem?_eq_some_iff.1 hj).1
     omega
    rw [if_neg]
    ·exact (hel q row j dd h4 hj).turn (fun k hk _ => hF k hk)
    ·rintro ⟨q1, q2⟩
     rcases h2 with h2 | h2
     ·have : (q + 1) * sz ≤ i * sz := Nat.mul_le_mul_right _ h2
      rw [Nat.succ_mul] at this
      omega
     ·have : (i + min new.length k) * sz ≤ q * sz := Nat.mul_le_mul_right _ h2
      rw [Nat.add_mul] at this
      omega
end
abbrev zMv : Mv := ⟨0, 0, 0⟩
def byF (L : List Mv) (i : Nat) : Mv := (L.find? fun v => decide (v.to_ = (i : Int))).getD zMv
def byL (x : Ex) : List Mv := zMv :: (List.range (x.marks.length - 1)).map fun i => byF x.moves (i + 1)
theorem byL_len {x : Ex} (h : 0 < x.marks.length) : (byL x).length = x.marks.length := by unfold byL; simp; omega
structure ByI (N : Net) (x : Ex) (k : Nat) : Prop where
 pos : 0 < x.marks.length
 inn : ∀ v, v ∈ x.moves → 0 ≤ v.from_ ∧ v.from_ < x.marks.length ∧ 0 ≤ v.to_ ∧ v.to_ < x.marks.length ∧ v.from_ ≤ k ∧ 0 ≤ v.by_ ∧ v.by_ < N.ts.length
 met : ∀ (i : Nat), 1 ≤ i → i < x.marks.length → ∃ v, x.moves.find? (fun v => decide (v.to_ = (i : Int))) = some v ∧ v.from_ < i
theorem ByI.start (N : Net) (m : List UInt8) : ByI N ⟨[m], []⟩ 0 := ⟨Nat.zero_lt_one, fun v h => by simp at h, fun i h1 h2 => by simp at h2; omega⟩
theorem ByI.known {N : Net} {x : Ex} {k : Nat} (h : ByI N x k) {t : Int} {i : Nat} (hk : k < x.marks.length) (hi : i < x.marks.length) (ht : 0 ≤ t ∧ t < N.ts.length) : ByI N ⟨x.marks, x.moves ++ [⟨k, t, i⟩]⟩ k := by
 refine ⟨h.pos, fun v hv => ?_, fun j h1 h2 => ?_⟩
 ·rcases List.mem_append.1 hv with g | g
  ·exact h.inn v g
  ·rw [List.mem_singleton.1 g]; dsimp only; omega
 ·obtain ⟨v, hv, hf⟩ := h.met j h1 h2
  exact ⟨v, by dsimp only; rw [List.find?_append, hv]; rfl, hf⟩
theorem ByI.known_by {N : Net} {x : Ex} {k : Nat} (h : ByI N x k) {t : Int} {i : Nat} : byL ⟨x.marks, x.moves ++ [⟨k, t, i⟩]⟩ = byL x := by
 unfold byL
 congr 1
 refine List.map_congr_left fun j hj => ?_
 obtain ⟨v, hv, _⟩ := h.met (j + 1) (by omega) (by have := List.mem_range.1 hj; dsimp only at this; omega)
 unfold byF
 rw [List.find?_append, hv]
 rfl
theorem ByI.none {N : Net} {x : Ex} {k : Nat} (h : ByI N x k) : x.moves.find? (fun v => decide (v.to_ = (x.marks.length : Int))) = none := by
 rw [List.find?_eq_none]
 intro v hv
 have := h.inn v hv
 simp only [decide_eq_true_eq]
 omega
theorem ByI.new {N : Net} {x : Ex} {k : Nat} (h : ByI N x k) {t : Int} {m : List UInt8} (hk : k < x.marks.length) (ht : 0 ≤ t ∧ t < N.ts.length) : ByI N ⟨x.marks ++ [m], x.moves ++ [⟨k, t, x.marks.length⟩]⟩ k := by
 refine ⟨by dsimp only; rw [List.length_append]; simp, fun v hv => ?_, fun j h1 h2 => ?_⟩
 ·dsimp only
  rw [List.length_append, List.length_singleton]
  rcases List.mem_append.1 hv with g | g
  ·have := h.inn v g; omega
  ·rw [List.mem_singleton.1 g]; dsimp only; omega
 ·dsimp only at h2 ⊢
  rw [List.length_append, List.length_singleton] at h2
  rcases Nat.lt_or_ge j x.marks.length with g | g
  ·obtain ⟨v, hv, hf⟩ := h.met j h1 g
   exact ⟨v, by rw [List.find?_append, hv]; rfl, hf⟩
  ·obtain rfl : j = x.marks.length := by omega
   refine ⟨⟨k, t, x.marks.length⟩, by rw [List.find?_append, h.none]; simp, ?_⟩
   dsimp only; omega
theorem ByI.new_by {N : Net} {x : Ex} {k : Nat} (h : ByI N x k) {t : Int} {m : List UInt8} : byL ⟨x.marks ++ [m], x.moves ++ [⟨k, t, x.marks.length⟩]⟩ = byL x ++ [⟨k, t, x.marks.length⟩] := by
 obtain ⟨n, hn⟩ : ∃ n, x.marks.length = n + 1 := ⟨x.marks.length - 1, by have := h.pos; omega⟩
 unfold byL
 dsimp only
 rw [List.length_append, List.length_singleton, hn, Nat.add_sub_cancel, Nat.add_sub_cancel, List.range_succ, List.map_append, List.cons_append]
 congr 2
 ·refine List.map_congr_left fun j hj => ?_
  obtain ⟨v, hv, _⟩ := h.met (j + 1) (by omega) (by have := List.mem_range.1 hj; omega)
  unfold byF
  rw [List.find?_append, hv]
  rfl
 ·rw [List.map_singleton]
  unfold byF
  rw [← hn, List.find?_append, h.none]
  simp
theorem ByI.up {N : Net} {x : Ex} {k : Nat} (h : ByI N x k) : ByI N x (k + 1) := ⟨h.pos, fun v hv => by have := h.inn v hv; omega, h.met⟩
theorem exIn_By {N : Net} {k : Nat} {m : List UInt8} : ∀ (L : List Int) {x : Ex}, (∀ t, t ∈ L → 0 ≤ t ∧ t < N.ts.length) → k < x.marks.length → ByI N x k → ByI N (exIn N k m L x).1 k ∧ k < (exIn N k m L x).1.marks.length
 | [], x, _, hk, h => ⟨h, hk⟩
 | t :: ts, x, hL, hk, h => by
  have ht := hL t (List.mem_cons_self ..)
  have hT : ∀ u, u ∈ ts → 0 ≤ u ∧ u < N.ts.length := fun u hu => hL u (List.mem_cons_of_mem _ hu)
  rw [exIn]
  split
  ·split
   ·rename_i i he
    exact exIn_By ts hT hk (h.known hk (posL_lt he) ht)
   ·split
    ·exact ⟨h, hk⟩
    ·exact exIn_By ts hT (by dsimp only; rw [List.length_append]; omega) (h.new hk ht)
  ·exact ⟨h, hk⟩
theorem readyL_in (N : Net) (m : List UInt8) (n : Nat) (t : Int) (ht : t ∈ readyL N m n) : 0 ≤ t ∧ t < N.ts.length := by
 unfold readyL at ht
 obtain ⟨k, hk, rfl⟩ := List.mem_map.1 ht
 have h := (List.mem_filter.1 hk).2
 cases e : N.ts[k]? with
 | none => rw [e] at h; cases h
 | some u =>
  have := (List.getElem?_eq_some_iff.1 e).1
  omega
theorem exOut_By {N : Net} : ∀ (n k : Nat) {x : Ex}, ByI N x k → ∃ k', ByI N (exOut N n k x).1 k'
 | 0, k, x, h => ⟨k, h⟩
 | n + 1, k, x, h => by
  rw [exOut]
  split
  ·rename_i hk
   have h1 := exIn_By (m := mkAt x k) (readyL N (mkAt x k) N.ts.length) (readyL_in _ _ _) hk h
   split
   ·rename_i y e
    rw [e] at h1
    exact exOut_By n (k + 1) h1.1.up
   ·exact ⟨k, h1.1⟩
  ·exact ⟨k, h⟩
theorem explR_By (N : Net) (m : List UInt8) : ∃ k', ByI N (explR N m).1 k' := exOut_By 301 0 (ByI.start N m)
theorem nodup_snoc {α : Type} {l : List α} {a : α} : (l ++ [a]).Nodup ↔ l.Nodup ∧ a ∉ l := by
 rw [List.nodup_append]
 simp only [List.nodup_cons, List.not_mem_nil, not_false_eq_true, List.nodup_nil, and_self, true_and, List.mem_singleton]
 constructor
 ·rintro ⟨h1, h2⟩
  exact ⟨h1, fun h => h2 a h a rfl rfl⟩
 ·rintro ⟨h1, h2⟩
  exact ⟨h1, fun x hx y hy e => h2 (by rw [← hy, ← e]; exact hx)⟩
theorem posL_none {m : List UInt8} : ∀ {l : List (List UInt8)}, posL m l = none ↔ m ∉ l
 | [] => by simp [posL]
 | a :: l => by
  rw [posL]
  split
  ·rename_i e; simp [e]
  ·rename_i e
   have := posL_none (m := m) (l := l)
   cases hp : posL m l with
   | none => simp only [Option.map_none, true_iff]; rw [List.mem_cons]; exact fun h => h.elim e (this.1 hp)
   | some i => simp only [Option.map_some, reduceCtorEq, false_iff]; intro h; exact absurd (this.2 fun q => h (List.mem_cons_of_mem _ q)) (by rw [hp]; simp)
theorem posL_get {m : List UInt8} : ∀ {l : List (List UInt8)} {i : Nat}, posL m l = some i → l[i]? = some m
 | [], i, h => by cases h
 | a :: l, i, h => by
  rw [posL] at h
  split at h
  ·rename_i e; cases h; rw [e]; rfl
  ·cases hp : posL m l with
   | none => rw [hp] at h; cases h
   | some j => rw [hp] at h; cases h; have := posL_get hp; simpa using this
def mvIn (n : Nat) (v : Mv) : Bool := ((decide (0 ≤ v.from_) && decide (v.from_ ≤ (n : Int) - 1)) && (decide (0 ≤ v.to_) && decide (v.to_ ≤ (n : Int) - 1))) && (decide (0 ≤ v.by_) && decide (v.by_ ≤ 23))
theorem mvIn_iff {n : Nat} {v : Mv} : mvIn n v = true ↔ (0 ≤ v.from_ ∧ v.from_ < n) ∧ (0 ≤ v.to_ ∧ v.to_ < n) ∧ 0 ≤ v.by_ ∧ v.by_ ≤ 23 := by
 unfold mvIn
 simp only [Bool.and_eq_true, decide_eq_true_eq]
 omega
def goodR (x : Ex) : Bool := (decide (1 ≤ x.marks.length) && decide (x.marks.length ≤ 300)) && (decide (x.moves.length ≤ 4000) && (decide x.marks.Nodup && x.moves.all (mvIn x.marks.length)))
theorem goodR_iff {x : Ex} : goodR x = true ↔ (1 ≤ x.marks.length ∧ x.marks.length ≤ 300) ∧ x.moves.length ≤ 4000 ∧ x.marks.Nodup ∧ ∀ v, v ∈ x.moves → mvIn x.marks.length v = true := by
 unfold goodR
 simp only [Bool.and_eq_true, decide_eq_true_eq, List.all_eq_true]
def Fires (N : Net) (x : Ex) (v : Mv) : Prop := ∃ f t : Nat, v.from_ = f ∧ v.to_ = t ∧ f < x.marks.length ∧ t < x.marks.length ∧ fireI N (mkAt x f) v.by_ = (mkAt x t, true)
def fromL (x : Ex) (j : Nat) : List Mv := x.moves.filter fun v => decide (v.from_ = (j : Int))
structure ClI (N : Net) (x : Ex) (k : Nat) (done : List Int) : Prop where
 nd : x.marks.Nodup
 le : ∀ v, v ∈ x.moves → 0 ≤ v.from_ ∧ v.from_ ≤ k
 ok : ∀ v, v ∈ x.moves → Fires N x v
 old : ∀ j, j < k → (fromL x j).map Mv.by_ = readyL N (mkAt x j) N.ts.length
 cur : (fromL x k).map Mv.by_ = done
theorem mkAt_push {x : Ex} {m : List UInt8} {M : List Mv} {j : Nat} (h : j < x.marks.length) : mkAt ⟨x.marks ++ [m], M⟩ j = mkAt x j := by
 unfold mkAt
 rw [List.getD_eq_getElem?_getD, List.getD_eq_getElem?_getD, List.getElem?_append_left h]
theorem mkAt_last {x : Ex} {m : List UInt8} {M : List Mv} : mkAt ⟨x.marks ++ [m], M⟩ x.marks.length = m := by
 unfold mkAt
 rw [List.getD_eq_getElem?_getD, List.getElem?_append_right (Nat.le_refl _), Nat.sub_self]; rfl
theorem fromL_push {x : Ex} {M : List (List UInt8)} {v : Mv} {j : Nat} : fromL ⟨M, x.moves ++ [v]⟩ j = fromL x j ++ (if v.from_ = (j : Int) then [v] else []) := by
 unfold fromL
 rw [List.filter_append]
 congr 1
 by_cases h : v.from_ = (j : Int) <;> simp [h]
theorem ClI.known {N : Net} {x : Ex} {k : Nat} {done : List Int} (h : ClI N x k done) (hk : k < x.marks.length) {t : Int} {i : Nat} (hf : (fireI N (mkAt x k) t).2 = true) (hp : posL (fireI N (mkAt x k) t).1 x.marks = some i) : ClI N ⟨x.marks, x.moves ++ [⟨k, t, i⟩]⟩ k (done ++ [t]) := by
 have hi := posL_lt hp
 have hg := posL_get hp
 refine ⟨h.nd, fun v hv => ?_, fun v hv => ?_, fun j hj => ?_, ?_⟩
 ·rcases List.mem_append.1 hv with g | g
  ·exact h.le v g
  ·rw [List.mem_singleton.1 g]; dsimp only; omega
 ·rcases List.mem_append.1 hv with g | g
  ·exact h.ok v g
  ·rw [List.mem_singleton.1 g]
   refine ⟨k, i, rfl, rfl, hk, hi, ?_⟩
   show fireI N (mkAt x k) t = (mkAt x i, true)
   have e : mkAt x i = (fireI N (mkAt x k) t).1 := by
    rw [mkAt_nat hi]
    rw [List.getElem?_eq_getElem hi] at hg
    exact Option.some.inj hg
   rw [e, ← hf]
 ·rw [fromL_push, if_neg (by show ¬ (k : Int) = j; omega), List.append_nil]
  exact h.old j hj
 ·rw [fromL_push, if_pos rfl, List.map_append, h.cur]; rfl
theorem ClI.new {N : Net} {x : Ex} {k : Nat} {done : List Int} (h : ClI N x k done) (hk : k < x.marks.length) {t : Int} (hf : (fireI N (mkAt x k) t).2 = true) (hp : posL (fireI N (mkAt x k) t).1 x.marks = none) : ClI N ⟨x.marks ++ [(fireI N (mkAt x k) t).1], x.moves ++ [⟨k, t, x.marks.length⟩]⟩ k (done ++ [t]) := by
 refine ⟨nodup_snoc.2 ⟨h.nd, posL_none.1 hp⟩, fun v hv => ?_, fun v hv => ?_, fun j hj => ?_, ?_⟩
 ·rcases List.mem_append.1 hv with g | g
  ·exact h.le v g
  ·rw [List.mem_singleton.1 g]; dsimp only; omega
 ·rcases List.mem_append.1 hv with g | g
  ·obtain ⟨f, u, h1, h2, h3, h4, h5⟩ := h.ok v g
   refine ⟨f, u, h1, h2, by dsimp only; rw [List.length_append]; omega, by dsimp only; rw [List.length_append]; omega, ?_⟩
   rw [mkAt_push h3, mkAt_push h4]; exact h5
  ·rw [List.mem_singleton.1 g]
   refine ⟨k, x.marks.length, rfl, rfl, by dsimp only; rw [List.length_append]; omega, by dsimp only; rw [List.length_append]; simp, ?_⟩
   rw [mkAt_push hk, mkAt_last]
   show fireI N (mkAt x k) t = _
   rw [← hf]
 ·rw [fromL_push, if_neg (by show ¬ (k : Int) = j; omega), List.append_nil, mkAt_push (by omega)]
  exact h.old j hj
 ·rw [fromL_push, if_pos rfl, List.map_append]
  show (fromL x k).map Mv.by_ ++ _ = _
  rw [h.cur]; rfl
theorem exIn_Cl {N : Net} {k : Nat} {m : List UInt8} : ∀ (L : List Int) {x y : Ex} {done : List Int}, k < x.marks.length → mkAt x k = m → ClI N x k done → exIn N k m L x = (y, none) → ClI N y k (done ++ L) ∧ mkAt y k = m ∧ k < y.marks.length
 | [], x, y, done, hk, hm, h, e => by
  rw [exIn] at e
  obtain rfl := (Prod.mk.inj e).1
  rw [List.append_nil]; exact ⟨h, hm, hk⟩
 | t :: ts, x, y, done, hk, hm, h, e => by
  rw [exIn] at e
  split at e
  ·rename_i hf
   subst hm
   split at e
   ·rename_i i he
    have := exIn_Cl ts (x := ⟨x.marks, x.moves ++ [⟨k, t, i⟩]⟩) hk rfl (h.known hk hf he) e
    rwa [List.append_assoc] at this
   ·rename_i he
    split at e
    ·exact absurd (Prod.mk.inj e).2 (by simp)
    ·have := exIn_Cl ts (x := ⟨x.marks ++ [(fireI N (mkAt x k) t).1], x.moves ++ [⟨k, t, x.marks.length⟩]⟩) (by dsimp only; rw [List.length_append]; omega) (mkAt_push hk) (h.new hk hf he) e
     rwa [List.append_assoc] at this
  ·exact absurd (Prod.mk.inj e).2 (by simp)
theorem ClI.next {N : Net} {x : Ex} {k : Nat} (h : ClI N x k (readyL N (mkAt x k) N.ts.length)) : ClI N x (k + 1) [] := by
 refine ⟨h.nd, fun v hv => by have := h.le v hv; omega, h.ok, fun j hj => ?_, ?_⟩
 ·rcases Nat.lt_or_ge j k with g | g
  ·exact h.old j g
  ·obtain rfl : j = k := by omega
   exact h.cur
 ·have : fromL x (k + 1) = [] := by
   unfold fromL
   rw [List.filter_eq_nil_iff]
   intro v hv
   have := h.le v hv
   simp only [decide_eq_true_eq]; omega
  rw [this]; rfl
theorem exIn_n300 {N : Net} {k : Nat} {m : List UInt8} : ∀ (L : List Int) {x : Ex}, x.marks.length ≤ 300 → (exIn N k m L x).1.marks.length ≤ 300
 | [], x, h => h
 | t :: ts, x, h => by
  rw [exIn]
  split
  ·split
   ·exact exIn_n300 ts h
   ·split
    ·exact h
    ·exact exIn_n300 ts (by dsimp only; rw [List.length_append, List.length_singleton]; omega)
  ·exact h
theorem exIn_st {N : Net} {k : Nat} {m : List UInt8} : ∀ (L : List Int) {x : Ex}, 0 < x.marks.length → mkAt (exIn N k m L x).1 0 = mkAt x 0 ∧ 0 < (exIn N k m L x).1.marks.length
 | [], x, h => ⟨rfl, h⟩
 | t :: ts, x, h => by
  rw [exIn]
  split
  ·split
   ·exact exIn_st ts h
   ·split
    ·exact ⟨rfl, h⟩
    ·have := exIn_st (N := N) (k := k) (m := m) ts (x := ⟨x.marks ++ [(fireI N m t).1], x.moves ++ [⟨k, t, x.marks.length⟩]⟩) (by dsimp only; rw [List.length_append]; omega)
     rw [mkAt_push h] at this
     exact this
  ·exact ⟨rfl, h⟩
theorem exOut_st (N : Net) : ∀ (n k : Nat) {x : Ex}, 0 < x.marks.length → mkAt (exOut N n k x).1 0 = mkAt x 0
 | 0, k, x, h => rfl
 | n + 1, k, x, h => by
  rw [exOut]
  split
  ·have h1 := exIn_st (N := N) (k := k) (m := mkAt x k) (readyL N (mkAt x k) N.ts.length) h
   split
   ·rename_i y e
    rw [e] at h1
    rw [exOut_st N n (k + 1) h1.2]; exact h1.1
   ·exact h1.1
  ·rfl
theorem exOut_Cl {N : Net} : ∀ (n k : Nat) {x y : Ex}, k ≤ x.marks.length → x.marks.length ≤ 300 → 301 ≤ n + k → ClI N x k [] → exOut N n k x = (y, none) → ∃ k', ClI N y k' [] ∧ y.marks.length ≤ k'
 | 0, k, x, y, hk, hx, hn, h, e => by omega
 | n + 1, k, x, y, hk, hx, hn, h, e => by
  rw [exOut] at e
  split at e
  ·rename_i hlt
   split at e
   ·rename_i z hz
    have h1 := exIn_Cl (readyL N (mkAt x k) N.ts.length) hlt rfl h hz
    rw [List.nil_append] at h1
    have h2 : ClI N z k (readyL N (mkAt z k) N.ts.length) := by rw [h1.2.1]; exact h1.1
    have h3 := exIn_n300 (N := N) (k := k) (m := mkAt x k) (readyL N (mkAt x k) N.ts.length) hx
    rw [hz] at h3
    exact exOut_Cl n (k + 1) h1.2.2 h3 (by omega) h2.next e
   ·rename_i hr
    exact absurd e (hr y)
  ·obtain rfl := (Prod.mk.inj e).1
   exact ⟨k, h, by omega⟩
structure Expl (s : Stg) (x : Ex) : Prop where
 n : 1 ≤ x.marks.length ∧ x.marks.length ≤ 300
 st : mkAt x 0 = s.start
 nd : x.marks.Nodup
 b : ∀ m, m ∈ x.marks → bitsB m s.net.places = true
 inn : ∀ v, v ∈ x.moves → 0 ≤ v.from_ ∧ v.from_ < x.marks.length ∧ 0 ≤ v.to_ ∧ v.to_ < x.marks.length ∧ 0 ≤ v.by_ ∧ v.by_ < s.net.ts.length
 ok : ∀ v, v ∈ x.moves → Fires s.net x v
 out : ∀ j, j < x.marks.length → (fromL x j).map Mv.by_ = readyL s.net (mkAt x j) s.net.ts.length
 met : ∀ (i : Nat), 1 ≤ i → i < x.marks.length → ∃ v, x.moves.find? (fun v => decide (v.to_ = (i : Int))) = some v ∧ v.from_ < i
 l : x.moves.length ≤ 300 * s.net.ts.length
theorem sum_le {f : Nat → Nat} {c : Nat} : ∀ n, (∀ j, j < n → f j ≤ c) → ((List.range n).map f).sum ≤ n * c
 | 0, _ => by simp
 | n + 1, h => by
  rw [List.range_succ, List.map_append, List.sum_append]
  have := sum_le n fun j hj => h j (by omega)
  have := h n (by omega)
  simp only [List.map_cons, List.map_nil, List.sum_cons, List.sum_nil, Nat.add_mul]
  omega
theorem froms_len {n : Nat} : ∀ (L : List Mv), (∀ v, v ∈ L → 0 ≤ v.from_ ∧ v.from_ < n) → L.length = ((List.range n).map fun j => (L.filter fun v => decide (v.from_ = ((j : Nat) : Int))).length).sum := by
 intro L
 induction L with
 | nil => intro _; have := sum_le (f := fun _ => 0) (c := 0) n (fun _ _ => Nat.le_refl _); show 0 = ((List.range n).map fun _ => 0).sum; omega
 | cons a L ih =>
  intro h
  have ha := h a (List.mem_cons_self ..)
  have ih := ih fun v hv => h v (List.mem_cons_of_mem _ hv)
  have key : ∀ (m : Nat), ((List.range m).map fun j => ((a :: L).filter fun v => decide (v.from_ = ((j : Nat) : Int))).length).sum = ((List.range m).map fun j => (L.filter fun v => decide (v.from_ = ((j : Nat) : Int))).length).sum + (if a.from_ < m then 1 else 0) := by
   intro m
   induction m with
   | zero => simp; omega
   | succ m ihm =>
    rw [List.range_succ, List.map_append, List.map_append, List.sum_append, List.sum_append, ihm, List.map_singleton, List.map_singleton, List.filter_cons]
    simp only [List.sum_cons, List.sum_nil]
    split <;> split <;> split <;> simp only [decide_eq_true_eq, List.length_cons] at * <;> omega
  rw [key n, if_pos ha.2, List.length_cons, ← ih]
theorem explS_Expl {s : Stg} (h : (explS s).2 = true) : goodS s = true ∧ Expl s (explS s).1 := by
 unfold explS at h ⊢
 split at h
 ·rename_i hc
  rw [if_pos hc]
  obtain ⟨hg, hb⟩ := Bool.and_eq_true_iff.1 hc
  have h1 : goodN s.net = true ∧ bitsB s.start s.net.places = true := by
   have hg := hg
   simp only [goodS, Bool.and_eq_true] at hg
   exact hg.1
  have hI := exOut_I (good_places h1.1).2.2 301 0 (x := ⟨[s.start], []⟩) (q := 0) ⟨by show 1 ≤ 300; omega, fun m hm => by rw [List.mem_singleton.1 hm]; exact h1.2, Nat.le_refl _⟩
  obtain ⟨k1, hB⟩ := explR_By s.net s.start
  have hr : explR s.net s.start = ((explR s.net s.start).1, none) := by
   unfold exB at hb
   split at hb
   ·cases hb
   ·rename_i e; exact Prod.ext rfl e
  have hst := exOut_st s.net 301 0 (x := ⟨[s.start], []⟩) Nat.zero_lt_one
  obtain ⟨k', hC, hk'⟩ := exOut_Cl 301 0 (x := ⟨[s.start], []⟩) (Nat.zero_le _) (by show 1 ≤ 300; omega) (Nat.le_refl _) ⟨by simp, fun v hv => by simp at hv, fun v hv => by simp at hv, fun j hj => by omega, rfl⟩ hr
  have hin : ∀ v, v ∈ (explR s.net s.start).1.moves → 0 ≤ v.from_ ∧ v.from_ < (explR s.net s.start).1.marks.length := fun v hv => by have := hB.inn v hv; omega
  have hBi := hB.inn
  have hl : (explR s.net s.start).1.moves.length ≤ 300 * s.net.ts.length := by
   rw [froms_len _ hin]
   refine Nat.le_trans (sum_le (c := s.net.ts.length) _ fun j hj => ?_) (Nat.mul_le_mul_right _ hI.n)
   have := congrArg List.length (hC.old j (by omega))
   rw [List.length_map] at this
   have h2 := readyL_len s.net (mkAt (explR s.net s.start).1 j) s.net.ts.length
   show (fromL _ j).length ≤ _
   omega
  have hpos := hB.pos
  have hold := hC.old
  have hmet := hB.met
  have hn : (explR s.net s.start).1.marks.length ≤ 300 := hI.n
  have hb2 : ∀ m, m ∈ (explR s.net s.start).1.marks → bitsB m s.net.places = true := hI.b
  have hst : mkAt (explR s.net s.start).1 0 = s.start := hst
  have hnd := hC.nd
  have hok := hC.ok
  obtain ⟨x, hx⟩ : ∃ x, x = (explR s.net s.start).1 := ⟨_, rfl⟩
  rw [← hx] at hBi hl hpos hold hmet hn hb2 hnd hok hst hk'
  show goodS s = true ∧ Expl s (explR s.net s.start).1
  rw [← hx]
  exact ⟨hg, ⟨hpos, hn⟩, hst, hnd, hb2, fun v hv => by have := hBi v hv; omega, hok, fun j hj => hold j (by omega), hmet, hl⟩
 ·exact absurd h (by simp)
theorem Expl.good {s : Stg} {x : Ex} (h : Expl s x) (ht : s.net.ts.length ≤ 13) : goodR x = true := by
 have := h.l
 refine goodR_iff.2 ⟨h.n, by have : 300 * s.net.ts.length ≤ 300 * 13 := Nat.mul_le_mul_left _ ht; omega, h.nd, fun v hv => mvIn_iff.2 ?_⟩
 have := h.inn v hv
 omega
abbrev oa (o : List Int) (v : Nat) : Int := o.getD v (-1)
theorem oa_lt {o : List Int} {v : Nat} (h : 0 ≤ oa o v) : v < o.length := by
 rcases Nat.lt_or_ge v o.length with q | q
 ·exact q
 ·unfold oa at h
  rw [List.getD_eq_getElem?_getD, List.getElem?_eq_none q] at h
  exact absurd h (by decide)
theorem oa_get {o : List Int} {v : Nat} (h : v < o.length) : oa o v = o[v] := by
 unfold oa; rw [List.getD_eq_getElem?_getD, List.getElem?_eq_getElem h]; rfl
theorem oa_set_self {o : List Int} {v : Nat} {x : Int} (h : v < o.length) : oa (o.set v x) v = x := by
 unfold oa; rw [List.getD_eq_getElem?_getD, List.getElem?_set_self h]; rfl
theorem oa_set_ne {o : List Int} {v u : Nat} {x : Int} (h : u ≠ v) : oa (o.set v x) u = oa o u := by
 unfold oa; rw [List.getD_eq_getElem?_getD, List.getD_eq_getElem?_getD, List.getElem?_set_ne (fun e => h e.symm)]
inductive Walk (E : List (Nat × Nat)) (s : Nat) : Nat → Nat → Prop
 | nil : Walk E s 0 s
 | step {k f t : Nat} : Walk E s k f → (f, t) ∈ E → Walk E s (k + 1) t
structure DistOf (E : List (Nat × Nat)) (n s : Nat) (o : List Int) : Prop where
 len : o.length = n
 st : oa o s = 0
 lo : ∀ v, -1 ≤ oa o v
 wk : ∀ (v k : Nat), oa o v = (k : Int) → Walk E s k v
 ed : ∀ f t, (f, t) ∈ E → 0 ≤ oa o f → 0 ≤ oa o t ∧ oa o t ≤ oa o f + 1
theorem DistOf.walk {E : List (Nat × Nat)} {n s : Nat} {o : List Int} (h : DistOf E n s o) : ∀ {k v : Nat}, Walk E s k v → 0 ≤ oa o v ∧ oa o v ≤ k
 | _, _, .nil => by rw [h.st]; exact ⟨Int.le_refl _, Int.le_refl _⟩
 | _, _, .step w he => by
  have h1 := h.walk w
  have h2 := h.ed _ _ he h1.1
  omega
theorem DistOf.le {E : List (Nat × Nat)} {n s : Nat} {o o' : List Int} (h : DistOf E n s o) (h' : DistOf E n s o') (v : Nat) (hv : 0 ≤ oa o v) : 0 ≤ oa o' v ∧ oa o' v ≤ oa o v := by
 have := h'.walk (h.wk v (oa o v).toNat (by omega))
 omega
theorem DistOf.uniq {E : List (Nat × Nat)} {n s : Nat} {o o' : List Int} (h : DistOf E n s o) (h' : DistOf E n s o') : o = o' := by
 refine List.ext_getElem (by rw [h.len, h'.len]) fun v h1 h2 => ?_
 rw [← oa_get h1, ← oa_get h2]
 have a := h.lo v
 have b := h'.lo v
 by_cases q : 0 ≤ oa o v
 ·have c := h.le h' v q
  have d := h'.le h v c.1
  omega
 ·by_cases q' : 0 ≤ oa o' v
  ·have d := h'.le h v q'
   omega
  ·omega
open Classical in
noncomputable def distF (E : List (Nat × Nat)) (n s : Nat) : List Int := if h : ∃ o, DistOf E n s o then Classical.choose h else []
theorem DistOf.eq {E : List (Nat × Nat)} {n s : Nat} {o : List Int} (h : DistOf E n s o) : distF E n s = o := by
 have hex : ∃ o, DistOf E n s o := ⟨o, h⟩
 unfold distF
 rw [dif_pos hex]
 exact (Classical.choose_spec hex).uniq h
theorem DistOf.self {E : List (Nat × Nat)} {n s : Nat} {o : List Int} (h : DistOf E n s o) : DistOf E n s (distF E n s) := by rw [h.eq]; exact h
def nextL (E : List (Nat × Nat)) (f : Nat) : List Nat := (E.filter fun e => decide (e.1 = f)).map (·.2)
theorem nextL_mem {E : List (Nat × Nat)} {f t : Nat} : t ∈ nextL E f ↔ (f, t) ∈ E := by
 unfold nextL
 simp only [List.mem_map, List.mem_filter, decide_eq_true_eq]
 constructor
 ·rintro ⟨⟨a, b⟩, ⟨h1, h2⟩, rfl⟩; simp only at h2; subst h2; exact h1
 ·intro h; exact ⟨(f, t), ⟨h, rfl⟩, rfl⟩
def negs (o : List Int) : Nat := o.countP fun x => decide (x < 0)
theorem negs_set : ∀ {o : List Int} {v : Nat} {x : Int}, v < o.length → oa o v < 0 → 0 ≤ x → negs (o.set v x) + 1 = negs o
 | [], v, x, h, _, _ => by simp at h
 | y :: o, 0, x, h, h1, h2 => by
  have h1 : y < 0 := h1
  unfold negs
  rw [List.set_cons_zero, List.countP_cons_of_neg (by simpa using h2), List.countP_cons_of_pos (by simpa using h1)]
 | y :: o, v + 1, x, h, h1, h2 => by
  have ih := negs_set (o := o) (v := v) (x := x) (by simpa using h) h1 h2
  unfold negs at ih ⊢
  rw [List.set_cons_succ, List.countP_cons, List.countP_cons]
  omega
theorem negs_rep (n : Nat) : negs (List.replicate n (-1)) = n := by
 unfold negs
 rw [List.countP_replicate]; simp
structure BfsI (E : List (Nat × Nat)) (n s : Nat) (o : List Int) (q : List Nat) (a j : Nat) : Prop where
 len : o.length = n
 inn : ∀ f t, (f, t) ∈ E → f < n ∧ t < n
 st : oa o s = 0
 lo : ∀ v, -1 ≤ oa o v
 wk : ∀ (v k : Nat), oa o v = (k : Int) → Walk E s k v
 cnt : negs o + q.length = n
 al : a ≤ q.length
 mem : ∀ v, v ∈ q ↔ 0 ≤ oa o v
 mono : ∀ i k (_ : i ≤ k) (hk : k < q.length), oa o (q.getD i 0) ≤ oa o (q.getD k 0)
 gap : a < q.length → ∀ v, v ∈ q → oa o v ≤ oa o (q.getD a 0) + 1
 done : ∀ i, i < a → ∀ t, (q.getD i 0, t) ∈ E → 0 ≤ oa o t ∧ oa o t ≤ oa o (q.getD i 0) + 1
 part : ∀ t, t ∈ (nextL E (q.getD a 0)).take j → 0 ≤ oa o t ∧ oa o t ≤ oa o (q.getD a 0) + 1
theorem BfsI.start {E : List (Nat × Nat)} {n s : Nat} (hs : s < n) (hE : ∀ f t, (f, t) ∈ E → f < n ∧ t < n) : BfsI E n s ((List.replicate n (-1)).set s 0) [s] 0 0 := by
 have hneg : ∀ v, oa (List.replicate n (-1)) v = -1 := fun v => by
  unfold oa
  rw [List.getD_eq_getElem?_getD, List.getElem?_replicate]
  split <;> rfl
 have hset : ∀ v, oa ((List.replicate n (-1)).set s 0) v = if v = s then 0 else -1 := fun v => by
  split
  ·rename_i h; subst h; exact oa_set_self (by simpa using hs)
  ·rename_i h; rw [oa_set_ne h, hneg]
 refine ⟨by simp, hE, by rw [hset, if_pos rfl], fun v => by rw [hset]; split <;> decide, fun v k h => ?_, ?_, by simp, fun v => ?_, fun i k hik hk => ?_, fun _ v hv => ?_, fun i hi => by omega, fun t ht => by simp at ht⟩
 ·rw [hset] at h
  split at h
  ·rename_i e; obtain rfl : k = 0 := by omega
   rw [e]; exact .nil
  ·omega
 ·have := negs_set (o := List.replicate n (-1)) (v := s) (x := 0) (by simpa using hs) (by rw [hneg]; decide) (Int.le_refl _)
  rw [negs_rep] at this
  simpa using this
 ·rw [hset, List.mem_singleton]
  split
  ·rename_i e; simp [e]
  ·rename_i e; simp [e]
 ·simp only [List.length_cons, List.length_nil] at hk
  obtain rfl : k = 0 := by omega
  obtain rfl : i = 0 := by omega
  exact Int.le_refl _
 ·rw [List.mem_singleton.1 hv]
  show _ ≤ oa _ ([s].getD 0 0) + 1
  show oa _ s ≤ oa _ s + 1
  omega
theorem getD_mem0 {q : List Nat} {a : Nat} (h : a < q.length) : q.getD a 0 ∈ q := by
 rw [List.getD_eq_getElem?_getD, List.getElem?_eq_getElem h]; exact List.getElem_mem h
theorem getD_app1 {q : List Nat} {a t : Nat} (h : a < q.length) : (q ++ [t]).getD a 0 = q.getD a 0 := by
 rw [List.getD_eq_getElem?_getD, List.getD_eq_getElem?_getD, List.getElem?_append_left h]
theorem getD_app2 {q : List Nat} {t : Nat} : (q ++ [t]).getD q.length 0 = t := by
 rw [List.getD_eq_getElem?_getD, List.getElem?_append_right (Nat.le_refl _), Nat.sub_self]; rfl
theorem mem_takeN {l : List Nat} {j t : Nat} (hj : j < l.length) (h : t ∈ l.take (j + 1)) : t ∈ l.take j ∨ t = l[j] := by
 rw [List.take_add_one, List.getElem?_eq_getElem hj] at h
 rcases List.mem_append.1 h with q | q
 ·exact .inl q
 ·exact .inr (by simpa using q)
theorem BfsI.no {E : List (Nat × Nat)} {n s : Nat} {o : List Int} {q : List Nat} {a j : Nat} (h : BfsI E n s o q a j) (ha : a < q.length) (hj : j < (nextL E (q.getD a 0)).length) (ht : 0 ≤ oa o (nextL E (q.getD a 0))[j]) : BfsI E n s o q a (j + 1) := by
 refine ⟨h.len, h.inn, h.st, h.lo, h.wk, h.cnt, h.al, h.mem, h.mono, h.gap, h.done, fun t ht' => ?_⟩
 rcases mem_takeN hj ht' with g | g
 ·exact h.part t g
 ·rw [g]; exact ⟨ht, h.gap ha _ ((h.mem _).2 ht)⟩
theorem BfsI.yes {E : List (Nat × Nat)} {n s : Nat} {o : List Int} {q : List Nat} {a j : Nat} (h : BfsI E n s o q a j) (ha : a < q.length) (hj : j < (nextL E (q.getD a 0)).length) (ht : oa o (nextL E (q.getD a 0))[j] < 0) :
  BfsI E n s (o.set (nextL E (q.getD a 0))[j] (oa o (q.getD a 0) + 1)) (q ++ [(nextL E (q.getD a 0))[j]]) a (j + 1) := by
 have hc0 := (h.mem _).1 (getD_mem0 ha)
 have hed := nextL_mem.1 (List.getElem_mem hj)
 have hmt : ∀ t, t ∈ (nextL E (q.getD a 0)).take (j + 1) → t ∈ (nextL E (q.getD a 0)).take j ∨ t = (nextL E (q.getD a 0))[j] := fun t => mem_takeN hj
 have hgap := h.gap ha
 have hpart := h.part
 have hgq : (q ++ [(nextL E (q.getD a 0))[j]]).getD a 0 = q.getD a 0 := getD_app1 ha
 have hLL : nextL E ((q ++ [(nextL E (q.getD a 0))[j]]).getD a 0) = nextL E (q.getD a 0) := by rw [hgq]
 obtain ⟨t, htt⟩ : ∃ t, t = (nextL E (q.getD a 0))[j] := ⟨_, rfl⟩
 rw [← htt] at ht hed hmt hgq hLL ⊢
 have htn : t < n := (h.inn _ _ hed).2
 have htl : t < o.length := by rw [h.len]; exact htn
 have hne : ∀ v, 0 ≤ oa o v → v ≠ t := fun v hv e => by rw [e] at hv; omega
 have hts : oa (o.set t (oa o (q.getD a 0) + 1)) t = oa o (q.getD a 0) + 1 := oa_set_self htl
 have hold : ∀ v, 0 ≤ oa o v → oa (o.set t (oa o (q.getD a 0) + 1)) v = oa o v := fun v hv => oa_set_ne (hne v hv)
 have hqo : ∀ v, v ∈ q → oa (o.set t (oa o (q.getD a 0) + 1)) v = oa o v := fun v hv => hold v ((h.mem v).1 hv)
 have hca := hqo _ (getD_mem0 ha)
 refine ⟨by rw [List.length_set]; exact h.len, h.inn, ?_, fun v => ?_, fun v k hv => ?_, ?_, by rw [List.length_append]; have := h.al; omega, fun v => ?_, fun i k hik hk => ?_, fun _ v hv => ?_, fun i hi t' ht' => ?_, fun t' ht' => ?_⟩
 ·rw [hold s (by rw [h.st]; exact Int.le_refl _)]; exact h.st
 ·by_cases e : v = t
  ·rw [e, hts]; omega
  ·rw [oa_set_ne e]; exact h.lo v
 ·by_cases e : v = t
  ·subst e
   rw [hts] at hv
   obtain ⟨k', rfl⟩ : ∃ k', k = k' + 1 := ⟨k - 1, by omega⟩
   exact .step (h.wk _ k' (by omega)) hed
  ·rw [oa_set_ne e] at hv; exact h.wk v k hv
 ·have h1 := negs_set (o := o) (v := t) (x := oa o (q.getD a 0) + 1) htl ht (by omega)
  have h2 := h.cnt
  rw [List.length_append, List.length_singleton]; omega
 ·rw [List.mem_append, List.mem_singleton]
  by_cases e : v = t
  ·rw [e, hts]
   constructor
   ·intro _; omega
   ·intro _; exact .inr rfl
  ·rw [oa_set_ne e, ← h.mem v]
   constructor
   ·rintro (g | g)
    ·exact g
    ·exact absurd g e
   ·exact .inl
 ·rw [List.length_append, List.length_singleton] at hk
  rcases Nat.lt_or_ge k q.length with g | g
  ·rw [getD_app1 (by omega), getD_app1 g, hqo _ (getD_mem0 (by omega)), hqo _ (getD_mem0 g)]
   exact h.mono i k hik g
  ·obtain rfl : k = q.length := by omega
   rw [getD_app2, hts]
   rcases Nat.lt_or_ge i q.length with g' | g'
   ·rw [getD_app1 g', hqo _ (getD_mem0 g')]
    exact hgap _ (getD_mem0 g')
   ·obtain rfl : i = q.length := by omega
    rw [getD_app2, hts]; exact Int.le_refl _
 ·rw [hgq, hca]
  rcases List.mem_append.1 hv with g | g
  ·rw [hqo v g]; exact hgap v g
  ·rw [List.mem_singleton.1 g, hts]; exact Int.le_refl _
 ·have hi2 : i < q.length := by omega
  rw [getD_app1 hi2] at ht' ⊢
  have h1 := h.done i hi t' ht'
  rw [hold t' h1.1, hqo _ (getD_mem0 hi2)]
  exact h1
 ·rw [hLL] at ht'
  rw [hgq, hca]
  rcases hmt t' ht' with g | g
  ·have h1 := hpart t' g
   rw [hold t' h1.1]; exact h1
  ·rw [g, hts]; exact ⟨by omega, Int.le_refl _⟩
theorem BfsI.next {E : List (Nat × Nat)} {n s : Nat} {o : List Int} {q : List Nat} {a j : Nat} (h : BfsI E n s o q a j) (ha : a < q.length) (hj : j = (nextL E (q.getD a 0)).length) : BfsI E n s o q (a + 1) 0 := by
 refine ⟨h.len, h.inn, h.st, h.lo, h.wk, h.cnt, ha, h.mem, h.mono, fun ha' v hv => ?_, fun i hi t ht => ?_, fun t ht => by simp at ht⟩
 ·have h1 := h.gap ha v hv
  have h2 := h.mono a (a + 1) (by omega) ha'
  omega
 ·rcases Nat.lt_or_ge i a with g | g
  ·exact h.done i g t ht
  ·obtain rfl : i = a := by omega
   exact h.part t (by rw [hj, List.take_length]; exact nextL_mem.2 ht)
theorem BfsI.dist {E : List (Nat × Nat)} {n s : Nat} {o : List Int} {q : List Nat} (h : BfsI E n s o q q.length 0) : DistOf E n s o := by
 refine ⟨h.len, h.st, h.lo, h.wk, fun f t he hf => ?_⟩
 obtain ⟨i, hi, rfl⟩ := List.getElem_of_mem ((h.mem f).2 hf)
 have := h.done i hi t (by rw [List.getD_eq_getElem?_getD, List.getElem?_eq_getElem hi]; exact he)
 rwa [List.getD_eq_getElem?_getD, List.getElem?_eq_getElem hi] at this
structure RndI (E : List (Nat × Nat)) (n s : Nat) (o : List Int) (d j : Nat) : Prop where
 len : o.length = n
 inn : ∀ f t, (f, t) ∈ E → f < n ∧ t < n
 st : oa o s = 0
 lo : ∀ v, -1 ≤ oa o v
 hi : ∀ v, oa o v ≤ d + 1
 hi0 : j = 0 → ∀ v, oa o v ≤ d
 wk : ∀ (v k : Nat), oa o v = (k : Int) → Walk E s k v
 dn : ∀ (v : Nat) (k : Nat), oa o v = (k : Int) + 1 → ∃ f, oa o f = (k : Int)
 done : ∀ f t, (f, t) ∈ E → 0 ≤ oa o f → oa o f < d → 0 ≤ oa o t ∧ oa o t ≤ oa o f + 1
 part : ∀ f t, (f, t) ∈ E.take j → oa o f = d → 0 ≤ oa o t
theorem RndI.start {E : List (Nat × Nat)} {n s : Nat} (hs : s < n) (hE : ∀ f t, (f, t) ∈ E → f < n ∧ t < n) : RndI E n s ((List.replicate n (-1)).set s 0) 0 0 := by
 have hneg : ∀ v, oa (List.replicate n (-1)) v = -1 := fun v => by
  unfold oa
  rw [List.getD_eq_getElem?_getD, List.getElem?_replicate]
  split <;> rfl
 have hset : ∀ v, oa ((List.replicate n (-1)).set s 0) v = if v = s then 0 else -1 := fun v => by
  split
  ·rename_i h; subst h; exact oa_set_self (by simpa using hs)
  ·rename_i h; rw [oa_set_ne h, hneg]
 refine ⟨by simp, hE, by rw [hset, if_pos rfl], fun v => by rw [hset]; split <;> decide, fun v => by rw [hset]; split <;> decide, fun _ v => by rw [hset]; split <;> decide, fun v k h => ?_, fun v k h => ?_, fun f t _ h1 h2 => by omega, fun f t ht => by simp at ht⟩
 ·rw [hset] at h
  split at h
  ·rename_i e; obtain rfl : k = 0 := by omega
   rw [e]; exact .nil
  ·omega
 ·rw [hset] at h
  split at h <;> omega
theorem mem_takeE {l : List (Nat × Nat)} {j : Nat} {t : Nat × Nat} (hj : j < l.length) (h : t ∈ l.take (j + 1)) : t ∈ l.take j ∨ t = l[j] := by
 rw [List.take_add_one, List.getElem?_eq_getElem hj] at h
 rcases List.mem_append.1 h with q | q
 ·exact .inl q
 ·exact .inr (by simpa using q)
theorem RndI.no {E : List (Nat × Nat)} {n s : Nat} {o : List Int} {d j : Nat} (h : RndI E n s o d j) (hj : j < E.length) (ht : ¬ (oa o E[j].1 = d ∧ oa o E[j].2 < 0)) : RndI E n s o d (j + 1) := by
 refine ⟨h.len, h.inn, h.st, h.lo, h.hi, fun e => by omega, h.wk, h.dn, h.done, fun f t hft hf => ?_⟩
 rcases mem_takeE hj hft with g | g
 ·exact h.part f t g hf
 ·rw [← g] at ht
  rcases Int.lt_or_le (oa o t) 0 with c | c
  ·exact absurd ⟨hf, c⟩ ht
  ·exact c
theorem RndI.yes {E : List (Nat × Nat)} {n s : Nat} {o : List Int} {d j : Nat} (h : RndI E n s o d j) (hj : j < E.length) (hf : oa o E[j].1 = d) (ht : oa o E[j].2 < 0) : RndI E n s (o.set E[j].2 (d + 1)) d (j + 1) := by
 have hed : (E[j].1, E[j].2) ∈ E := List.getElem_mem hj
 have hmt := fun x => mem_takeE (t := x) hj
 obtain ⟨f0, hf0⟩ : ∃ f0, f0 = E[j].1 := ⟨_, rfl⟩
 obtain ⟨t0, ht0⟩ : ∃ t0, t0 = E[j].2 := ⟨_, rfl⟩
 have he : E[j] = (f0, t0) := by rw [hf0, ht0]
 rw [he] at hmt
 rw [← ht0] at ht hed ⊢
 rw [← hf0] at hf hed
 have htl : t0 < o.length := by rw [h.len]; exact (h.inn _ _ hed).2
 have hts : oa (o.set t0 (d + 1)) t0 = d + 1 := oa_set_self htl
 have hold : ∀ v, 0 ≤ oa o v → oa (o.set t0 (d + 1)) v = oa o v := fun v hv => oa_set_ne (fun e => by rw [e] at hv; omega)
 have hback : ∀ v, oa (o.set t0 ((d : Int) + 1)) v = oa o v ∨ (v = t0 ∧ oa (o.set t0 ((d : Int) + 1)) v = d + 1) := fun v => by
  by_cases e : v = t0
  ·right; exact ⟨e, by rw [e]; exact hts⟩
  ·left; exact oa_set_ne e
 refine ⟨by rw [List.length_set]; exact h.len, h.inn, by rw [hold s (by rw [h.st]; exact Int.le_refl _)]; exact h.st, fun v => ?_, fun v => ?_, fun e => by omega, fun v k hv => ?_, fun v k hv => ?_, fun f t hft h1 h2 => ?_, fun f t hft h1 => ?_⟩
 ·rcases hback v with g | ⟨_, g⟩
  ·rw [g]; exact h.lo v
  ·rw [g]; omega
 ·rcases hback v with g | ⟨_, g⟩
  ·rw [g]; exact h.hi v
  ·rw [g]; exact Int.le_refl _
 ·rcases hback v with g | ⟨g1, g⟩
  ·rw [g] at hv; exact h.wk v k hv
  ·rw [g] at hv
   obtain rfl : k = d + 1 := by omega
   rw [g1]; exact .step (h.wk f0 d hf) hed
 ·rcases hback v with g | ⟨g1, g⟩
  ·rw [g] at hv
   obtain ⟨f, hf'⟩ := h.dn v k hv
   exact ⟨f, by rw [hold f (by omega)]; exact hf'⟩
  ·rw [g] at hv
   obtain rfl : k = d := by omega
   exact ⟨f0, by rw [hold f0 (by omega)]; exact hf⟩
 ·rcases hback f with g | ⟨g1, g⟩
  ·rw [g] at h1 h2 ⊢
   have h3 := h.done f t hft h1 h2
   rw [hold t h3.1]; exact h3
  ·rw [g] at h2; omega
 ·rcases hback f with g | ⟨g1, g⟩
  ·rw [g] at h1
   rcases hmt _ hft with c | c
   ·have h3 := h.part f t c h1
    rw [hold t h3]; exact h3
   ·obtain ⟨rfl, rfl⟩ := Prod.mk.inj c
    rw [hts]; omega
  ·rw [g] at h1; omega
theorem RndI.next {E : List (Nat × Nat)} {n s : Nat} {o : List Int} {d j : Nat} (h : RndI E n s o d j) (hj : j = E.length) : RndI E n s o (d + 1) 0 := by
 refine ⟨h.len, h.inn, h.st, h.lo, fun v => by have := h.hi v; omega, fun _ v => by have := h.hi v; omega, h.wk, h.dn, fun f t hft h1 h2 => ?_, fun f t ht => by simp at ht⟩
 rcases Int.lt_or_le (oa o f) d with g | g
 ·exact h.done f t hft h1 g
 ·have e : oa o f = d := by omega
  have := h.part f t (by rw [hj, List.take_length]; exact hft) e
  have := h.hi t
  omega
theorem down_all {o : List Int} (hdn : ∀ (v : Nat) (k : Nat), oa o v = (k : Int) + 1 → ∃ f, oa o f = (k : Int)) : ∀ (k : Nat), (∃ v, oa o v = (k : Int)) → ∀ i, i ≤ k → ∃ v, oa o v = (i : Int)
  | 0, h, i, hi => by obtain rfl : i = 0 := by omega
                      exact h
  | k + 1, ⟨v, hv⟩, i, hi => by
    rcases Nat.lt_or_ge i (k + 1) with g | g
    · exact down_all hdn k (hdn v k (by omega)) i (by omega)
    · obtain rfl : i = k + 1 := by omega
      exact ⟨v, hv⟩
theorem few_all : ∀ (k : Nat) (o : List Int), (∀ i, i < k → ((i : Nat) : Int) ∈ o) → k ≤ o.length
 | 0, o, _ => Nat.zero_le _
 | k + 1, o, h => by
  have h1 := h k (by omega)
  have ih := few_all k (o.erase (k : Int)) (fun i hi => (List.mem_erase_of_ne (by omega)).2 (h i (by omega)))
  have h2 := List.length_erase_of_mem h1
  have := List.length_pos_of_mem h1
  omega
theorem RndI.dist {E : List (Nat × Nat)} {n s : Nat} {o : List Int} (h : RndI E n s o n 0) : DistOf E n s o := by
 refine ⟨h.len, h.st, h.lo, h.wk, fun f t he hf => h.done f t he hf ?_⟩
 have hall := down_all h.dn (oa o f).toNat ⟨f, by omega⟩
 have := few_all ((oa o f).toNat + 1) o (fun i hi => by
  obtain ⟨v, hv⟩ := hall i (by omega)
  have hl := oa_lt (o := o) (v := v) (by omega)
  rw [oa_get hl] at hv
  rw [← hv]; exact List.getElem_mem hl)
 rw [h.len] at this
 omega
def edgesR (x : Ex) : List (Nat × Nat) := x.moves.map fun v => (v.from_.toNat, v.to_.toNat)
theorem edgesR_in {x : Ex} (h : ∀ v, v ∈ x.moves → (0 ≤ v.from_ ∧ v.from_ < x.marks.length) ∧ 0 ≤ v.to_ ∧ v.to_ < x.marks.length) : ∀ f t, (f, t) ∈ edgesR x → f < x.marks.length ∧ t < x.marks.length := by
 intro f t he
 obtain ⟨v, hv, e⟩ := List.mem_map.1 he
 obtain ⟨rfl, rfl⟩ := Prod.mk.inj e
 have := h v hv
 omega
theorem rnd_ex {E : List (Nat × Nat)} {n s : Nat} (hs : s < n) (hE : ∀ f t, (f, t) ∈ E → f < n ∧ t < n) : ∀ d, ∃ o, RndI E n s o d 0 := by
 intro d
 induction d with
 | zero => exact ⟨_, RndI.start hs hE⟩
 | succ d ih =>
  obtain ⟨o, ho⟩ := ih
  have : ∀ j, j ≤ E.length → ∃ o, RndI E n s o d j := by
   intro j
   induction j with
   | zero => intro _; exact ⟨o, ho⟩
   | succ j ihj =>
    intro hj
    obtain ⟨o', h'⟩ := ihj (by omega)
    by_cases q : oa o' E[j].1 = d ∧ oa o' E[j].2 < 0
    ·exact ⟨_, h'.yes (by omega) q.1 q.2⟩
    ·exact ⟨_, h'.no (by omega) q⟩
  obtain ⟨o', h'⟩ := this E.length (Nat.le_refl _)
  exact ⟨o', h'.next rfl⟩
theorem dist_ex {E : List (Nat × Nat)} {n s : Nat} (hs : s < n) (hE : ∀ f t, (f, t) ∈ E → f < n ∧ t < n) : DistOf E n s (distF E n s) := by
 obtain ⟨o, h⟩ := rnd_ex hs hE n
 exact h.dist.self
theorem Expl.reach {s : Stg} {x : Ex} (h : Expl s x) : ∀ (v : Nat), v < x.marks.length → ∃ k, Walk (edgesR x) 0 k v := by
 intro v
 induction v using Nat.strongRecOn with
 | ind v ih =>
  intro hv
  rcases Nat.eq_zero_or_pos v with rfl | hp
  ·exact ⟨0, .nil⟩
  ·obtain ⟨u, hu, hf⟩ := h.met v hp hv
   have hm := List.mem_of_find?_eq_some hu
   have ht := List.find?_some hu
   simp only [decide_eq_true_eq] at ht
   have hin := h.inn u hm
   obtain ⟨k, hk⟩ := ih u.from_.toNat (by omega) (by omega)
   refine ⟨k + 1, .step hk ?_⟩
   refine List.mem_map.2 ⟨u, hm, ?_⟩
   rw [ht]; rfl
theorem Expl.edges {s : Stg} {x : Ex} (h : Expl s x) : ∀ f t, (f, t) ∈ edgesR x → f < x.marks.length ∧ t < x.marks.length := edgesR_in fun v hv => by have := h.inn v hv; omega
theorem Expl.dist {s : Stg} {x : Ex} (h : Expl s x) : DistOf (edgesR x) x.marks.length 0 (distF (edgesR x) x.marks.length 0) := dist_ex (by have := h.n; omega) h.edges
theorem Expl.far {s : Stg} {x : Ex} (h : Expl s x) {v : Nat} (hv : v < x.marks.length) : 0 ≤ oa (distF (edgesR x) x.marks.length 0) v := by
 obtain ⟨k, hk⟩ := h.reach v hv
 exact (h.dist.walk hk).1
def posI (m : List UInt8) (l : List (List UInt8)) : Int := match posL m l with | some i => (i : Int) | none => -1
theorem posL_at {m : List UInt8} : ∀ {l : List (List UInt8)} {k : Nat} (hk : k < l.length), l[k] = m → (∀ j (hj : j < l.length), j < k → ¬ l[j] = m) → posL m l = some k
 | a :: l, 0, hk, h, _ => by rw [posL, if_pos (show m = a from h.symm)]
 | a :: l, k + 1, hk, h, hb => by
  have h0 := hb 0 (by simp) (by omega)
  rw [posL, if_neg (fun e => h0 e.symm), posL_at (k := k) (by simpa using hk) (by simpa using h) (fun j hj hjk => by have := hb (j + 1) (by simpa using hj) (by omega); simpa using this)]
  rfl
theorem posL_no {m : List UInt8} {l : List (List UInt8)} (h : ∀ j (hj : j < l.length), ¬ l[j] = m) : posL m l = none := posL_none.2 fun hm => by
 obtain ⟨j, hj, e⟩ := List.getElem_of_mem hm
 exact h j hj e
theorem posI_at {m : List UInt8} {l : List (List UInt8)} {k : Nat} (hk : k < l.length) (h : l[k] = m) (hb : ∀ j (hj : j < l.length), j < k → ¬ l[j] = m) : posI m l = (k : Int) := by unfold posI; rw [posL_at hk h hb]
theorem posI_no {m : List UInt8} {l : List (List UInt8)} (h : ∀ j (hj : j < l.length), ¬ l[j] = m) : posI m l = -1 := by unfold posI; rw [posL_no h]
set_option maxHeartbeats 1000000 in
theorem l4Find_spec (l : List (List UInt8)) (m : List UInt8) (hl : l.length ≤ 1000000) : ASpec Tryz.prog 132 [.d (.view 9 1 (tsX l)), aS (bstr m)] [] (Pure1 (aI (posI m l))) := by
 refine ASpec.of Tryz.func132 rfl rfl fun C hC => ?_
 refine AC.seq (AC.region ?_)
 refine za ?_
 refine AL.nil (th_n (AC.seq (AC.seq (AC.region ?_))))
 refine zm ?_
 refine AL.p (by exact g_len_view (k := l.length) rfl rfl (tsX_len _)) rfl ?_
 refine zm ?_
 refine AL.nil (th_n (AC.block ?_))
 refine AC.loop (ι := Nat) (fun k => ⟨19, 0, [(1, aS (bstr m)), (7, .d (.view 9 1 (tsX l))), (8, aI l.length), (9, aI k)], []⟩) (fun k => k ≤ l.length ∧ ∀ j (hj : j < l.length), j < k → ¬ l[j] = m) (fun k => l.length - k) (0) ?_ (⟨Nat.zero_le _, fun j _ hj => by omega⟩) ?_
 ·refine Weak.ren _ [] hC rfl ?_ ?_ rfl rfl rfl <;> repeat (first | exact True.intro | refine And.intro ?_ ?_ | exact DLead.same)
 ·intro k ⟨hk, hall⟩
  refine AC.seq (AC.region ?_)
  refine zc ?_
  refine AL.nil (th_n (AC.seq ?_))
  refine AC.condD rfl (fun h0 => ?_) (fun h0 => ?_)
  ·refine AC.skip (th_n (AC.seq (AC.block (AC.seq ?_))))
   have hk1 : k < l.length := by omega
   have hget := tsX_get hk1
   refine AC.region ?_
   refine zm ?_
   refine AL.p (by exact g_ia_view rfl rfl rfl rfl rfl (by rfl) (by assumption)) rfl ?_
   refine zr ?_
   refine za ?_
   refine za ?_
   refine AL.nil (th_n (AC.seq (AC.region ?_)))
   refine zm ?_
   refine zm ?_
   refine AL.p (by exact g_scmp rfl rfl rfl) rfl ?_
   refine AL.nil (th_n ?_)
   refine AC.condD rfl (fun h1 => ?_) (fun h1 => ?_)
   ·refine AC.seq (AC.region ?_)
    refine zm ?_
    refine za ?_
    refine AL.nil (th_n (AC.ret (ib_r (th_r (th_r (ib_r (th_r (bq_r ?_))))))))
    exact ret1 rfl (by rw [posI_at hk1 (bstr_inj (by assumption)) hall])
   ·refine AC.skip (ib_n (th_n (AC.region ?_)))
    refine zA ?_
    refine zm ?_
    refine AL.nil (th_n ?_)
    exact ⟨k + 1, ⟨by omega, fun j hj hj2 => by rcases Nat.lt_succ_iff_lt_or_eq.1 hj2 with h | rfl; exact hall j hj h; exact fun e => h1 (by rw [e])⟩, by omega, Weak.ren _ [] hC rfl (by repeat (first | exact True.intro | refine And.intro ?_ ?_ | exact DLead.same)) (by repeat (exact True.intro)) rfl rfl rfl⟩
  ·refine AC.exit (th_e (th_e (ib_y (th_n (AC.seq (AC.region ?_))))))
   refine za ?_
   refine AL.nil (th_n (AC.ret (bq_r ?_)))
   exact ret1 rfl (by rw [posI_no (fun j hj => hall j hj (by omega))])
theorem en_l4Find : Enters Tryz.prog 132 := enters_of Tryz.func132 rfl rfl
theorem ints_set (l : List Int) (i : Nat) (x : Int) : ints (l.set i x) = (ints l).set i [dI x] := by unfold ints; rw [List.map_set]
theorem posI_in (m : List UInt8) (l : List (List UInt8)) : -1 ≤ posI m l ∧ posI m l < l.length := by
 unfold posI
 split
 ·rename_i i h; have := posL_lt h; omega
 ·omega
abbrev stepL (E : List (Nat × Nat)) : List (List DV) := E.map fun e => [dI (e.1 : Int), dI (e.2 : Int)]
abbrev vSteps (E : List (Nat × Nat)) : DV := .view 138 2 (stepL E)
theorem stepL_len (E : List (Nat × Nat)) : (stepL E).length = E.length := List.length_map _
theorem stepL_get {E : List (Nat × Nat)} {k : Nat} (h : k < E.length) : (stepL E)[k]? = some [dI (E[k].1 : Int), dI (E[k].2 : Int)] := by rw [List.getElem?_map, List.getElem?_eq_getElem h]; rfl
theorem h_appendSt (acc new : List (Nat × Nat)) {s : ASt} {dst : Option Nat} {ty : Nat} {pos : String} {af : Array Edge} {gd : Option (Nat × Bool)} {x y : Operand} {f : Nat} {ids ids2 : List Nat} {gone : List (Nat × Option Chunk)}
  (hto : AppTo s x 138 2 (stepL acc) ids gone) (harg : AppArg s y 2 (stepL new) ids2) (h : (acc ++ new).length ≤ 100000000) (hnew : gone = [] → 0 < new.length) :
  NOp Tryz.prog (ids ++ ids2) s ⟨dst, .call { callee := .builtin .append, args := #[x, y], argTypes := #[132, 132] }, ty, pos, af, gd⟩ f ⟨.own f (acc ++ new).length, (f, some (.arr 138 2 (stepL (acc ++ new)))) :: gone⟩ := by
 have := h_append (P := Tryz.prog) (s := s) (dst := dst) (ty := ty) (pos := pos) (af := af) (gd := gd) (x := x) (y := y) (f := f) (t := 132) (tx := 132) (k := (acc ++ new).length) rfl rfl rfl rfl rfl rfl hto harg (by simp) (by omega) (by show (acc ++ new).length * 16 ≤ _; omega) (fun h => by rw [stepL_len]; exact hnew h)
 rwa [← List.map_append] at this
theorem ASpec.ofLibT {P : Program} {g : FuncId} {x y a b : Value} (ha0 : okV a) (hb0 : okV b) (h : ∀ w, Calls P g #[x, y] w fun e w' => e = .returned (.tuple #[a, b]) ∧ w' = w) : ASpec P g [.d (.val x), .d (.val y)] [] (Pure1 (.tup [.d (.val a), .d (.val b)])) := by
 intro w m Fin vs hfin hn ha hch hinj hm
 have h0 := ha 0 _ rfl
 have h1 := ha 1 _ rfl
 have hv : vs = #[x, y] := by
  apply Array.ext
  ·rw [hn]; rfl
  ·intro i hi1 hi2
   match i with
   | 0 => have := h0.val_eq.1; rw [Array.getD_eq_getD_getElem?, Array.getElem?_eq_getElem hi1] at this; simpa using this
   | 1 => have := h1.val_eq.1; rw [Array.getD_eq_getD_getElem?, Array.getElem?_eq_getElem hi1] at this; simpa using this
   | i + 2 => simp at hi2; omega
 subst hv
 refine (h w).mono ?_
 rintro e w' ⟨rfl, rfl⟩
 refine ⟨_, _, [], m, Fin, rfl, ⟨rfl, rfl⟩, fun _ _ _ h => h, fun id hid => hm id (by simp only [List.length_nil] at hid ⊢; omega), fun k => ?_, ⟨rfl, rfl, rfl, Nat.le_refl _, fun _ _ _ => rfl⟩, .tup rfl (fun i c hc => ?_), fun id c hc => by simp [getL] at hc, fun id id' c c' p p' b hc => by simp [getL] at hc⟩
 ·constructor
  ·intro hk
   exact ⟨.inl hk, (hfin k hk).1, fun id c p hc => by simp [getL] at hc⟩
  ·rintro ⟨h | ⟨id, c, p, hc, _⟩ | h, hlt, _⟩
   ·exact h
   ·simp [getL] at hc
   ·omega
 ·match i, hc with
  | 0, hc => simp only [List.getElem?_cons_zero, Option.some.injEq] at hc; subst hc; exact .d (.val ha0)
  | 1, hc => simp only [List.getElem?_cons_succ, List.getElem?_cons_zero, Option.some.injEq] at hc; subst hc; exact .d (.val hb0)
end Go.Proofs.YthafkkgmekgmoaaGreat
namespace Go.Proofs
open Go.Shelf
def Tryz.lays212_ren : Go.Shelf.Ren := ⟨fun | 212 => 242 | 263 => 257 | 264 => 258 | n => n, fun | 46 => 235 | 51 => 249 | 146 => 250 | 53 => 110 | 148 => 252 | n => n, fun | n => n⟩
theorem Tryz.lays212 : Go.Proofs.Lays.n212 Tryz.prog Tryz.lays212_ren := {
 mixed := by kernel_rfl
 f212 := Tryz.func242.trans (congrArg some (by kernel_rfl))
 f263 := Tryz.func257.trans (congrArg some (by kernel_rfl))
 f264 := Tryz.func258.trans (congrArg some (by kernel_rfl))
 t46 := Tryz.underlying235
 a46 := Tryz.isAgg235
 z46 := Tryz.sizeOf235
 v46 := Tryz.zeroValue235
 t51 := Tryz.underlying249
 a51 := Tryz.isAgg249
 z51 := Tryz.sizeOf249
 v51 := Tryz.zeroValue249
 t53 := Tryz.underlying110
 a53 := Tryz.isAgg110
 z53 := Tryz.sizeOf110
 v53 := Tryz.zeroValue110
 t146 := Tryz.underlying250
 a146 := Tryz.isAgg250
 z146 := Tryz.sizeOf250
 v146 := Tryz.zeroValue250
 t148 := Tryz.underlying252
 a148 := Tryz.isAgg252
 z148 := Tryz.sizeOf252
 v148 := Tryz.zeroValue252 }
open Go.RowKit Go.Lib in
theorem Tryz.bits_Mul (x y : Nat) (hx : x < 18446744073709551616) (hy : y < 18446744073709551616) (w : World) :
  Calls Tryz.prog 242 #[.int .u64 x, .int .u64 y] w fun e w' => e = .returned (.tuple #[.int .u64 ((x * y / 18446744073709551616 : Nat) : Int), .int .u64 ((x * y % 18446744073709551616 : Nat) : Int)]) ∧ w' = w := Any.bits_Mul Tryz.lays212 x y hx hy w
end Go.Proofs
