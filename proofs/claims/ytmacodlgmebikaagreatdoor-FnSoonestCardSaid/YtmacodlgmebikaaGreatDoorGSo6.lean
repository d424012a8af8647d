/- Contracts of the functions of the program and of the reference, each proved by a walk through its code. -/
import Derived.Lib.SliceRun
import Derived.Laws.RangeString
import Derived.Lib.LaidTab
import Derived.ChangeSame
import Derived.ChangeVars
import Derived.JoinedOf
import Derived.RowKit
import Derived.RowKitTokens
import Derived.LaidLaws
import Derived.LaidHandle
import Derived.Stop.Joined
import Derived.MakeChecks
import Derived.SevenTiedAt
import Derived.Stop.LaidErr
import Derived.WalkKit
import Derived.WalkSpells
import Derived.WalkLawsBesides
import Derived.Deep.Draws
import Derived.Lib.Hide
import Derived.Maps.AppendAt
import Derived.OwnWalk
import Derived.Deep.MidRow
import Derived.Laws.ResultCell
import Derived.Deep.Upon
import Derived.Great.FillDense
import Derived.Laws.Tables
import Derived.Laws.BytesArg
import Derived.Laws.MakeOwn
import Derived.Great.BuildSlice
import Derived.ArgAppend
import Derived.Deep.AppendSrc
import Derived.Test.YtmacodlgmebikaaGreatDoorProg
import Derived.KernelRfl
import Derived.Orders
import Derived.Laws.IdiomStrings
import Derived.Lib.AppendZerosOnto
import Derived.ProofKit
import Derived.OpenShut
import Derived.Laws.StructEq
import Derived.ChangeKeysEq
import Derived.Laws.IdiomCopy
import Derived.Shelf.Strings.Builder1
import Derived.Shelf.Strings.Builder2
import Derived.Shelf.Strings.OnBuilder
import Derived.Shelf.Strconv.Itoa0
import Derived.Shelf.Strconv.Itoa1
import Derived.Shelf.LaysM
import Derived.Shelf.Strconv.Itoa2
import Derived.Shelf.Strconv.Itoa3
import Derived.Shelf.Bits.Mul64
import Derived.Test.YtmacodlgmebikaaGreatDoorRows
import Derived.Sort.Grow
import Derived.Below
import Derived.Laws.Small
import Derived.Test.YtmacodlgmebikaaGreatDoorGSo5
set_option linter.all false
set_option maxRecDepth 20000
namespace Go.Proofs.YtmacodlgmebikaaGreatDoor
open Go.RowKit
theorem unionR_no {a b : Net} (h : (goodN a && goodN b) = false) : unionR a b = (noNet, false) := by unfold unionR; rw [h]; rfl
theorem unionR_yes {a b : Net} (h : (goodN a && goodN b) = true) : unionR a b = (netOf (unionN a b), goodN (unionN a b)) := by unfold unionR; rw [h]; rfl
set_option maxHeartbeats 4000000 in
theorem sUnion_spec (a b : Net) (ha : NetB a) (hb : NetB b) : ASpec Tryz.prog 89 [netA a, netA b] [] (Pure1 (.tup [netA (unionR a b).1, aT (unionR a b).2])) := by
 have hap := ha.p
 have hbp := hb.p
 have hl1 := ha.l
 have hl2 := hb.l
 refine ASpec.of Tryz.func89 rfl rfl fun C hC => ?_
 refine AC.seq (AC.region ?_)
 refine AL.q (by exact h_boxF rfl rfl) rfl ?_
 refine AL.q (by exact h_boxF rfl rfl) rfl ?_
 refine AL.q (by exact h_alloc rfl) rfl ?_
 refine AL.p (by exact as1 rfl) rfl ?_
 refine AL.nil (th_n (AC.seq (AC.seq (AC.region ?_))))
 refine AL.p (by exact g_load_refN rfl rfl rfl rfl) rfl ?_
 refine AL.q (by exact h_pure en_l1Good rfl rfl (by repeat (first | exact rfl | exact DLead.same | refine ⟨_, _, rfl, ?_, ?_⟩ | refine ⟨_, rfl, ?_⟩)) (l1Good_spec _ (by assumption)) rfl) rfl ?_
 refine AL.p (by exact g_not rfl) rfl ?_
 refine AL.p (by exact mv1 rfl) rfl ?_
 refine AL.caseGB rfl rfl (fun h0 => ?_) (fun h0 => ?_)
 ·refine AL.not rfl rfl rfl rfl rfl ?_
  refine AL.not rfl rfl rfl rfl rfl ?_
  refine AL.not rfl rfl rfl rfl rfl ?_
  refine AL.p (by exact g_pickT (r := .d _) rfl rfl) rfl ?_
  refine AL.nil (th_n ?_)
  refine AC.condT rfl ?_
  refine AC.seq (AC.region ?_)
  refine AL.p (by exact g_build rfl rfl rfl) rfl ?_
  refine AL.q (by exact h_store rfl rfl rfl rfl rfl rfl) rfl ?_
  refine AL.p (by exact as1 rfl) rfl ?_
  refine AL.nil (th_n (AC.ret (th_r (bq_r ?_))))
  (have h : (goodN a && goodN b) = false := (by rw [(Bool.not_eq_true' _).mp h0]; rfl); rw [unionR_no h]; exact ret0 rfl (by repeat (first | exact DLead.same | exact DLead.nil | exact rfl | refine ⟨_, rfl, ?_⟩ | refine ⟨_, _, rfl, ?_, ?_⟩)))
 ·refine AL.yes rfl rfl rfl ?_
  refine AL.p (by exact g_load_refN rfl rfl rfl rfl) rfl ?_
  refine AL.yes rfl rfl rfl ?_
  refine AL.q (by exact h_pure en_l1Good rfl rfl (by repeat (first | exact rfl | exact DLead.same | refine ⟨_, _, rfl, ?_, ?_⟩ | refine ⟨_, rfl, ?_⟩)) (l1Good_spec _ (by assumption)) rfl) rfl ?_
  refine AL.yes rfl rfl rfl ?_
  refine AL.p (by exact g_not rfl) rfl ?_
  refine AL.p (by exact g_pickF (r := .d _) rfl rfl) rfl ?_
  refine AL.nil (th_n ?_)
  refine AC.condB rfl (fun h1 => ?_) (fun h1 => ?_)
  ·refine AC.seq (AC.region ?_)
   refine AL.p (by exact g_build rfl rfl rfl) rfl ?_
   refine AL.q (by exact h_store rfl rfl rfl rfl rfl rfl) rfl ?_
   refine AL.p (by exact as1 rfl) rfl ?_
   refine AL.nil (th_n (AC.ret (th_r (bq_r ?_))))
   (have h : (goodN a && goodN b) = false := (by rw [(Bool.not_eq_true' _).mp h1, Bool.and_false]); rw [unionR_no h]; exact ret0 rfl (by repeat (first | exact DLead.same | exact DLead.nil | exact rfl | refine ⟨_, rfl, ?_⟩ | refine ⟨_, _, rfl, ?_, ?_⟩)))
  ·refine AC.skip (th_n (AC.seq ?_))
   have h0' : goodN a = true := by simpa using h0
   have h1' : goodN b = true := by simpa using h1
   have hp1 := good_places h0'
   have hp2 := good_places h1'
   refine AC.region ?_
   refine AL.p (by exact g_load_refN rfl rfl rfl rfl) rfl ?_
   refine AL.q (by exact h_fun (cs := []) en_l1OwnN rfl rfl (by repeat (first | exact rfl | exact DLead.same | refine ⟨_, _, rfl, ?_, ?_⟩ | refine ⟨_, rfl, ?_⟩)) (by repeat (exact True.intro)) (l1OwnN_spec a ha) rfl rfl rfl rfl) rfl ?_
   refine AL.q (by exact h_alloc rfl) rfl ?_
   refine AL.q (by exact h_store rfl rfl rfl rfl rfl rfl) rfl ?_
   refine AL.nil (th_n (AC.seq (AC.region ?_)))
   refine AL.p (by exact g_fa_ptr rfl rfl rfl rfl rfl) rfl ?_
   refine AL.p (by exact g_load_ptr rfl rfl rfl rfl rfl) rfl ?_
   refine AL.p (by exact g_fa_ref rfl rfl rfl rfl rfl rfl) rfl ?_
   refine AL.p (by exact g_load_ref rfl rfl rfl) rfl ?_
   refine AL.p (by exact g_arith rfl rfl rfl (by exact wrap_i64 (by omega))) rfl ?_
   refine AL.p (by exact g_fa_ptr rfl rfl rfl rfl rfl) rfl ?_
   refine AL.q (by exact h_store rfl rfl rfl rfl rfl rfl) rfl ?_
   refine AL.nil (th_n (AC.seq (AC.seq (AC.region ?_))))
   refine AL.p (by exact g_fa_ref rfl rfl rfl rfl rfl rfl) rfl ?_
   refine AL.p (by exact g_load_ref rfl rfl rfl) rfl ?_
   refine AL.p (by exact g_len_view rfl rfl (by exact List.length_map _)) rfl ?_
   refine AL.p (by exact mv1 rfl) rfl ?_
   refine AL.nil (th_n (AC.block ?_))
   refine AC.loop (ι := Nat) (fun k => ⟨55, 128, [(2, .d (.ref (netD a))), (4, .ptr 102 0), (6, .ptr 100 0), (27, .d (vTs b.ts)), (28, aI b.ts.length), (29, aI k)], [(100, some (.cells 25 [aI (a.places + b.places), .own 101 (a.ts.length + k)])), (101, some (.arr 121 2 (tsL (a.ts ++ (b.ts.take k).map (shT a.places))))), (102, some (.cells 25 [aI 0, .d (.val (.slice none 0 0))]))]⟩) (fun k => k ≤ b.ts.length) (fun k => b.ts.length - k) (0) ?_ (Nat.zero_le _) ?_
   ·exact Weak.ren _ [(100, _), (101, _), (102, _)] hC rfl (by repeat (first | exact True.intro | refine And.intro ?_ ?_ | exact DLead.same | exact rfl | refine ⟨_, rfl, ?_⟩)) (by rw [show a.ts ++ (b.ts.take 0).map (shT a.places) = a.ts from List.append_nil _]; repeat (first | exact True.intro | refine And.intro ?_ ?_ | exact DLead.same | exact rfl | refine ⟨_, _, rfl, rfl, ?_⟩ | refine ⟨_, rfl, ?_⟩ | refine ⟨_, _, rfl, ?_, ?_⟩)) rfl rfl rfl
   ·intro k hk
    refine AC.seq (AC.region ?_)
    refine AL.p (by exact g_cmp rfl rfl rfl) rfl ?_
    refine AL.nil (th_n (AC.seq ?_))
    refine AC.condD rfl (fun h2 => ?_) (fun h2 => ?_)
    ·refine AC.skip (th_n (AC.seq (AC.block (AC.seq ?_))))
     have hk1 : k < b.ts.length := by omega
     have hget := tsL_get hk1
     have hl3 := (hb.t _ (List.getElem_mem hk1)).1
     have hl4 := (hb.t _ (List.getElem_mem hk1)).2
     have hr1 := (good_far h1' _ (List.getElem_mem hk1)).1
     have hr2 := (good_far h1' _ (List.getElem_mem hk1)).2
     have htl : (a.ts ++ (b.ts.take k).map (shT a.places)).length = a.ts.length + k := by rw [List.length_append, takeM_len hk]
     refine AC.region ?_
     refine AL.p (by exact g_ia_view rfl rfl rfl rfl rfl (by rfl) (by assumption)) rfl ?_
     refine AL.p (by exact g_load_refN rfl rfl rfl rfl) rfl ?_
     refine AL.q (by exact h_alloc rfl) rfl ?_
     refine AL.q (by exact h_store rfl rfl rfl rfl rfl rfl) rfl ?_
     refine AL.nil (th_n ?_)
     refine AC.drawn' mixed_ok [[], [0], [], [2], [], [4], [2,3,4,5], [], [7], [], [9], [2,3,4,5,6,7,8,9,10], [2,3,4,5,6,7,8,9,10,11], [2,3,4,5,6,7,8,9,10,11,12], [0,1,2,3,4,5,6,7,8,9,10,11,12,13], [0,1,2,3,4,5,6,7,8,9,10,11,12,13,14], [0,1,2,3,4,5,6,7,8,9,10,11,12,13,14,15]] (by decide) ?_
     refine DF.op 0 [] 17 rfl rfl rfl (.free rfl (NOp.of (by exact g_fa_ptr rfl rfl rfl rfl rfl))) rfl ?_
     refine DF.op 1 [0] 17 rfl rfl rfl (.free rfl (NOp.of (by exact g_load_ptr rfl rfl rfl rfl rfl))) rfl ?_
     refine DF.op 2 [] 17 rfl rfl rfl (.free rfl (NOp.of (by exact g_fa_ptr rfl rfl rfl rfl rfl))) rfl ?_
     refine DF.op 3 [2] 17 rfl rfl rfl (.free rfl (NOp.of (by exact g_load_ptr rfl rfl rfl rfl rfl))) rfl ?_
     refine DF.op 4 [] 17 rfl rfl rfl (.free rfl (NOp.of (by exact g_fa_ref rfl rfl rfl rfl rfl rfl))) rfl ?_
     refine DF.op 5 [4] 17 rfl rfl rfl (.free rfl (NOp.of (by exact g_load_ref rfl rfl rfl))) rfl ?_
     refine DF.op 6 [2,3,4,5] 17 rfl rfl rfl (.free rfl (by exact h_pure en_l1Shift rfl rfl (by repeat (first | exact rfl | exact DLead.same | refine ⟨_, _, rfl, ?_, ?_⟩)) (l1Shift_spec _ _ (by assumption) (by assumption) (by assumption)) rfl)) rfl ?_
     refine DF.op 7 [] 17 rfl rfl rfl (.free rfl (NOp.of (by exact g_fa_ptr rfl rfl rfl rfl rfl))) rfl ?_
     refine DF.op 8 [7] 17 rfl rfl rfl (.free rfl (NOp.of (by exact g_load_ptr rfl rfl rfl rfl rfl))) rfl ?_
     refine DF.op 9 [] 17 rfl rfl rfl (.free rfl (NOp.of (by exact g_fa_ref rfl rfl rfl rfl rfl rfl))) rfl ?_
     refine DF.op 10 [9] 17 rfl rfl rfl (.free rfl (NOp.of (by exact g_load_ref rfl rfl rfl))) rfl ?_
     refine DF.op 11 [2,3,4,5,6,7,8,9,10] 17 rfl rfl rfl (.free rfl (by exact h_pure en_l1Shift rfl rfl (by repeat (first | exact rfl | exact DLead.same | refine ⟨_, _, rfl, ?_, ?_⟩)) (l1Shift_spec _ _ (by assumption) (by assumption) (by assumption)) rfl)) rfl ?_
     refine DF.op 12 [2,3,4,5,6,7,8,9,10,11] 17 rfl rfl rfl (.free rfl (NOp.of (by exact g_build rfl rfl rfl))) rfl ?_
     refine DF.op 13 [2,3,4,5,6,7,8,9,10,11,12] 17 rfl rfl rfl (.free rfl (by exact h_litF rfl rfl rfl rfl rfl rfl rfl rfl)) rfl ?_
     refine DF.op 14 (List.range 14) 17 rfl rfl rfl (.free rfl (by exact h_appendT (a.ts ++ (b.ts.take k).map (shT a.places)) [shT a.places b.ts[k]] (.own rfl rfl (by rw [tsL_len, htl])) (.view rfl) (by rw [List.length_append, htl]; show a.ts.length + k + 1 ≤ _; omega) (by simp))) rfl ?_
     refine DF.op 15 (List.range 15) 17 rfl rfl rfl (.free rfl (NOp.of (by exact g_fa_ptr rfl rfl rfl rfl rfl))) rfl ?_
     refine DF.op 16 (List.range 16) 17 rfl rfl rfl (.free rfl (by exact h_store rfl rfl rfl rfl rfl rfl)) rfl ?_
     refine DF.fin (ps := [(0,2),(0,3),(0,4),(0,5),(0,6),(0,7),(0,8),(0,9),(0,10),(0,11),(0,12),(0,13),(1,2),(1,3),(1,4),(1,5),(1,6),(1,7),(1,8),(1,9),(1,10),(1,11),(1,12),(1,13),(2,0),(2,1),(2,4),(2,5),(2,7),(2,8),(2,9),(2,10),(3,0),(3,1),(3,4),(3,5),(3,7),(3,8),(3,9),(3,10),(4,0),(4,1),(4,2),(4,3),(4,7),(4,8),(4,9),(4,10),(5,0),(5,1),(5,2),(5,3),(5,7),(5,8),(5,9),(5,10),(6,0),(6,1),(6,7),(6,8),(6,9),(6,10),(7,0),(7,1),(7,2),(7,3),(7,4),(7,5),(7,6),(7,9),(7,10),(8,0),(8,1),(8,2),(8,3),(8,4),(8,5),(8,6),(8,9),(8,10),(9,0),(9,1),(9,2),(9,3),(9,4),(9,5),(9,6),(9,7),(9,8),(10,0),(10,1),(10,2),(10,3),(10,4),(10,5),(10,6),(10,7),(10,8),(11,0),(11,1),(12,0),(12,1),(13,0),(13,1)]) 17 rfl (by decide +kernel) (by decide +kernel) (by rfl) ?_
     refine ib_n (th_n (AC.region ?_))
     refine AL.p (by exact g_arith rfl rfl rfl (by exact wrap_i64 (by omega))) rfl ?_
     refine AL.p (by exact mv1 rfl) rfl ?_
     refine AL.nil (th_n ?_)
     have hl5 : (a.ts ++ (b.ts.take k).map (shT a.places) ++ [shT a.places b.ts[k]]).length = a.ts.length + (k + 1) := by rw [List.length_append, htl]; rfl
     have e6 : a.ts ++ (b.ts.take (k + 1)).map (shT a.places) = a.ts ++ (b.ts.take k).map (shT a.places) ++ [shT a.places b.ts[k]] := by rw [takeM hk1, List.append_assoc]
     exact ⟨k + 1, by omega, by omega, Weak.ren _ [(100, _), (101, _), (102, _)] hC rfl (by repeat (first | exact True.intro | refine And.intro ?_ ?_ | exact DLead.same | exact rfl | refine ⟨_, rfl, ?_⟩)) (by rw [e6, ← hl5]; repeat (first | exact True.intro | refine And.intro ?_ ?_ | exact DLead.same | exact rfl | refine ⟨_, _, rfl, rfl, ?_⟩ | refine ⟨_, rfl, ?_⟩ | refine ⟨_, _, rfl, ?_, ?_⟩)) rfl rfl rfl⟩
    ·refine AC.exit (th_e (th_e (ib_y (th_n (AC.seq (AC.seq ?_))))))
     have hkk : k = b.ts.length := by omega
     subst hkk
     rw [List.take_length]
     refine AC.weak (Weak.freezeP (els' := tsL (unionN a b).ts) 6 1 rfl rfl rfl rfl (by rw [tsL_len, List.length_append, List.length_map]; exact Nat.le_refl _) (List.take_of_length_le (by rw [tsL_len, List.length_append, List.length_map]; exact Nat.le_refl _)) rfl) ?_
     have hG := l1Good_spec (unionN a b) (unionN_B ha hb h0' h1')
     have hRR := unionR_yes (a := a) (b := b) (by rw [h0', h1']; rfl)
     refine AC.region ?_
     refine AL.p (by exact g_load_ptrN rfl rfl rfl rfl rfl) rfl ?_
     refine AL.q (by exact h_pure en_l1Good rfl rfl (by repeat (first | exact rfl | exact DLead.same | refine ⟨_, _, rfl, ?_, ?_⟩ | refine ⟨_, rfl, ?_⟩)) hG rfl) rfl ?_
     refine AL.p (by exact g_not rfl) rfl ?_
     refine AL.nil (th_n ?_)
     refine AC.condB rfl (fun h3 => ?_) (fun h3 => ?_)
     ·refine AC.seq (AC.region ?_)
      refine AL.p (by exact g_build rfl rfl rfl) rfl ?_
      refine AL.q (by exact h_store rfl rfl rfl rfl rfl rfl) rfl ?_
      refine AL.p (by exact as1 rfl) rfl ?_
      refine AL.nil (th_n (AC.ret (th_r (bq_r ?_))))
      have h : goodN (unionN a b) = false := by simpa using h3
      rw [hRR, netOf, h, if_neg Bool.false_ne_true]
      exact ret0 rfl (by repeat (first | exact DLead.same | exact DLead.nil | exact rfl | refine ⟨_, rfl, ?_⟩ | refine ⟨_, _, rfl, ?_, ?_⟩))
     ·refine AC.skip (th_n (AC.seq (AC.region ?_)))
      refine AL.p (by exact g_load_ptrN rfl rfl rfl rfl rfl) rfl ?_
      refine AL.q (by exact h_store rfl rfl rfl rfl rfl rfl) rfl ?_
      refine AL.p (by exact as1 rfl) rfl ?_
      refine AL.nil (th_n (AC.ret (bq_r ?_)))
      have h : goodN (unionN a b) = true := by simpa using h3
      rw [hRR, netOf, h, if_pos rfl]
      exact ret0 rfl (by repeat (first | exact DLead.same | exact rfl | refine ⟨_, rfl, ?_⟩ | refine ⟨_, _, rfl, ?_, ?_⟩))
theorem en_sUnion : Enters Tryz.prog 89 := enters_of Tryz.func89 rfl rfl
def shLab (n : Nat) (x : Lab) : Lab := if 0 ≤ x.sig then ⟨x.sig + n, x.up⟩ else x
def zS : Stg := ⟨⟨0, []⟩, [], [], []⟩
def unionT (a b : Stg) : Stg := ⟨(unionR a.net b.net).1, a.sigs ++ b.sigs, a.labs ++ b.labs.map (shLab a.sigs.length), a.start ++ b.start⟩
def unionS (a b : Stg) : Stg × Bool := if ((unionR a.net b.net).2 && (goodS a && goodS b)) && goodS (unionT a b) then (unionT a b, true) else (zS, false)
structure StgB (s : Stg) : Prop where
 n : NetB s.net
 sg : s.sigs.length ≤ 100000
 sn : ∀ t, t ∈ s.sigs → t.name.length ≤ 100000
 l : s.labs.length ≤ 100000
 lb : ∀ x, x ∈ s.labs → -1000000 ≤ x.sig ∧ x.sig ≤ 1000000
 st : s.start.length ≤ 100000
theorem StgB.L {s : Stg} (h : StgB s) : StgL s := ⟨h.n.L, by have := h.sg; omega, fun t ht => by have := h.sn t ht; omega, by have := h.l; omega, by have := h.st; omega⟩
theorem takeLab {f : Lab → Lab} {l : List Lab} {k : Nat} (hk : k < l.length) : (l.take (k + 1)).map f = (l.take k).map f ++ [f l[k]] := by
 rw [List.take_add_one, List.getElem?_eq_getElem hk, List.map_append]; rfl
abbrev stgQ (s : Stg) (j k : Nat) : AV := .agg [aI s.net.places, .d (vTs s.net.ts), .own j s.sigs.length, .own k s.labs.length, aS (bstr s.start)]
set_option maxHeartbeats 8000000 in
theorem sUnionSTGs_own (a b : Stg) (ha : StgB a) (hb : StgB b) (hT : NetL (unionR a.net b.net).1) (hok : (unionS a b).2 = true) : ASpec Tryz.prog 59 [stgA a, stgA b] [] (Fun1 (.tup [stgQ (unionT a b) 0 1, aT true]) [(0, .arr 80 2 (sigsL (unionT a b).sigs)), (1, .arr 65 2 (labsL (unionT a b).labs))]) := by
 have hU := sUnion_spec a.net b.net ha.n hb.n
 have hGa := l2Good_spec a ha.L
 have hGb := l2Good_spec b hb.L
 have hcond : (((unionR a.net b.net).2 && (goodS a && goodS b)) && goodS (unionT a b)) = true := by
  unfold unionS at hok
  split at hok
  ·assumption
  ·cases hok
 simp only [Bool.and_eq_true] at hcond
 obtain ⟨⟨hc1, hc2, hc3⟩, hc4⟩ := hcond
 rw [hc2] at hGa
 rw [hc3] at hGb
 rw [hc1] at hU
 have hsa := ha.sg
 have hsb := hb.sg
 have hla := ha.l
 have hlb := hb.l
 have hta := ha.st
 have htb := hb.st
 have hGt := l2Good_spec (unionT a b) ⟨hT, by show (a.sigs ++ b.sigs).length ≤ _; rw [List.length_append]; omega, (fun t ht => by
  rcases List.mem_append.1 ht with h | h
  ·have := ha.sn t h; omega
  ·have := hb.sn t h; omega), by show (a.labs ++ b.labs.map _).length ≤ _; rw [List.length_append, List.length_map]; omega, by show (a.start ++ b.start).length ≤ _; rw [List.length_append]; omega⟩
 rw [hc4] at hGt
 have hU1 : unionT a b = ⟨(unionR a.net b.net).1, a.sigs ++ b.sigs, a.labs ++ b.labs.map (shLab a.sigs.length), a.start ++ b.start⟩ := rfl
 obtain ⟨U, hUU⟩ : ∃ U, U = (unionR a.net b.net).1 := ⟨_, rfl⟩
 rw [← hUU] at hU hU1
 obtain ⟨T, hTT⟩ : ∃ T, T = unionT a b := ⟨_, rfl⟩
 rw [← hTT] at hGt hU1 ⊢
 clear hTT hUU hT hok
 refine ASpec.of Tryz.func59 rfl rfl fun C hC => ?_
 refine AC.seq (AC.region ?_)
 refine AL.q (by exact h_boxF rfl rfl) rfl ?_
 refine AL.q (by exact h_boxF rfl rfl) rfl ?_
 refine AL.q (by exact h_alloc rfl) rfl ?_
 refine AL.p (by exact as1 rfl) rfl ?_
 refine AL.nil (th_n (AC.seq (AC.region ?_)))
 refine AL.p (by exact g_fa_ref rfl rfl rfl rfl rfl rfl) rfl ?_
 refine AL.p (by exact g_load_refN rfl rfl rfl rfl) rfl ?_
 refine AL.p (by exact g_fa_ref rfl rfl rfl rfl rfl rfl) rfl ?_
 refine AL.p (by exact g_load_refN rfl rfl rfl rfl) rfl ?_
 refine AL.q (by exact h_pure en_sUnion rfl rfl (by repeat (first | exact rfl | exact DLead.same | refine ⟨_, _, rfl, ?_, ?_⟩ | refine ⟨_, rfl, ?_⟩)) hU rfl) rfl ?_
 refine AL.p (by exact mv5 rfl) rfl ?_
 refine AL.p (by exact g_extract (r := .agg _) rfl rfl) rfl ?_
 refine AL.p (by exact g_extract (r := .d _) rfl rfl) rfl ?_
 refine AL.q (by exact h_alloc rfl) rfl ?_
 refine AL.q (by exact h_store rfl rfl rfl rfl rfl rfl) rfl ?_
 refine AL.p (by exact as1 rfl) rfl ?_
 refine AL.nil (th_n (AC.seq (AC.seq (AC.region ?_))))
 refine AL.p (by exact mv1 rfl) rfl ?_
 refine AL.p (by exact g_not rfl) rfl ?_
 refine AL.p (by exact mv1 rfl) rfl ?_
 refine AL.caseGB rfl rfl (fun h0 => ?_) (fun h0 => ?_)
 ·refine AL.not rfl rfl rfl rfl rfl ?_
  refine AL.not rfl rfl rfl rfl rfl ?_
  refine AL.not rfl rfl rfl rfl rfl ?_
  refine AL.p (by exact g_pickT (r := .d _) rfl rfl) rfl ?_
  refine AL.p (by exact mv1 rfl) rfl ?_
  refine AL.not rfl rfl rfl rfl rfl ?_
  refine AL.not rfl rfl rfl rfl rfl ?_
  refine AL.not rfl rfl rfl rfl rfl ?_
  refine AL.p (by exact g_pickT (r := .d _) rfl rfl) rfl ?_
  refine AL.nil (th_n ?_)
  refine AC.condT rfl ?_
  refine AC.seq ?_
  exfalso; simp_all
 ·refine AL.yes rfl rfl rfl ?_
  refine AL.p (by exact g_load_refN rfl rfl rfl rfl) rfl ?_
  refine AL.yes rfl rfl rfl ?_
  refine AL.q (by exact h_pure en_l2Good rfl rfl (by repeat (first | exact rfl | exact DLead.same | refine ⟨_, _, rfl, ?_, ?_⟩ | refine ⟨_, rfl, ?_⟩)) hGa rfl) rfl ?_
  refine AL.yes rfl rfl rfl ?_
  refine AL.p (by exact g_not rfl) rfl ?_
  refine AL.p (by exact g_pickF (r := .d _) rfl rfl) rfl ?_
  refine AL.p (by exact mv1 rfl) rfl ?_
  refine AL.caseGB rfl rfl (fun h1 => ?_) (fun h1 => ?_)
  ·refine AL.not rfl rfl rfl rfl rfl ?_
   refine AL.not rfl rfl rfl rfl rfl ?_
   refine AL.not rfl rfl rfl rfl rfl ?_
   refine AL.p (by exact g_pickT (r := .d _) rfl rfl) rfl ?_
   refine AL.nil (th_n ?_)
   refine AC.condT rfl ?_
   refine AC.seq ?_
   exfalso; simp_all
  ·refine AL.yes rfl rfl rfl ?_
   refine AL.p (by exact g_load_refN rfl rfl rfl rfl) rfl ?_
   refine AL.yes rfl rfl rfl ?_
   refine AL.q (by exact h_pure en_l2Good rfl rfl (by repeat (first | exact rfl | exact DLead.same | refine ⟨_, _, rfl, ?_, ?_⟩ | refine ⟨_, rfl, ?_⟩)) hGb rfl) rfl ?_
   refine AL.yes rfl rfl rfl ?_
   refine AL.p (by exact g_not rfl) rfl ?_
   refine AL.p (by exact g_pickF (r := .d _) rfl rfl) rfl ?_
   refine AL.nil (th_n ?_)
   refine AC.condB rfl (fun h2 => ?_) (fun h2 => ?_)
   ·refine AC.seq ?_
    exfalso; simp_all
   ·refine AC.skip (th_n (AC.seq ?_))
    refine AC.drawn' mixed_ok [[], [], [], [2], [1,2,3], [], [5], [1,2,3,4,5,6], [], [], [9], [1,2,3,4,5,6,7,8,9,10], [], [12], [], [14], [12,13,14,15], [0,1,2,3,4,5,6,7,8,9,10,11,12,13,14,15,16], [], [0,1,2,3,4,5,6,7,8,9,10,11,12,13,14,15,16,17,18]] (by decide) ?_
    refine DF.op 0 [] 20 rfl rfl rfl (.free rfl (NOp.of (by exact g_load_ptrN rfl rfl rfl rfl rfl))) rfl ?_
    refine DF.op 1 [] 20 rfl rfl rfl (.free rfl (by exact h_lit rfl rfl rfl rfl rfl rfl rfl rfl)) rfl ?_
    refine DF.op 2 [] 20 rfl rfl rfl (.free rfl (NOp.of (by exact g_fa_ref rfl rfl rfl rfl rfl rfl))) rfl ?_
    refine DF.op 3 [2] 20 rfl rfl rfl (.free rfl (NOp.of (by exact g_load_ref rfl rfl rfl))) rfl ?_
    refine DF.op 4 [1,2,3] 20 rfl rfl rfl (.free rfl (by exact h_appendSg [] a.sigs (.own rfl rfl rfl) (.view rfl) (by rw [List.nil_append]; omega) (by simp))) rfl ?_
    refine DF.op 5 [] 20 rfl rfl rfl (.free rfl (NOp.of (by exact g_fa_ref rfl rfl rfl rfl rfl rfl))) rfl ?_
    refine DF.op 6 [5] 20 rfl rfl rfl (.free rfl (NOp.of (by exact g_load_ref rfl rfl rfl))) rfl ?_
    refine DF.op 7 [1,2,3,4,5,6] 20 rfl rfl rfl (.free rfl (by exact h_appendSg a.sigs b.sigs (.own rfl rfl (sigsL_len _).symm) (.view rfl) (by rw [List.length_append]; omega) (by simp))) rfl ?_
    refine DF.op 8 [] 20 rfl rfl rfl (.free rfl (by exact h_lit rfl rfl rfl rfl rfl rfl rfl rfl)) rfl ?_
    refine DF.op 9 [] 20 rfl rfl rfl (.free rfl (NOp.of (by exact g_fa_ref rfl rfl rfl rfl rfl rfl))) rfl ?_
    refine DF.op 10 [9] 20 rfl rfl rfl (.free rfl (NOp.of (by exact g_load_ref rfl rfl rfl))) rfl ?_
    refine DF.op 11 [1,2,3,4,5,6,7,8,9,10] 20 rfl rfl rfl (.free rfl (by exact h_appendLx [] a.labs (.own rfl rfl rfl) (.view rfl) (by rw [List.nil_append]; omega) (by simp))) rfl ?_
    refine DF.op 12 [] 20 rfl rfl rfl (.free rfl (NOp.of (by exact g_fa_ref rfl rfl rfl rfl rfl rfl))) rfl ?_
    refine DF.op 13 [12] 20 rfl rfl rfl (.free rfl (NOp.of (by exact g_load_ref rfl rfl rfl))) rfl ?_
    refine DF.op 14 [] 20 rfl rfl rfl (.free rfl (NOp.of (by exact g_fa_ref rfl rfl rfl rfl rfl rfl))) rfl ?_
    refine DF.op 15 [14] 20 rfl rfl rfl (.free rfl (NOp.of (by exact g_load_ref rfl rfl rfl))) rfl ?_
    refine DF.op 16 [12,13,14,15] 20 rfl rfl rfl (.free rfl (NOp.of (by exact g_saddB (a := a.start) (b := b.start) rfl rfl (by omega)))) rfl ?_
    refine DF.op 17 (List.range 17) 20 rfl rfl rfl (.free rfl (NOp.of (by exact g_build rfl rfl rfl))) rfl ?_
    refine DF.op 18 [] 20 rfl rfl rfl (.free rfl (by exact h_alloc rfl)) rfl ?_
    refine DF.op 19 (List.range 19) 20 rfl rfl rfl (.free rfl (by exact h_store rfl rfl rfl rfl rfl rfl)) rfl ?_
    refine DF.fin (ps := [(0,1),(0,2),(0,3),(0,4),(0,5),(0,6),(0,7),(0,8),(0,9),(0,10),(0,11),(0,12),(0,13),(0,14),(0,15),(0,16),(0,18),(1,0),(1,2),(1,3),(1,5),(1,6),(1,8),(1,9),(1,10),(1,12),(1,13),(1,14),(1,15),(1,16),(1,18),(2,0),(2,1),(2,5),(2,6),(2,8),(2,9),(2,10),(2,12),(2,13),(2,14),(2,15),(2,16),(2,18),(3,0),(3,1),(3,5),(3,6),(3,8),(3,9),(3,10),(3,12),(3,13),(3,14),(3,15),(3,16),(3,18),(4,0),(4,5),(4,6),(4,8),(4,9),(4,10),(4,12),(4,13),(4,14),(4,15),(4,16),(4,18),(5,0),(5,1),(5,2),(5,3),(5,4),(5,8),(5,9),(5,10),(5,12),(5,13),(5,14),(5,15),(5,16),(5,18),(6,0),(6,1),(6,2),(6,3),(6,4),(6,8),(6,9),(6,10),(6,12),(6,13),(6,14),(6,15),(6,16),(6,18),(7,0),(7,8),(7,9),(7,10),(7,12),(7,13),(7,14),(7,15),(7,16),(7,18),(8,0),(8,1),(8,2),(8,3),(8,4),(8,5),(8,6),(8,7),(8,9),(8,10),(8,12),(8,13),(8,14),(8,15),(8,16),(8,18),(9,0),(9,1),(9,2),(9,3),(9,4),(9,5),(9,6),(9,7),(9,8),(9,12),(9,13),(9,14),(9,15),(9,16),(9,18),(10,0),(10,1),(10,2),(10,3),(10,4),(10,5),(10,6),(10,7),(10,8),(10,12),(10,13),(10,14),(10,15),(10,16),(10,18),(11,0),(11,12),(11,13),(11,14),(11,15),(11,16),(11,18),(12,0),(12,1),(12,2),(12,3),(12,4),(12,5),(12,6),(12,7),(12,8),(12,9),(12,10),(12,11),(12,14),(12,15),(12,18),(13,0),(13,1),(13,2),(13,3),(13,4),(13,5),(13,6),(13,7),(13,8),(13,9),(13,10),(13,11),(13,14),(13,15),(13,18),(14,0),(14,1),(14,2),(14,3),(14,4),(14,5),(14,6),(14,7),(14,8),(14,9),(14,10),(14,11),(14,12),(14,13),(14,18),(15,0),(15,1),(15,2),(15,3),(15,4),(15,5),(15,6),(15,7),(15,8),(15,9),(15,10),(15,11),(15,12),(15,13),(15,18),(16,0),(16,1),(16,2),(16,3),(16,4),(16,5),(16,6),(16,7),(16,8),(16,9),(16,10),(16,11),(16,18),(17,18),(18,0),(18,1),(18,2),(18,3),(18,4),(18,5),(18,6),(18,7),(18,8),(18,9),(18,10),(18,11),(18,12),(18,13),(18,14),(18,15),(18,16),(18,17)]) 20 rfl (by decide +kernel) (by decide +kernel) (by rfl) ?_
    refine th_n (AC.seq (AC.seq (AC.region ?_)))
    refine AL.p (by exact g_fa_ref rfl rfl rfl rfl rfl rfl) rfl ?_
    refine AL.p (by exact g_load_ref rfl rfl rfl) rfl ?_
    refine AL.p (by exact g_len_view rfl rfl (by exact List.length_map _)) rfl ?_
    refine AL.p (by exact mv1 rfl) rfl ?_
    refine AL.nil (th_n (AC.block ?_))
    refine AC.loop (ι := Nat) (fun k => ⟨79, 400, [(2, .d (.ref (stgD a))), (4, .ptr 201 0), (8, .ptr 200 0), (51, .d (vLabs b.labs)), (52, aI b.labs.length), (53, aI k)], [(200, some (.cells 29 [aI U.places, .d (vTs U.ts), .own 101 (a.sigs ++ b.sigs).length, .own 102 (a.labs ++ (b.labs.take k).map (shLab a.sigs.length)).length, aS (bstr (a.start ++ b.start))])), (101, some (.arr 80 2 (sigsL (a.sigs ++ b.sigs)))), (102, some (.arr 65 2 (labsL (a.labs ++ (b.labs.take k).map (shLab a.sigs.length))))), (201, some (.cells 29 zStg))]⟩) (fun k => k ≤ b.labs.length) (fun k => b.labs.length - k) (0) ?_ (Nat.zero_le _) ?_
    ·exact Weak.ren _ [(200, _), (101, _), (102, _), (201, _)] hC rfl (by repeat (first | exact True.intro | refine And.intro ?_ ?_ | exact DLead.same | exact rfl | refine ⟨_, rfl, ?_⟩)) (by rw [List.take_zero, List.map_nil, List.append_nil a.labs]; repeat (first | exact True.intro | refine And.intro ?_ ?_ | exact DLead.same | exact rfl | refine ⟨_, _, rfl, rfl, ?_⟩ | refine ⟨_, rfl, ?_⟩ | refine ⟨_, _, rfl, ?_, ?_⟩)) rfl rfl rfl
    ·intro k hk
     refine AC.seq (AC.region ?_)
     refine AL.p (by exact g_cmp rfl rfl rfl) rfl ?_
     refine AL.nil (th_n (AC.seq ?_))
     refine AC.condD rfl (fun h3 => ?_) (fun h3 => ?_)
     ·refine AC.skip (th_n (AC.seq (AC.block (AC.seq ?_))))
      have hk1 : k < b.labs.length := by omega
      have hget := labsL_get hk1
      have htk := takeLab (f := shLab a.sigs.length) hk1
      have hbd := hb.lb _ (List.getElem_mem hk1)
      have hacc : (a.labs ++ (b.labs.take k).map (shLab a.sigs.length)).length ≤ 300000 := by rw [List.length_append, List.length_map, List.length_take]; omega
      obtain ⟨acc, hac⟩ : ∃ acc, acc = a.labs ++ (b.labs.take k).map (shLab a.sigs.length) := ⟨_, rfl⟩
      have hnext : a.labs ++ (b.labs.take (k + 1)).map (shLab a.sigs.length) = acc ++ [shLab a.sigs.length b.labs[k]] := by rw [htk, ← List.append_assoc, ← hac]
      rw [← hac] at hacc ⊢
      have hsh : shLab a.sigs.length b.labs[k] = if 0 ≤ b.labs[k].sig then ⟨b.labs[k].sig + a.sigs.length, b.labs[k].up⟩ else b.labs[k] := rfl
      obtain ⟨x, hx⟩ : ∃ x, x = b.labs[k] := ⟨_, rfl⟩
      rw [← hx] at hget hbd hsh hnext
      refine AC.region ?_
      refine AL.p (by exact g_ia_view rfl rfl rfl rfl rfl (by rfl) (by assumption)) rfl ?_
      refine AL.p (by exact g_load_refN rfl rfl rfl rfl) rfl ?_
      refine AL.q (by exact h_alloc rfl) rfl ?_
      refine AL.q (by exact h_store rfl rfl rfl rfl rfl rfl) rfl ?_
      refine AL.nil (th_n ?_)
      refine AC.cut (fun (_ : Unit) => ⟨79, 600, [(2, .d (.ref (stgD a))), (4, .ptr 201 0), (8, .ptr 200 0), (10, .ptr 202 0), (51, .d (vLabs b.labs)), (52, aI b.labs.length), (53, aI k)], [(200, some (.cells 29 [aI U.places, .d (vTs U.ts), .own 101 (a.sigs ++ b.sigs).length, .own 102 acc.length, aS (bstr (a.start ++ b.start))])), (101, some (.arr 80 2 (sigsL (a.sigs ++ b.sigs)))), (102, some (.arr 65 2 (labsL acc))), (201, some (.cells 29 zStg)), (202, some (.cells 65 [aI (shLab a.sigs.length x).sig, aT (shLab a.sigs.length x).up]))]⟩) (fun _ => True) ?_ ?_
      ·refine AC.seq (AC.region ?_)
       refine AL.p (by exact g_fa_ptr rfl rfl rfl rfl rfl) rfl ?_
       refine AL.p (by exact g_load_ptr rfl rfl rfl rfl rfl) rfl ?_
       refine AL.p (by exact g_cmp rfl rfl rfl) rfl ?_
       refine AL.nil (th_n ?_)
       refine AC.condD rfl (fun h4 => ?_) (fun h4 => ?_)
       ·refine AC.region ?_
        refine AL.p (by exact g_fa_ptr rfl rfl rfl rfl rfl) rfl ?_
        refine AL.p (by exact g_load_ptr rfl rfl rfl rfl rfl) rfl ?_
        refine AL.p (by exact g_fa_ref rfl rfl rfl rfl rfl rfl) rfl ?_
        refine AL.p (by exact g_load_ref rfl rfl rfl) rfl ?_
        refine AL.p (by exact g_len_view (k := a.sigs.length) rfl rfl (sigsL_len _)) rfl ?_
        refine AL.p (by exact g_arith rfl rfl rfl (by exact wrap_i64 (by omega))) rfl ?_
        refine AL.p (by exact g_fa_ptr rfl rfl rfl rfl rfl) rfl ?_
        refine AL.q (by exact h_store rfl rfl rfl rfl rfl rfl) rfl ?_
        refine AL.nil (th_n ?_)
        have e := hsh.trans (if_pos h4)
        exact ⟨(), trivial, Weak.ren _ [(200, 200), (101, 101), (102, 102), (201, 201), (202, 400)] hC rfl (by repeat (first | exact True.intro | refine And.intro ?_ ?_ | exact DLead.same | exact rfl | refine ⟨_, rfl, ?_⟩)) (by rw [e]; repeat (first | exact True.intro | refine And.intro ?_ ?_ | exact DLead.same | exact rfl | refine ⟨_, _, rfl, rfl, ?_⟩ | refine ⟨_, rfl, ?_⟩ | refine ⟨_, _, rfl, ?_, ?_⟩)) rfl rfl rfl⟩
       ·refine AC.skip (th_n ?_)
        have e := hsh.trans (if_neg h4)
        exact ⟨(), trivial, Weak.ren _ [(200, 200), (101, 101), (102, 102), (201, 201), (202, 400)] hC rfl (by repeat (first | exact True.intro | refine And.intro ?_ ?_ | exact DLead.same | exact rfl | refine ⟨_, rfl, ?_⟩)) (by rw [e]; repeat (first | exact True.intro | refine And.intro ?_ ?_ | exact DLead.same | exact rfl | refine ⟨_, _, rfl, rfl, ?_⟩ | refine ⟨_, rfl, ?_⟩ | refine ⟨_, _, rfl, ?_, ?_⟩)) rfl rfl rfl⟩
      ·intro _ _
       refine AC.region ?_
       refine AL.p (by exact g_fa_ptr rfl rfl rfl rfl rfl) rfl ?_
       refine AL.p (by exact g_load_ptr rfl rfl rfl rfl rfl) rfl ?_
       refine AL.p (by exact g_load_ptrN rfl rfl rfl rfl rfl) rfl ?_
       refine AL.q (by exact h_litF rfl rfl rfl rfl rfl rfl rfl rfl) rfl ?_
       refine AL.q (by exact h_appendLx acc [shLab a.sigs.length x] (.own rfl rfl (labsL_len _).symm) (.view rfl) (by rw [List.length_append]; simp only [List.length_cons, List.length_nil]; omega) (by simp)) rfl ?_
       refine AL.p (by exact g_fa_ptr rfl rfl rfl rfl rfl) rfl ?_
       refine AL.q (by exact h_store rfl rfl rfl rfl rfl rfl) rfl ?_
       refine AL.nil (ib_n (th_n (AC.region ?_)))
       refine AL.p (by exact g_arith rfl rfl rfl (by exact wrap_i64 (by omega))) rfl ?_
       refine AL.p (by exact mv1 rfl) rfl ?_
       refine AL.nil (th_n ?_)
       exact ⟨k + 1, by omega, by omega, Weak.ren _ [(200, 200), (101, 101), (102, _), (201, 201)] hC rfl (by repeat (first | exact True.intro | refine And.intro ?_ ?_ | exact DLead.same | exact rfl | refine ⟨_, rfl, ?_⟩)) (by rw [hnext]; repeat (first | exact True.intro | refine And.intro ?_ ?_ | exact DLead.same | exact rfl | refine ⟨_, _, rfl, rfl, ?_⟩ | refine ⟨_, rfl, ?_⟩ | refine ⟨_, _, rfl, ?_, ?_⟩)) rfl rfl rfl⟩
     ·refine AC.exit (th_e (th_e (ib_y (th_n (AC.seq (AC.seq ?_))))))
      have hkk : k = b.labs.length := by omega
      subst hkk
      rw [List.take_length]
      obtain ⟨t1, t2, t3, t4⟩ : T.net = U ∧ T.sigs = a.sigs ++ b.sigs ∧ T.labs = a.labs ++ b.labs.map (shLab a.sigs.length) ∧ T.start = a.start ++ b.start := by rw [hU1]; exact ⟨rfl, rfl, rfl, rfl⟩
      rw [← t1, ← t2, ← t3, ← t4]
      refine AC.region ?_
      refine AL.p (by exact g_load_ptrN rfl rfl rfl rfl rfl) rfl ?_
      refine AL.q (by exact h_borrow [101, 102] en_l2Good rfl rfl hGt (.cons (.aggs (ds := stgD T) (.cons .d (.cons .d (.cons (.own (id := 101) rfl rfl (ownl _ _) (ownt _ _)) (.cons (.own (id := 102) rfl rfl (ownl _ _) (ownt _ _)) (.cons .d .nil)))))) .nil) rfl) rfl ?_
      refine AL.p (by exact g_not rfl) rfl ?_
      refine AL.nil (th_n ?_)
      refine AC.condB rfl (fun h4 => ?_) (fun h4 => ?_)
      ·refine AC.seq ?_
       exact absurd ‹(!true) = true› (by decide)
      ·refine AC.skip (th_n (AC.seq (AC.region ?_)))
       refine AL.p (by exact g_load_ptrN rfl rfl rfl rfl rfl) rfl ?_
       refine AL.q (by exact h_store rfl rfl rfl rfl rfl rfl) rfl ?_
       refine AL.p (by exact as1 rfl) rfl ?_
       refine AL.nil (th_n (AC.ret (bq_r ?_)))
       exact retN [(0, 101), (1, 102)] rfl (by repeat (first | exact rfl | exact DLead.same | refine ⟨_, _, rfl, ?_, ?_⟩ | refine ⟨_, rfl, ?_⟩)) (by repeat (first | exact True.intro | refine And.intro ?_ ?_ | exact rfl | refine ⟨_, _, rfl, rfl, ?_⟩)) rfl rfl
theorem en_sUnionSTGs : Enters Tryz.prog 59 := enters_of Tryz.func59 rfl rfl
set_option maxHeartbeats 4000000 in
theorem enabled_spec (N : Net) (m : List UInt8) (hB : NetB N) (hM : NetM N m) (hb : bitsB m N.places = true) : ASpec Tryz.prog 66 [netA N, aS (bstr m)] [] (Pure1 (.d (vI (readyL N m N.ts.length)))) := by
 have hl := hB.l
 refine ASpec.of Tryz.func66 rfl rfl fun C hC => ?_
 refine AC.seq (AC.region ?_)
 refine AL.q (by exact h_boxF rfl rfl) rfl ?_
 refine AL.p (by exact as1 rfl) rfl ?_
 refine AL.nil (th_n (AC.seq (AC.region ?_)))
 refine AL.q (by exact h_lit rfl rfl rfl rfl rfl rfl rfl rfl) rfl ?_
 refine AL.p (by exact as2 rfl) rfl ?_
 refine AL.nil (th_n (AC.seq (AC.seq (AC.region ?_))))
 refine AL.p (by exact g_fa_ref rfl rfl rfl rfl rfl rfl) rfl ?_
 refine AL.p (by exact g_load_ref rfl rfl rfl) rfl ?_
 refine AL.p (by exact g_len_view rfl rfl (by exact List.length_map _)) rfl ?_
 refine AL.p (by exact mv1 rfl) rfl ?_
 refine AL.nil (th_n (AC.block ?_))
 refine AC.loop (ι := Nat) (fun k => ⟨26, 108, [(1, aS (bstr m)), (5, .own 100 (readyL N m k).length), (10, .d (vTs N.ts)), (11, aI N.ts.length), (12, aI k)], [(100, some (.arr 3 1 (ints (readyL N m k))))]⟩) (fun k => k ≤ N.ts.length) (fun k => N.ts.length - k) (0) ?_ (Nat.zero_le _) ?_
 ·exact Weak.ren _ [(100, _)] hC rfl (by repeat (first | exact True.intro | refine And.intro ?_ ?_ | exact DLead.same | exact rfl | refine ⟨_, rfl, ?_⟩)) (by repeat (first | exact True.intro | refine And.intro ?_ ?_ | exact rfl | refine ⟨_, _, rfl, rfl, ?_⟩)) rfl rfl rfl
 ·intro k hk
  refine AC.seq (AC.region ?_)
  refine AL.p (by exact g_cmp rfl rfl rfl) rfl ?_
  refine AL.nil (th_n (AC.seq ?_))
  refine AC.condD rfl (fun h0 => ?_) (fun h0 => ?_)
  ·refine AC.skip (th_n (AC.seq (AC.block (AC.seq ?_))))
   have hk1 : k < N.ts.length := by omega
   have hget := tsL_get hk1
   have hl1 := (hB.t _ (List.getElem_mem hk1)).1
   have hp1 := (hM _ (List.getElem_mem hk1)).1
   have hre := ready_enabled hb hp1
   have hln := readyL_len N m k
   refine AC.region ?_
   refine AL.p (by exact mv1 rfl) rfl ?_
   refine AL.p (by exact g_ia_view rfl rfl rfl rfl rfl (by rfl) (by assumption)) rfl ?_
   refine AL.p (by exact g_load_refN rfl rfl rfl rfl) rfl ?_
   refine AL.q (by exact h_alloc rfl) rfl ?_
   refine AL.p (by exact as1 rfl) rfl ?_
   refine AL.q (by exact h_store rfl rfl rfl rfl rfl rfl) rfl ?_
   refine AL.nil (th_n (AC.seq (AC.region ?_)))
   refine AL.p (by exact g_load_ptrN rfl rfl rfl rfl rfl) rfl ?_
   refine AL.p (by exact mv1 rfl) rfl ?_
   refine AL.q (by exact h_pure en_isEnabled rfl rfl (by repeat (first | exact rfl | exact DLead.same | refine ⟨_, _, rfl, ?_, ?_⟩ | refine ⟨_, rfl, ?_⟩)) (isEnabled_spec _ _ (by assumption) (by assumption)) rfl) rfl ?_
   refine AL.nil (th_n ?_)
   refine AC.condB rfl (fun h1 => ?_) (fun h1 => ?_)
   ·refine AC.region ?_
    refine AL.p (by exact mv2 rfl) rfl ?_
    refine AL.p (by exact mv1 rfl) rfl ?_
    refine AL.q (by exact h_litF rfl rfl rfl rfl rfl rfl rfl rfl) rfl ?_
    refine AL.q (by exact h_appendI (readyL N m k) [(k : Int)] (.own rfl rfl (ints_len _).symm) (.view rfl) (by simp; omega) (by simp)) rfl ?_
    refine AL.p (by exact as2 rfl) rfl ?_
    refine AL.nil (ib_n (th_n (AC.region ?_)))
    refine AL.p (by exact g_arith rfl rfl rfl (by exact wrap_i64 (by omega))) rfl ?_
    refine AL.p (by exact mv1 rfl) rfl ?_
    refine AL.nil (th_n ?_)
    (have e := readyL_t (m := m) hk1 (by rw [hre]; exact h1); exact ⟨k + 1, by omega, by omega, Weak.ren _ [(100, _)] hC rfl (by rw [e]; repeat (first | exact True.intro | refine And.intro ?_ ?_ | exact DLead.same | exact rfl | refine ⟨_, rfl, ?_⟩)) (by rw [e]; repeat (first | exact True.intro | refine And.intro ?_ ?_ | exact rfl | refine ⟨_, _, rfl, rfl, ?_⟩)) rfl rfl rfl⟩)
   ·refine AC.skip (ib_n (th_n (AC.region ?_)))
    refine AL.p (by exact g_arith rfl rfl rfl (by exact wrap_i64 (by omega))) rfl ?_
    refine AL.p (by exact mv1 rfl) rfl ?_
    refine AL.nil (th_n ?_)
    (have e := readyL_f (m := m) hk1 (by rw [hre]; exact h1); exact ⟨k + 1, by omega, by omega, Weak.ren _ [(100, _)] hC rfl (by rw [e]; repeat (first | exact True.intro | refine And.intro ?_ ?_ | exact DLead.same | exact rfl | refine ⟨_, rfl, ?_⟩)) (by rw [e]; repeat (first | exact True.intro | refine And.intro ?_ ?_ | exact rfl | refine ⟨_, _, rfl, rfl, ?_⟩)) rfl rfl rfl⟩)
  ·refine AC.exit (th_e (th_e (ib_y (th_n (AC.seq ?_)))))
   have hkk : k = N.ts.length := by omega
   subst hkk
   refine AC.weak (Weak.freeze (i := 5) rfl rfl (Nat.le_of_eq (ints_len _).symm) (ints_all _)) ?_
   refine AC.region ?_
   refine AL.p (by exact mv1 rfl) rfl ?_
   refine AL.p (by exact as1 rfl) rfl ?_
   refine AL.nil (th_n (AC.ret (bq_r ?_)))
   exact ret1 rfl rfl
theorem en_enabled : Enters Tryz.prog 66 := enters_of Tryz.func66 rfl rfl
structure Ck where
 mark : List UInt8
 now : Int
 since : List Int
structure Dl where
 low : Int
 high : Int
abbrev dlD (d : Dl) : List DV := [dI d.low, dI d.high]
abbrev dlA (d : Dl) : AV := .agg [aI d.low, aI d.high]
abbrev dlL (l : List Dl) : List (List DV) := l.map dlD
abbrev vDls (l : List Dl) : DV := .view 82 2 (dlL l)
theorem dlL_len (l : List Dl) : (dlL l).length = l.length := List.length_map _
def dAt (l : List Dl) (k : Nat) : Dl := l.getD k ⟨0, 0⟩
theorem dAt_nat {l : List Dl} {k : Nat} (h : k < l.length) : dAt l k = l[k] := by unfold dAt; rw [List.getD_eq_getElem?_getD, List.getElem?_eq_getElem h]; rfl
theorem dlL_get {l : List Dl} {k : Nat} (h : k < l.length) : (dlL l)[k]? = some [dI (dAt l k).low, dI (dAt l k).high] := by rw [dAt_nat h, List.getElem?_map, List.getElem?_eq_getElem h]; rfl
def iAt (l : List Int) (k : Nat) : Int := l.getD k 0
theorem iAt_nat {l : List Int} {k : Nat} (h : k < l.length) : iAt l k = l[k] := by unfold iAt; rw [List.getD_eq_getElem?_getD, List.getElem?_eq_getElem h]; rfl
theorem ints_iAt {l : List Int} {k : Nat} (h : k < l.length) : (ints l)[k]? = some [dI (iAt l k)] := by rw [iAt_nat h]; exact ints_at h
abbrev ckC (s : Stg) (c : Ck) (id : Nat) : Chunk := .cells 89 [aI s.net.places, .d (vTs s.net.ts), .d (vSigs s.sigs), .d (vLabs s.labs), aS (bstr s.start), aS (bstr c.mark), aI c.now, .own id c.since.length]
abbrev ckChs (s : Stg) (c : Ck) (i j : Nat) : List (Nat × Chunk) := [(i, ckC s c j), (j, .arr 3 1 (ints c.since))]
def fillE (E : List Int) (n : Nat) (v : Nat → Int) (j : Nat) : List Int := (List.range n).map fun (u : Nat) => if ((u : Nat) : Int) ∈ E.take j then v u else -1
theorem ints_set (l : List Int) (i : Nat) (x : Int) : (ints l).set i [dI x] = ints (l.set i x) := by unfold ints; rw [List.map_set]
theorem fillE_len (E : List Int) (n : Nat) (v : Nat → Int) (j : Nat) : (fillE E n v j).length = n := by simp [fillE]
theorem fillE_zero (E : List Int) (n : Nat) (v : Nat → Int) : fillE E n v 0 = List.replicate n (-1) := by
 unfold fillE
 simp [List.map_const']
theorem fillE_at {E : List Int} {n : Nat} {v : Nat → Int} {j u : Nat} (hu : u < n) : (fillE E n v j)[u]? = some (if (u : Int) ∈ E.take j then v u else -1) := by
 unfold fillE
 rw [List.getElem?_map, List.getElem?_range hu]; rfl
theorem fillE_set {E : List Int} {n : Nat} {v : Nat → Int} {j e : Nat} (hj : j < E.length) (he : E[j] = (e : Int)) (hn : e < n) : (fillE E n v j).set e (v e) = fillE E n v (j + 1) := by
 apply List.ext_getElem?
 intro u
 rcases Nat.lt_or_ge u n with hu | hu
 ·rw [fillE_at hu, List.getElem?_set, fillE_len]
  have ht : E.take (j + 1) = E.take j ++ [(e : Int)] := by rw [List.take_add_one, List.getElem?_eq_getElem hj, he]; rfl
  rw [ht]
  by_cases h : e = u
  ·subst h
   simp [hn]
  ·rw [if_neg h, fillE_at hu]
   have : ((u : Int) ∈ E.take j ++ [(e : Int)]) ↔ ((u : Int) ∈ E.take j) := by
    rw [List.mem_append, List.mem_singleton]
    constructor
    ·rintro (h' | h')
     ·exact h'
     ·omega
    ·exact .inl
   simp only [this]
 ·rw [List.getElem?_eq_none (by rw [List.length_set, fillE_len]; exact hu), List.getElem?_eq_none (by rw [fillE_len]; exact hu)]
theorem readyL_iff {N : Net} {m : List UInt8} {k : Nat} {x : Int} : x ∈ readyL N m k ↔ ∃ u : Nat, x = u ∧ u < k ∧ ∃ h : u < N.ts.length, readyS N.ts[u] m = true := by
 unfold readyL
 simp only [List.mem_map, List.mem_filter, List.mem_range]
 constructor
 ·rintro ⟨u, ⟨hu, hr⟩, rfl⟩
  refine ⟨u, rfl, hu, ?_⟩
  rcases Nat.lt_or_ge u N.ts.length with h | h
  ·rw [List.getElem?_eq_getElem h] at hr; exact ⟨h, hr⟩
  ·rw [List.getElem?_eq_none h] at hr; cases hr
 ·rintro ⟨u, rfl, hu, h, hr⟩
  exact ⟨u, ⟨hu, by rw [List.getElem?_eq_getElem h]; exact hr⟩, rfl⟩
def enB (N : Net) (m : List UInt8) (u : Nat) : Bool := enabledI (N.ts.getD u ⟨[], []⟩) m
theorem enB_nat {N : Net} {m : List UInt8} {u : Nat} (h : u < N.ts.length) : enB N m u = enabledI N.ts[u] m := by unfold enB; rw [List.getD_eq_getElem?_getD, List.getElem?_eq_getElem h]; rfl
theorem ready_iff {N : Net} {m : List UInt8} (hg : goodN N = true) (hb : bitsB m N.places = true) {u : Nat} (hu : u < N.ts.length) : ((u : Int) ∈ readyL N m N.ts.length) ↔ enB N m u = true := by
 have hM := good_netM hg hb
 rw [readyL_iff, enB_nat hu]
 constructor
 ·rintro ⟨v, hv, _, h, hr⟩
  obtain rfl : u = v := by omega
  rw [ready_enabled hb (hM _ (List.getElem_mem hu)).1] at hr
  exact hr
 ·intro h
  exact ⟨u, rfl, hu, hu, by rw [ready_enabled hb (hM _ (List.getElem_mem hu)).1]; exact h⟩
theorem fillE_all {N : Net} {m : List UInt8} (hg : goodN N = true) (hb : bitsB m N.places = true) (v : Nat → Int) : fillE (readyL N m N.ts.length) N.ts.length v (readyL N m N.ts.length).length = (List.range N.ts.length).map fun u => if enB N m u = true then v u else -1 := by
 unfold fillE
 rw [List.take_length]
 refine List.map_congr_left fun u hu => ?_
 have := ready_iff hg hb (List.mem_range.1 hu)
 by_cases h : enB N m u = true
 ·rw [if_pos h, if_pos (this.2 h)]
 ·rw [if_neg h, if_neg (fun q => h (this.1 q))]
def newK (s : Stg) : Ck := ⟨s.start, 0, (List.range s.net.ts.length).map fun u => if enB s.net s.start u = true then 0 else -1⟩
def sinceF (N : Net) (since : List Int) (t : Nat) (m : List UInt8) (at_ : Int) (u : Nat) : Int :=
 if iAt since u < 0 then at_ else if u = t then at_ else if shareI (N.ts.getD u ⟨[], []⟩).pre (N.ts.getD t ⟨[], []⟩).pre = true then at_ else iAt since u
def fireP (N : Net) (c : Ck) (t : Int) (at_ : Int) : Ck × Bool :=
 if (fireI N c.mark t).2 = true then (⟨(fireI N c.mark t).1, at_, (List.range N.ts.length).map fun u => if enB N (fireI N c.mark t).1 u = true then sinceF N c.since t.toNat (fireI N c.mark t).1 at_ u else -1⟩, true) else (c, false)
theorem goodS_bits {s : Stg} (h : goodS s = true) : goodN s.net = true ∧ bitsB s.start s.net.places = true ∧ s.labs.length = s.net.ts.length := by
 have h1 := goodS_sigs h
 simp only [goodS, Bool.and_eq_true] at h
 exact ⟨h1.2.2.1, h.1.2, h1.2.2.2⟩
set_option maxHeartbeats 8000000 in
theorem newClock_spec (s : Stg) (hB : StgB s) (hg : goodS s = true) : ASpec Tryz.prog 44 [stgA s] [] (Fun1 (.ptr 0 0) (ckChs s (newK s) 0 1)) := by
 obtain ⟨hgn, hbit, hll⟩ := goodS_bits hg
 have hM := good_netM hgn hbit
 have hE := enabled_spec s.net s.start hB.n hM hbit
 have htl : s.net.ts.length ≤ 24 := by have := goodS_few hg; omega
 have hRp := repeat_spec (-1) s.net.ts.length (by omega)
 have hK : newK s = ⟨s.start, 0, fillE (readyL s.net s.start s.net.ts.length) s.net.ts.length (fun _ => 0) (readyL s.net s.start s.net.ts.length).length⟩ := by unfold newK; rw [fillE_all hgn hbit]
 have hin : ∀ x, x ∈ readyL s.net s.start s.net.ts.length → ∃ u : Nat, x = u ∧ u < s.net.ts.length := fun x hx => by obtain ⟨u, h1, h2, _⟩ := readyL_iff.1 hx; exact ⟨u, h1, h2⟩
 obtain ⟨E, hEE⟩ : ∃ E, E = readyL s.net s.start s.net.ts.length := ⟨_, rfl⟩
 rw [← hEE] at hE hK hin
 obtain ⟨K, hKK⟩ : ∃ K, K = newK s := ⟨_, rfl⟩
 rw [← hKK] at hK ⊢
 have hEl : E.length ≤ s.net.ts.length := by rw [hEE]; exact readyL_len _ _ _
 clear hEE hKK
 refine ASpec.of Tryz.func44 rfl rfl fun C hC => ?_
 refine AC.seq (AC.region ?_)
 refine AL.q (by exact h_boxF rfl rfl) rfl ?_
 refine AL.p (by exact as1 rfl) rfl ?_
 refine AL.nil (th_n (AC.seq ?_))
 refine AC.drawn' mixed_ok [[], [], [1], [], [], [4], [4,5], [3,4,5,6], [0,1,2,3,4,5,6,7], [0,1,2,3,4,5,6,7,8], [0,1,2,3,4,5,6,7,8,9]] (by decide) ?_
 refine DF.op 0 [] 11 rfl rfl rfl (.free rfl (NOp.of (by exact g_load_refN rfl rfl rfl rfl))) rfl ?_
 refine DF.op 1 [] 11 rfl rfl rfl (.free rfl (NOp.of (by exact g_fa_ref rfl rfl rfl rfl rfl rfl))) rfl ?_
 refine DF.op 2 [1] 11 rfl rfl rfl (.free rfl (NOp.of (by exact g_load_ref rfl rfl rfl))) rfl ?_
 refine DF.op 3 [] 11 rfl rfl rfl (.free rfl (by exact h_litF rfl rfl rfl rfl rfl rfl rfl rfl)) rfl ?_
 refine DF.op 4 [] 11 rfl rfl rfl (.free rfl (NOp.of (by exact g_fa_ref rfl rfl rfl rfl rfl rfl))) rfl ?_
 refine DF.op 5 [4] 11 rfl rfl rfl (.free rfl (NOp.of (by exact g_load_ref rfl rfl rfl))) rfl ?_
 refine DF.op 6 [4,5] 11 rfl rfl rfl (.free rfl (NOp.of (by exact g_len_view (k := s.net.ts.length) rfl rfl ((labsL_len _).trans hll)))) rfl ?_
 refine DF.op 7 [3,4,5,6] 11 rfl rfl rfl (.free rfl (by exact h_fun (cs := []) en_Repeat rfl rfl (by repeat (first | exact rfl | exact DLead.same | refine ⟨_, _, rfl, ?_, ?_⟩)) (by repeat (exact True.intro)) hRp rfl rfl rfl rfl)) rfl ?_
 refine DF.op 8 [0,1,2,3,4,5,6,7] 11 rfl rfl rfl (.free rfl (NOp.of (by exact g_build rfl rfl rfl))) rfl ?_
 refine DF.op 9 (List.range 9) 11 rfl rfl rfl (.free rfl (by exact h_box rfl)) rfl ?_
 refine DF.op 10 (List.range 10) 11 rfl rfl rfl (.free rfl (NOp.of (by exact as3 rfl))) rfl ?_
 refine DF.fin (ps := [(0,1),(0,2),(0,3),(0,4),(0,5),(0,6),(0,7),(1,0),(1,3),(1,4),(1,5),(1,6),(1,7),(2,0),(2,3),(2,4),(2,5),(2,6),(2,7),(3,0),(3,1),(3,2),(3,4),(3,5),(3,6),(4,0),(4,1),(4,2),(4,3),(5,0),(5,1),(5,2),(5,3),(6,0),(6,1),(6,2),(6,3),(7,0),(7,1),(7,2)]) 11 rfl (by decide +kernel) (by decide +kernel) (by rfl) ?_
 refine th_n (AC.seq (AC.seq (AC.region ?_)))
 refine AL.p (by exact g_fa_ref rfl rfl rfl rfl rfl rfl) rfl ?_
 refine AL.p (by exact g_load_refN rfl rfl rfl rfl) rfl ?_
 refine AL.p (by exact g_fa_ref rfl rfl rfl rfl rfl rfl) rfl ?_
 refine AL.p (by exact g_load_ref rfl rfl rfl) rfl ?_
 refine AL.q (by exact h_pure en_enabled rfl rfl (by repeat (first | exact rfl | exact DLead.same | refine ⟨_, _, rfl, ?_, ?_⟩ | refine ⟨_, rfl, ?_⟩)) hE rfl) rfl ?_
 refine AL.p (by exact g_len_view (k := E.length) rfl rfl (ints_len _)) rfl ?_
 refine AL.p (by exact mv1 rfl) rfl ?_
 refine AL.nil (th_n (AC.block ?_))
 refine AC.loop (ι := Nat) (fun j => ⟨34, 400, [(3, .ptr 100 0), (20, .d (vI E)), (21, aI E.length), (22, aI j)], ckChs s ⟨s.start, 0, fillE E s.net.ts.length (fun _ => 0) j⟩ 100 101 |> chL⟩) (fun j => j ≤ E.length) (fun j => E.length - j) (0) ?_ (Nat.zero_le _) ?_
 ·exact Weak.ren _ [(100, _), (101, _)] hC rfl (by repeat (first | exact True.intro | refine And.intro ?_ ?_ | exact DLead.same | exact rfl | refine ⟨_, rfl, ?_⟩)) (by rw [fillE_zero]; dsimp only [ckChs, ckC]; rw [List.length_replicate]; repeat (first | exact True.intro | refine And.intro ?_ ?_ | exact DLead.same | exact rfl | refine ⟨_, _, rfl, rfl, ?_⟩ | refine ⟨_, rfl, ?_⟩ | refine ⟨_, _, rfl, ?_, ?_⟩)) rfl rfl rfl
 ·intro j hj
  refine AC.seq (AC.region ?_)
  refine AL.p (by exact g_cmp rfl rfl rfl) rfl ?_
  refine AL.nil (th_n (AC.seq ?_))
  refine AC.condD rfl (fun h0 => ?_) (fun h0 => ?_)
  ·refine AC.skip (th_n (AC.seq (AC.block (AC.seq ?_))))
   have hj1 : j < E.length := by omega
   have hget := ints_at hj1
   obtain ⟨e, hje, hen⟩ := hin _ (List.getElem_mem hj1)
   have hset := fillE_set (v := fun _ => 0) hj1 hje hen
   have hrow : (ints (fillE E s.net.ts.length (fun _ => 0) j))[e]? = some [dI (iAt (fillE E s.net.ts.length (fun _ => 0) j) e)] := ints_iAt (by rw [fillE_len]; exact hen)
   have hln := fillE_len E s.net.ts.length (fun _ => 0) j
   have hln2 := fillE_len E s.net.ts.length (fun _ => 0) (j + 1)
   refine AC.region ?_
   refine AL.p (by exact g_ia_view rfl rfl rfl rfl rfl (by rfl) (by assumption)) rfl ?_
   refine AL.p (by exact g_load_ref rfl rfl rfl) rfl ?_
   refine AL.p (by exact as1 rfl) rfl ?_
   refine AL.nil (th_n (AC.region ?_))
   refine AL.p (by exact mv3 rfl) rfl ?_
   refine AL.p (by exact g_nilP rfl) rfl ?_
   refine AL.p (by exact g_fa_ptr rfl rfl rfl rfl rfl) rfl ?_
   refine AL.p (by exact g_load_ptr rfl rfl rfl rfl rfl) rfl ?_
   refine AL.p (by exact mv1 rfl) rfl ?_
   refine AL.p (by exact g_ia_own (i := e) (l := (fillE E s.net.ts.length (fun _ => 0) j).length) rfl rfl rfl rfl rfl hje (by omega) (Nat.mul_one _)) rfl ?_
   refine AL.q (by exact h_store_arr1 (d := dI 0) rfl rfl rfl rfl .same hrow) rfl ?_
   refine AL.nil (ib_n (th_n (AC.region ?_)))
   refine AL.p (by exact g_arith rfl rfl rfl (by exact wrap_i64 (by omega))) rfl ?_
   refine AL.p (by exact mv1 rfl) rfl ?_
   refine AL.nil (th_n ?_)
   exact ⟨j + 1, by omega, by omega, Weak.ren _ [(100, 100), (101, 101)] hC rfl (by repeat (first | exact True.intro | refine And.intro ?_ ?_ | exact DLead.same | exact rfl | refine ⟨_, rfl, ?_⟩)) (by rw [← hset]; dsimp only [ckChs, ckC]; rw [List.length_set, ← ints_set]; repeat (first | exact True.intro | refine And.intro ?_ ?_ | exact DLead.same | exact rfl | refine ⟨_, _, rfl, rfl, ?_⟩ | refine ⟨_, rfl, ?_⟩ | refine ⟨_, _, rfl, ?_, ?_⟩)) rfl rfl rfl⟩
  ·refine AC.exit (th_e (th_e (ib_y (th_n (AC.seq ?_)))))
   have hjE : j = E.length := by omega
   subst hjE
   rw [← hK]
   refine AC.region ?_
   refine AL.p (by exact mv3 rfl) rfl ?_
   refine AL.p (by exact as3 rfl) rfl ?_
   refine AL.nil (th_n (AC.ret (bq_r ?_)))
   exact retN [(0, 100), (1, 101)] rfl (by repeat (first | exact rfl | refine ⟨_, rfl, ?_⟩)) (by repeat (first | exact True.intro | refine And.intro ?_ ?_ | exact DLead.same | exact rfl | refine ⟨_, _, rfl, rfl, ?_⟩ | refine ⟨_, rfl, ?_⟩ | refine ⟨_, _, rfl, ?_, ?_⟩)) rfl rfl
theorem en_newClock : Enters Tryz.prog 44 := enters_of Tryz.func44 rfl rfl
def dlN (since : List Int) (l : List Dl) : Nat → Int × Bool
 | 0 => (0, false)
 | k + 1 => if 0 ≤ iAt since k ∧ ((dlN since l k).2 = false ∨ iAt since k + (dAt l k).high < (dlN since l k).1) then (iAt since k + (dAt l k).high, true) else dlN since l k
def earI (c : Ck) (l : List Dl) (t : Nat) : Int := max (iAt c.since t + (dAt l t).low) c.now
structure CkB (c : Ck) (l : List Dl) : Prop where
 s : ∀ x, x ∈ c.since → -1 ≤ x ∧ x ≤ 1000000
 n : -1000000 ≤ c.now ∧ c.now ≤ 1000000
 d : ∀ x, x ∈ l → -1000000 ≤ x.low ∧ x.low ≤ 1000000 ∧ -1000000 ≤ x.high ∧ x.high ≤ 1000000
 e : l.length = c.since.length
theorem CkB.at {c : Ck} {l : List Dl} (h : CkB c l) {k : Nat} (hk : k < c.since.length) : (-1 ≤ iAt c.since k ∧ iAt c.since k ≤ 1000000) ∧ (-1000000 ≤ (dAt l k).low ∧ (dAt l k).low ≤ 1000000 ∧ -1000000 ≤ (dAt l k).high ∧ (dAt l k).high ≤ 1000000) := by
 rw [iAt_nat hk, dAt_nat (by rw [h.e]; exact hk)]
 exact ⟨h.s _ (List.getElem_mem hk), h.d _ (List.getElem_mem _)⟩
theorem dlN_in {c : Ck} {l : List Dl} (h : CkB c l) : ∀ k, k ≤ c.since.length → -1000001 ≤ (dlN c.since l k).1 ∧ (dlN c.since l k).1 ≤ 2000000
 | 0, _ => by simp [dlN]
 | k + 1, hk => by
  have ih := dlN_in h k (by omega)
  have hb := h.at (show k < c.since.length by omega)
  rw [dlN]
  split
  ·dsimp only; omega
  ·exact ih
set_option maxHeartbeats 4000000 in
theorem ckDeadline_spec (s : Stg) (c : Ck) (l : List Dl) (hb : CkB c l) (hl : c.since.length ≤ 100000) : ASpec Tryz.prog 45 [.ptr 0 0, .d (vDls l)] (ckChs s c 0 1) (Fun1 (.tup [aI (dlN c.since l c.since.length).1, aT (dlN c.since l c.since.length).2]) (ckChs s c 0 1)) := by
 refine ASpec.of Tryz.func45 rfl rfl fun C hC => ?_
 refine AC.seq (AC.region ?_)
 refine AL.p (by exact as1 rfl) rfl ?_
 refine AL.p (by exact as1 rfl) rfl ?_
 refine AL.nil (th_n (AC.seq (AC.region ?_)))
 refine AL.p (by exact as1 rfl) rfl ?_
 refine AL.p (by exact as1 rfl) rfl ?_
 refine AL.nil (th_n (AC.seq (AC.seq (AC.region ?_))))
 refine AL.p (by exact mv3 rfl) rfl ?_
 refine AL.p (by exact g_nilP rfl) rfl ?_
 refine AL.p (by exact g_fa_ptr rfl rfl rfl rfl rfl) rfl ?_
 refine AL.p (by exact g_load_ptr rfl rfl rfl rfl rfl) rfl ?_
 refine AL.p (by exact g_len_own (sz := 1) (els := []) (e' := 0) rfl rfl (by simp only [maxLen]; omega)) rfl ?_
 refine AL.p (by exact mv1 rfl) rfl ?_
 refine AL.nil (th_n (AC.block ?_))
 refine AC.loop (ι := Nat) (fun k => ⟨47, 400, [(1, .d (vDls l)), (6, aI (dlN c.since l k).1), (7, aT (dlN c.since l k).2), (13, .own 1 c.since.length), (14, aI c.since.length), (15, aI k)], chL (ckChs s c 0 1)⟩) (fun k => k ≤ c.since.length) (fun k => c.since.length - k) (0) ?_ (Nat.zero_le _) ?_
 ·exact Weak.ren _ [] hC rfl (by repeat (first | exact True.intro | refine And.intro ?_ ?_ | exact DLead.same | exact rfl | refine ⟨_, rfl, ?_⟩)) (by repeat (first | exact True.intro | refine And.intro ?_ ?_ | exact DLead.same | exact rfl | refine ⟨_, _, rfl, rfl, ?_⟩ | refine ⟨_, rfl, ?_⟩ | refine ⟨_, _, rfl, ?_, ?_⟩)) rfl rfl rfl
 ·intro k hk
  refine AC.seq (AC.region ?_)
  refine AL.p (by exact g_cmp rfl rfl rfl) rfl ?_
  refine AL.nil (th_n (AC.seq ?_))
  refine AC.condD rfl (fun h0 => ?_) (fun h0 => ?_)
  ·refine AC.skip (th_n (AC.seq (AC.block (AC.seq ?_))))
   have hk1 : k < c.since.length := by omega
   have hrow := ints_iAt hk1
   have hget := dlL_get (l := l) (k := k) (by rw [hb.e]; exact hk1)
   have hbd := hb.at hk1
   have hpr := dlN_in hb k hk
   have hY : 0 ≤ iAt c.since k → ((dlN c.since l k).2 = false ∨ iAt c.since k + (dAt l k).high < (dlN c.since l k).1) → dlN c.since l (k + 1) = (iAt c.since k + (dAt l k).high, true) := fun h h' => by rw [dlN, if_pos ⟨h, h'⟩]
   have hN : (0 ≤ iAt c.since k → ¬ ((dlN c.since l k).2 = false ∨ iAt c.since k + (dAt l k).high < (dlN c.since l k).1)) → dlN c.since l (k + 1) = dlN c.since l k := fun h => by rw [dlN, if_neg (fun q => h q.1 q.2)]
   obtain ⟨p, hp⟩ : ∃ p, p = dlN c.since l k := ⟨_, rfl⟩
   rw [← hp] at hpr hY hN ⊢
   obtain ⟨p1, p2⟩ := p
   dsimp only at hpr hY hN ⊢
   refine AC.region ?_
   refine AL.p (by exact mv1 rfl) rfl ?_
   refine AL.p (by exact g_ia_own (i := k) (l := c.since.length) rfl rfl rfl rfl rfl rfl hk1 (Nat.mul_one _)) rfl ?_
   refine AL.p (by exact g_load_arr1 rfl rfl rfl rfl (by assumption)) rfl ?_
   refine AL.p (by exact as1 rfl) rfl ?_
   refine AL.p (by exact as1 rfl) rfl ?_
   refine AL.nil (th_n (AC.seq (AC.region ?_)))
   refine AL.p (by exact mv1 rfl) rfl ?_
   refine AL.p (by exact g_cmp rfl rfl rfl) rfl ?_
   refine AL.p (by exact mv1 rfl) rfl ?_
   refine AL.caseG rfl rfl (fun h1 => ?_) (fun h1 => ?_)
   ·refine AL.yes rfl rfl rfl ?_
    refine AL.p (by exact mv1 rfl) rfl ?_
    refine AL.yes rfl rfl rfl ?_
    refine AL.p (by exact g_not rfl) rfl ?_
    refine AL.yes rfl rfl rfl ?_
    refine AL.p (by exact mv1 rfl) rfl ?_
    refine AL.caseGB rfl rfl (fun h2 => ?_) (fun h2 => ?_)
    ·refine AL.not rfl rfl rfl rfl rfl ?_
     refine AL.not rfl rfl rfl rfl rfl ?_
     refine AL.not rfl rfl rfl rfl rfl ?_
     refine AL.not rfl rfl rfl rfl rfl ?_
     refine AL.not rfl rfl rfl rfl rfl ?_
     refine AL.not rfl rfl rfl rfl rfl ?_
     refine AL.not rfl rfl rfl rfl rfl ?_
     refine AL.not rfl rfl rfl rfl rfl ?_
     refine AL.not rfl rfl rfl rfl rfl ?_
     refine AL.yes rfl rfl rfl ?_
     refine AL.p (by exact g_pickT (r := .d _) rfl rfl) rfl ?_
     refine AL.p (by exact g_pickT (r := .d _) rfl rfl) rfl ?_
     refine AL.nil (th_n ?_)
     refine AC.condT rfl ?_
     refine AC.region ?_
     refine AL.p (by exact mv1 rfl) rfl ?_
     refine AL.p (by exact mv1 rfl) rfl ?_
     refine AL.p (by exact mv1 rfl) rfl ?_
     refine AL.p (by exact g_ia_view rfl rfl rfl rfl rfl (by rfl) (by assumption)) rfl ?_
     refine AL.p (by exact g_fa_ref rfl rfl rfl rfl rfl rfl) rfl ?_
     refine AL.p (by exact g_load_ref rfl rfl rfl) rfl ?_
     refine AL.p (by exact g_arith rfl rfl rfl (by exact wrap_i64 (by omega))) rfl ?_
     refine AL.p (by exact as1 rfl) rfl ?_
     refine AL.p (by exact as1 rfl) rfl ?_
     refine AL.nil (ib_n (th_n (AC.region ?_)))
     refine AL.p (by exact g_arith rfl rfl rfl (by exact wrap_i64 (by omega))) rfl ?_
     refine AL.p (by exact mv1 rfl) rfl ?_
     refine AL.nil (th_n ?_)
     (have e := hY h1 (.inl (by simpa using h2)); exact ⟨k + 1, by omega, by omega, Weak.ren _ [] hC rfl (by rw [e]; repeat (first | exact True.intro | refine And.intro ?_ ?_ | exact DLead.same | exact rfl | refine ⟨_, rfl, ?_⟩)) (by repeat (first | exact True.intro | refine And.intro ?_ ?_ | exact DLead.same | exact rfl | refine ⟨_, _, rfl, rfl, ?_⟩ | refine ⟨_, rfl, ?_⟩ | refine ⟨_, _, rfl, ?_, ?_⟩)) rfl rfl rfl⟩)
    ·refine AL.yes rfl rfl rfl ?_
     refine AL.p (by exact mv1 rfl) rfl ?_
     refine AL.yes rfl rfl rfl ?_
     refine AL.p (by exact mv1 rfl) rfl ?_
     refine AL.yes rfl rfl rfl ?_
     refine AL.p (by exact mv1 rfl) rfl ?_
     refine AL.yes rfl rfl rfl ?_
     refine AL.p (by exact g_ia_view rfl rfl rfl rfl rfl (by rfl) (by assumption)) rfl ?_
     refine AL.yes rfl rfl rfl ?_
     refine AL.p (by exact g_fa_ref rfl rfl rfl rfl rfl rfl) rfl ?_
     refine AL.yes rfl rfl rfl ?_
     refine AL.p (by exact g_load_ref rfl rfl rfl) rfl ?_
     refine AL.yes rfl rfl rfl ?_
     refine AL.p (by exact g_arith rfl rfl rfl (by exact wrap_i64 (by omega))) rfl ?_
     refine AL.yes rfl rfl rfl ?_
     refine AL.p (by exact mv1 rfl) rfl ?_
     refine AL.yes rfl rfl rfl ?_
     refine AL.p (by exact g_cmp rfl rfl rfl) rfl ?_
     refine AL.yes rfl rfl rfl ?_
     refine AL.p (by exact g_pickF (r := .d _) rfl rfl) rfl ?_
     refine AL.p (by exact g_pickT (r := .d _) rfl rfl) rfl ?_
     refine AL.nil (th_n ?_)
     refine AC.condD rfl (fun h3 => ?_) (fun h3 => ?_)
     ·refine AC.region ?_
      refine AL.p (by exact mv1 rfl) rfl ?_
      refine AL.p (by exact mv1 rfl) rfl ?_
      refine AL.p (by exact mv1 rfl) rfl ?_
      refine AL.p (by exact g_ia_view rfl rfl rfl rfl rfl (by rfl) (by assumption)) rfl ?_
      refine AL.p (by exact g_fa_ref rfl rfl rfl rfl rfl rfl) rfl ?_
      refine AL.p (by exact g_load_ref rfl rfl rfl) rfl ?_
      refine AL.p (by exact g_arith rfl rfl rfl (by exact wrap_i64 (by omega))) rfl ?_
      refine AL.p (by exact as1 rfl) rfl ?_
      refine AL.p (by exact as1 rfl) rfl ?_
      refine AL.nil (ib_n (th_n (AC.region ?_)))
      refine AL.p (by exact g_arith rfl rfl rfl (by exact wrap_i64 (by omega))) rfl ?_
      refine AL.p (by exact mv1 rfl) rfl ?_
      refine AL.nil (th_n ?_)
      (have e := hY h1 (.inr h3); exact ⟨k + 1, by omega, by omega, Weak.ren _ [] hC rfl (by rw [e]; repeat (first | exact True.intro | refine And.intro ?_ ?_ | exact DLead.same | exact rfl | refine ⟨_, rfl, ?_⟩)) (by repeat (first | exact True.intro | refine And.intro ?_ ?_ | exact DLead.same | exact rfl | refine ⟨_, _, rfl, rfl, ?_⟩ | refine ⟨_, rfl, ?_⟩ | refine ⟨_, _, rfl, ?_, ?_⟩)) rfl rfl rfl⟩)
     ·refine AC.skip (ib_n (th_n (AC.region ?_)))
      refine AL.p (by exact g_arith rfl rfl rfl (by exact wrap_i64 (by omega))) rfl ?_
      refine AL.p (by exact mv1 rfl) rfl ?_
      refine AL.nil (th_n ?_)
      (have e := hN (fun _ q => by rcases q with q | q; (have h2' : p2 = true := by simpa using h2); (rw [h2'] at q; cases q); exact h3 q); exact ⟨k + 1, by omega, by omega, Weak.ren _ [] hC rfl (by rw [e]; repeat (first | exact True.intro | refine And.intro ?_ ?_ | exact DLead.same | exact rfl | refine ⟨_, rfl, ?_⟩)) (by repeat (first | exact True.intro | refine And.intro ?_ ?_ | exact DLead.same | exact rfl | refine ⟨_, _, rfl, rfl, ?_⟩ | refine ⟨_, rfl, ?_⟩ | refine ⟨_, _, rfl, ?_, ?_⟩)) rfl rfl rfl⟩)
   ·refine AL.not rfl rfl rfl rfl rfl ?_
    refine AL.not rfl rfl rfl rfl rfl ?_
    refine AL.not rfl rfl rfl rfl rfl ?_
    refine AL.notU rfl rfl rfl ?_
    refine AL.notU rfl rfl rfl ?_
    refine AL.notU rfl rfl rfl ?_
    refine AL.notU rfl rfl rfl ?_
    refine AL.notU rfl rfl rfl ?_
    refine AL.notU rfl rfl rfl ?_
    refine AL.notU rfl rfl rfl ?_
    refine AL.notU rfl rfl rfl ?_
    refine AL.notU rfl rfl rfl ?_
    refine AL.not rfl rfl rfl rfl rfl ?_
    refine AL.p (by exact g_pickF (r := .d _) rfl rfl) rfl ?_
    refine AL.nil (th_n ?_)
    refine AC.condF rfl ?_
    refine AC.skip (ib_n (th_n (AC.region ?_)))
    refine AL.p (by exact g_arith rfl rfl rfl (by exact wrap_i64 (by omega))) rfl ?_
    refine AL.p (by exact mv1 rfl) rfl ?_
    refine AL.nil (th_n ?_)
    (have e := hN (fun q _ => h1 q); exact ⟨k + 1, by omega, by omega, Weak.ren _ [] hC rfl (by rw [e]; repeat (first | exact True.intro | refine And.intro ?_ ?_ | exact DLead.same | exact rfl | refine ⟨_, rfl, ?_⟩)) (by repeat (first | exact True.intro | refine And.intro ?_ ?_ | exact DLead.same | exact rfl | refine ⟨_, _, rfl, rfl, ?_⟩ | refine ⟨_, rfl, ?_⟩ | refine ⟨_, _, rfl, ?_, ?_⟩)) rfl rfl rfl⟩)
  ·refine AC.exit (th_e (th_e (ib_y (th_n (AC.seq ?_)))))
   have hkk : k = c.since.length := by omega
   subst hkk
   refine AC.region ?_
   refine AL.p (by exact mv1 rfl) rfl ?_
   refine AL.p (by exact mv1 rfl) rfl ?_
   refine AL.p (by exact as1 rfl) rfl ?_
   refine AL.p (by exact as1 rfl) rfl ?_
   refine AL.nil (th_n (AC.ret (bq_r ?_)))
   exact retF rfl (by repeat (first | exact DLead.same | exact rfl | refine ⟨_, rfl, ?_⟩ | refine ⟨_, _, rfl, ?_, ?_⟩)) (by repeat (first | exact True.intro | refine And.intro ?_ ?_ | exact DLead.same | exact rfl | refine ⟨_, _, rfl, rfl, ?_⟩ | refine ⟨_, rfl, ?_⟩ | refine ⟨_, _, rfl, ?_, ?_⟩)) rfl
theorem en_ckDeadline : Enters Tryz.prog 45 := enters_of Tryz.func45 rfl rfl
set_option maxHeartbeats 4000000 in
theorem ckEarliest_spec (s : Stg) (c : Ck) (l : List Dl) (t : Nat) (hb : CkB c l) (ht : t < c.since.length) : ASpec Tryz.prog 46 [.ptr 0 0, aI t, .d (vDls l)] (ckChs s c 0 1) (Fun1 (aI (earI c l t)) (ckChs s c 0 1)) := by
 have hrow := ints_iAt ht
 have hget := dlL_get (l := l) (k := t) (by rw [hb.e]; exact ht)
 have hbd := hb.at ht
 refine ASpec.of Tryz.func46 rfl rfl fun C hC => ?_
 refine AC.seq (AC.region ?_)
 refine AL.p (by exact as1 rfl) rfl ?_
 refine AL.nil (th_n (AC.seq ?_))
 refine AC.drawn' mixed_ok [[], [0], [0,1], [0,1,2], [], [0,1,2,3,4], [0,1,2,3,4,5], [], [], [7,8], [7,8,9], [7,8,9,10], [0,1,2,3,4,5,6,7,8,9,10,11], [], [13], [13,14], [13,14,15], [0,1,2,3,4,5,6,7,8,9,10,11,12,13,14,15,16], [0,1,2,3,4,5,6,7,8,9,10,11,12,13,14,15,16,17]] (by decide) ?_
 refine DF.op 0 [] 19 rfl rfl rfl (.free rfl (NOp.of (by exact mv3 rfl))) rfl ?_
 refine DF.op 1 [0] 19 rfl rfl rfl (.free rfl (NOp.of (by exact g_nilP rfl))) rfl ?_
 refine DF.op 2 [0,1] 19 rfl rfl rfl (.free rfl (NOp.of (by exact g_fa_ptr rfl rfl rfl rfl rfl))) rfl ?_
 refine DF.op 3 [0,1,2] 19 rfl rfl rfl (.free rfl (NOp.of (by exact g_load_ptr rfl rfl rfl rfl rfl))) rfl ?_
 refine DF.op 4 [] 19 rfl rfl rfl (.free rfl (NOp.of (by exact mv1 rfl))) rfl ?_
 refine DF.op 5 [0,1,2,3,4] 19 rfl rfl rfl (.free rfl (NOp.of (by exact g_ia_own (i := t) (l := c.since.length) rfl rfl rfl rfl rfl rfl ht (Nat.mul_one _)))) rfl ?_
 refine DF.op 6 [0,1,2,3,4,5] 19 rfl rfl rfl (.free rfl (NOp.of (by exact g_load_arr1 rfl rfl rfl rfl (by assumption)))) rfl ?_
 refine DF.op 7 [] 19 rfl rfl rfl (.free rfl (NOp.of (by exact mv1 rfl))) rfl ?_
 refine DF.op 8 [] 19 rfl rfl rfl (.free rfl (NOp.of (by exact mv1 rfl))) rfl ?_
 refine DF.op 9 [7,8] 19 rfl rfl rfl (.free rfl (NOp.of (by exact g_ia_view rfl rfl rfl rfl rfl (by rfl) (by assumption)))) rfl ?_
 refine DF.op 10 [7,8,9] 19 rfl rfl rfl (.free rfl (NOp.of (by exact g_fa_ref rfl rfl rfl rfl rfl rfl))) rfl ?_
 refine DF.op 11 [7,8,9,10] 19 rfl rfl rfl (.free rfl (NOp.of (by exact g_load_ref rfl rfl rfl))) rfl ?_
 refine DF.op 12 (List.range 12) 19 rfl rfl rfl (.free rfl (NOp.of (by exact g_arith rfl rfl rfl (by exact wrap_i64 (by omega))))) rfl ?_
 refine DF.op 13 [] 19 rfl rfl rfl (.free rfl (NOp.of (by exact mv3 rfl))) rfl ?_
 refine DF.op 14 [13] 19 rfl rfl rfl (.free rfl (NOp.of (by exact g_nilP rfl))) rfl ?_
 refine DF.op 15 [13,14] 19 rfl rfl rfl (.free rfl (NOp.of (by exact g_fa_ptr rfl rfl rfl rfl rfl))) rfl ?_
 refine DF.op 16 [13,14,15] 19 rfl rfl rfl (.free rfl (NOp.of (by exact g_load_ptr rfl rfl rfl rfl rfl))) rfl ?_
 refine DF.op 17 (List.range 17) 19 rfl rfl rfl (.free rfl (NOp.of (by exact g_max rfl rfl))) rfl ?_
 refine DF.op 18 (List.range 18) 19 rfl rfl rfl (.free rfl (NOp.of (by exact as1 rfl))) rfl ?_
 refine DF.fin (ps := [(0,4),(0,7),(0,8),(0,9),(0,10),(0,11),(0,13),(0,14),(0,15),(0,16),(1,4),(1,7),(1,8),(1,9),(1,10),(1,11),(1,13),(1,14),(1,15),(1,16),(2,4),(2,7),(2,8),(2,9),(2,10),(2,11),(2,13),(2,14),(2,15),(2,16),(3,4),(3,7),(3,8),(3,9),(3,10),(3,11),(3,13),(3,14),(3,15),(3,16),(4,0),(4,1),(4,2),(4,3),(4,7),(4,8),(4,9),(4,10),(4,11),(4,13),(4,14),(4,15),(4,16),(5,7),(5,8),(5,9),(5,10),(5,11),(5,13),(5,14),(5,15),(5,16),(6,7),(6,8),(6,9),(6,10),(6,11),(6,13),(6,14),(6,15),(6,16),(7,0),(7,1),(7,2),(7,3),(7,4),(7,5),(7,6),(7,8),(7,13),(7,14),(7,15),(7,16),(8,0),(8,1),(8,2),(8,3),(8,4),(8,5),(8,6),(8,7),(8,13),(8,14),(8,15),(8,16),(9,0),(9,1),(9,2),(9,3),(9,4),(9,5),(9,6),(9,13),(9,14),(9,15),(9,16),(10,0),(10,1),(10,2),(10,3),(10,4),(10,5),(10,6),(10,13),(10,14),(10,15),(10,16),(11,0),(11,1),(11,2),(11,3),(11,4),(11,5),(11,6),(11,13),(11,14),(11,15),(11,16),(12,13),(12,14),(12,15),(12,16),(13,0),(13,1),(13,2),(13,3),(13,4),(13,5),(13,6),(13,7),(13,8),(13,9),(13,10),(13,11),(13,12),(14,0),(14,1),(14,2),(14,3),(14,4),(14,5),(14,6),(14,7),(14,8),(14,9),(14,10),(14,11),(14,12),(15,0),(15,1),(15,2),(15,3),(15,4),(15,5),(15,6),(15,7),(15,8),(15,9),(15,10),(15,11),(15,12),(16,0),(16,1),(16,2),(16,3),(16,4),(16,5),(16,6),(16,7),(16,8),(16,9),(16,10),(16,11),(16,12)]) 19 rfl (by decide +kernel) (by decide +kernel) (by rfl) ?_
 refine th_n (AC.ret (bq_r ?_))
 exact retF rfl (by repeat (exact DLead.same)) (by repeat (first | exact True.intro | refine And.intro ?_ ?_ | exact DLead.same | exact rfl | refine ⟨_, _, rfl, rfl, ?_⟩ | refine ⟨_, rfl, ?_⟩ | refine ⟨_, _, rfl, ?_, ?_⟩)) rfl
theorem en_ckEarliest : Enters Tryz.prog 46 := enters_of Tryz.func46 rfl rfl
theorem fireI_yes {N : Net} {m : List UInt8} (hg : goodN N = true) (hb : bitsB m N.places = true) {t : Int} (h : (fireI N m t).2 = true) : ∃ i : Nat, t = i ∧ i < N.ts.length ∧ bitsB (fireI N m t).1 N.places = true := by
 have e : FireI N m t = fireI N m t := FireI_yes (by rw [hg, hb]; rfl)
 rw [← e] at h ⊢
 obtain ⟨_, _, i, hi, h1, _⟩ := FireI_ok h
 exact ⟨i, h1, hi, FireI_bits h⟩
set_option maxHeartbeats 16000000 in
theorem ckFire_spec (s : Stg) (c : Ck) (t at_ : Int) (hB : StgB s) (hg : goodS s = true) (hm : bitsB c.mark s.net.places = true) (hl : c.since.length = s.net.ts.length) : ASpec Tryz.prog 47 [.ptr 0 0, aI t, aI at_] (ckChs s c 0 1) (Fun1 (aT (fireP s.net c t at_).2) (ckChs s (fireP s.net c t at_).1 0 2)) := by
 obtain ⟨hgn, hbit, hll⟩ := goodS_bits hg
 have hM := good_netM hgn hm
 have hml : c.mark.length ≤ 2000000 := by have h1 := bits_len hm; have h2 := good_places hgn; omega
 have hF := ifire_spec s.net c.mark t hB.n hM hml
 have hy := fireI_yes (m := c.mark) hgn hm (t := t)
 have htl : s.net.ts.length ≤ 24 := by have := goodS_few hg; omega
 have hP : fireP s.net c t at_ = if (fireI s.net c.mark t).2 = true then (⟨(fireI s.net c.mark t).1, at_, (List.range s.net.ts.length).map fun u => if enB s.net (fireI s.net c.mark t).1 u = true then sinceF s.net c.since t.toNat (fireI s.net c.mark t).1 at_ u else -1⟩, true) else (c, false) := rfl
 obtain ⟨R, hR⟩ : ∃ R, R = fireI s.net c.mark t := ⟨_, rfl⟩
 rw [← hR] at hF hy hP
 obtain ⟨Z, hZ⟩ : ∃ Z, Z = fireP s.net c t at_ := ⟨_, rfl⟩
 rw [← hZ] at hP ⊢
 clear hR hZ
 refine ASpec.of Tryz.func47 rfl rfl fun C hC => ?_
 refine AC.seq (AC.region ?_)
 refine AL.p (by exact as1 rfl) rfl ?_
 refine AL.nil (th_n (AC.seq ?_))
 refine AC.drawn' mixed_ok [[], [0], [0,1], [0,1,2], [0,1,2,3], [], [5], [5,6], [5,6,7], [], [0,1,2,3,4,5,6,7,8,9], [0,1,2,3,4,5,6,7,8,9,10], [0,1,2,3,4,5,6,7,8,9,10,11], [0,1,2,3,4,5,6,7,8,9,10,11], [0,1,2,3,4,5,6,7,8,9,10,11,12], [0,1,2,3,4,5,6,7,8,9,10,11,12,13,14]] (by decide) ?_
 refine DF.op 0 [] 16 rfl rfl rfl (.free rfl (NOp.of (by exact mv3 rfl))) rfl ?_
 refine DF.op 1 [0] 16 rfl rfl rfl (.free rfl (NOp.of (by exact g_nilP rfl))) rfl ?_
 refine DF.op 2 [0,1] 16 rfl rfl rfl (.free rfl (NOp.of (by exact g_fa_ptr rfl rfl rfl rfl rfl))) rfl ?_
 refine DF.op 3 [0,1,2] 16 rfl rfl rfl (.free rfl (NOp.of (by exact g_fa_ptr rfl rfl rfl rfl rfl))) rfl ?_
 refine DF.op 4 [0,1,2,3] 16 rfl rfl rfl (.free rfl (NOp.of (by exact g_load_ptrN rfl rfl rfl rfl rfl))) rfl ?_
 refine DF.op 5 [] 16 rfl rfl rfl (.free rfl (NOp.of (by exact mv3 rfl))) rfl ?_
 refine DF.op 6 [5] 16 rfl rfl rfl (.free rfl (NOp.of (by exact g_nilP rfl))) rfl ?_
 refine DF.op 7 [5,6] 16 rfl rfl rfl (.free rfl (NOp.of (by exact g_fa_ptr rfl rfl rfl rfl rfl))) rfl ?_
 refine DF.op 8 [5,6,7] 16 rfl rfl rfl (.free rfl (NOp.of (by exact g_load_ptr rfl rfl rfl rfl rfl))) rfl ?_
 refine DF.op 9 [] 16 rfl rfl rfl (.free rfl (NOp.of (by exact mv1 rfl))) rfl ?_
 refine DF.op 10 (List.range 10) 16 rfl rfl rfl (.free rfl (by exact h_pure en_ifire rfl rfl (by repeat (first | exact rfl | exact DLead.same | refine ⟨_, _, rfl, ?_, ?_⟩ | refine ⟨_, rfl, ?_⟩)) hF rfl)) rfl ?_
 refine DF.op 11 (List.range 11) 16 rfl rfl rfl (.free rfl (NOp.of (by exact mv5 rfl))) rfl ?_
 refine DF.op 12 (List.range 12) 16 rfl rfl rfl (.free rfl (NOp.of (by exact g_extract (r := .d _) rfl rfl))) rfl ?_
 refine DF.op 13 (List.range 12) 16 rfl rfl rfl (.free rfl (NOp.of (by exact g_extract (r := .d _) rfl rfl))) rfl ?_
 refine DF.op 14 (List.range 13) 16 rfl rfl rfl (.free rfl (NOp.of (by exact as1 rfl))) rfl ?_
 refine DF.op 15 (List.range 15) 16 rfl rfl rfl (.free rfl (NOp.of (by exact as1 rfl))) rfl ?_
 refine DF.fin (ps := [(0,5),(0,6),(0,7),(0,8),(0,9),(1,5),(1,6),(1,7),(1,8),(1,9),(2,5),(2,6),(2,7),(2,8),(2,9),(3,5),(3,6),(3,7),(3,8),(3,9),(4,5),(4,6),(4,7),(4,8),(4,9),(5,0),(5,1),(5,2),(5,3),(5,4),(5,9),(6,0),(6,1),(6,2),(6,3),(6,4),(6,9),(7,0),(7,1),(7,2),(7,3),(7,4),(7,9),(8,0),(8,1),(8,2),(8,3),(8,4),(8,9),(9,0),(9,1),(9,2),(9,3),(9,4),(9,5),(9,6),(9,7),(9,8),(12,13),(13,12),(13,14),(14,13)]) 16 rfl (by decide +kernel) (by decide +kernel) (by rfl) ?_
 refine th_n (AC.seq (AC.seq (AC.region ?_)))
 refine AL.p (by exact mv1 rfl) rfl ?_
 refine AL.p (by exact g_not rfl) rfl ?_
 refine AL.nil (th_n ?_)
 refine AC.condB rfl (fun h0 => ?_) (fun h0 => ?_)
 ·refine AC.seq (AC.region ?_)
  refine AL.p (by exact as1 rfl) rfl ?_
  refine AL.nil (th_n (AC.ret (th_r (bq_r ?_))))
  have q0 : R.2 = false := by simpa using h0
  have e : Z = (c, false) := hP.trans (if_neg (by rw [q0]; simp))
  exact retN [(2, 1)] rfl (by rw [e]; repeat (exact DLead.same)) (by rw [e]; repeat (first | exact True.intro | refine And.intro ?_ ?_ | exact DLead.same | exact rfl | refine ⟨_, _, rfl, rfl, ?_⟩ | refine ⟨_, rfl, ?_⟩ | refine ⟨_, _, rfl, ?_, ?_⟩)) rfl rfl
 ·refine AC.skip (th_n (AC.seq ?_))
  have q0 : R.2 = true := by simpa using h0
  obtain ⟨i, hti, hi, hbR⟩ := hy q0
  subst hti
  have hMR := good_netM hgn hbR
  have hE := enabled_spec s.net R.1 hB.n hMR hbR
  have hRp := repeat_spec (-1) c.since.length (by omega)
  have hP2 := hP.trans (if_pos q0)
  rw [← fillE_all hgn hbR] at hP2
  have hin : ∀ x, x ∈ readyL s.net R.1 s.net.ts.length → ∃ u : Nat, x = u ∧ u < s.net.ts.length := fun x hx => by obtain ⟨u, h1, h2, _⟩ := readyL_iff.1 hx; exact ⟨u, h1, h2⟩
  have hEl := readyL_len s.net R.1 s.net.ts.length
  obtain ⟨E, hEE⟩ : ∃ E, E = readyL s.net R.1 s.net.ts.length := ⟨_, rfl⟩
  rw [← hEE] at hE hP2 hin hEl
  obtain ⟨v, hv⟩ : ∃ v, v = sinceF s.net c.since ((i : Nat) : Int).toNat R.1 at_ := ⟨_, rfl⟩
  rw [← hv] at hP2
  have hgeti := tsL_get hi
  have hpi := (hB.n.t _ (List.getElem_mem hi)).1
  clear hEE hP
  refine AC.region ?_
  refine AL.q (by exact h_litF rfl rfl rfl rfl rfl rfl rfl rfl) rfl ?_
  refine AL.p (by exact mv3 rfl) rfl ?_
  refine AL.p (by exact g_nilP rfl) rfl ?_
  refine AL.p (by exact g_fa_ptr rfl rfl rfl rfl rfl) rfl ?_
  refine AL.p (by exact g_load_ptr rfl rfl rfl rfl rfl) rfl ?_
  refine AL.p (by exact g_len_own (sz := 1) (els := []) (e' := 0) rfl rfl (by simp only [maxLen]; omega)) rfl ?_
  refine AL.q (by exact h_fun (cs := []) en_Repeat rfl rfl (by repeat (first | exact rfl | exact DLead.same | refine ⟨_, _, rfl, ?_, ?_⟩)) (by repeat (exact True.intro)) hRp rfl rfl rfl rfl) rfl ?_
  refine AL.p (by exact as2 rfl) rfl ?_
  refine AL.nil (th_n (AC.seq (AC.seq (AC.region ?_))))
  refine AL.p (by exact mv3 rfl) rfl ?_
  refine AL.p (by exact g_nilP rfl) rfl ?_
  refine AL.p (by exact g_fa_ptr rfl rfl rfl rfl rfl) rfl ?_
  refine AL.p (by exact g_fa_ptr rfl rfl rfl rfl rfl) rfl ?_
  refine AL.p (by exact g_load_ptrN rfl rfl rfl rfl rfl) rfl ?_
  refine AL.p (by exact mv1 rfl) rfl ?_
  refine AL.q (by exact h_pure en_enabled rfl rfl (by repeat (first | exact rfl | exact DLead.same | refine ⟨_, _, rfl, ?_, ?_⟩ | refine ⟨_, rfl, ?_⟩)) hE rfl) rfl ?_
  refine AL.p (by exact g_len_view (k := E.length) rfl rfl (ints_len _)) rfl ?_
  refine AL.p (by exact mv1 rfl) rfl ?_
  refine AL.nil (th_n (AC.block ?_))
  refine AC.loop (ι := Nat) (fun j => ⟨107, 900, [(0, .ptr 0 0), (1, aI (i : Nat)), (2, aI at_), (7, aS (bstr R.1)), (9, .own 101 s.net.ts.length), (41, .d (vI E)), (42, aI E.length), (43, aI j)], chL (ckChs s c 0 1) ++ [(101, some (.arr 3 1 (ints (fillE E s.net.ts.length v j))))]⟩) (fun j => j ≤ E.length) (fun j => E.length - j) (0) ?_ (Nat.zero_le _) ?_
  ·exact Weak.ren _ [(101, _)] hC rfl (by rw [← hl]; repeat (first | exact True.intro | refine And.intro ?_ ?_ | exact DLead.same | exact rfl | refine ⟨_, rfl, ?_⟩)) (by rw [fillE_zero, ← hl]; repeat (first | exact True.intro | refine And.intro ?_ ?_ | exact DLead.same | exact rfl | refine ⟨_, _, rfl, rfl, ?_⟩ | refine ⟨_, rfl, ?_⟩ | refine ⟨_, _, rfl, ?_, ?_⟩)) rfl rfl rfl
  ·intro j hj
   refine AC.seq (AC.region ?_)
   refine AL.p (by exact g_cmp rfl rfl rfl) rfl ?_
   refine AL.nil (th_n (AC.seq ?_))
   refine AC.condD rfl (fun h1 => ?_) (fun h1 => ?_)
   ·refine AC.skip (th_n (AC.seq (AC.block (AC.seq ?_))))
    have hj1 : j < E.length := by omega
    have hget := ints_at hj1
    obtain ⟨e, hje, hen⟩ := hin _ (List.getElem_mem hj1)
    have hset := fillE_set (v := v) hj1 hje hen
    have hrow : (ints (fillE E s.net.ts.length v j))[e]? = some [dI (iAt (fillE E s.net.ts.length v j) e)] := ints_iAt (by rw [fillE_len]; exact hen)
    have hrow2 : ((ints (fillE E s.net.ts.length v j)).set e [dI (iAt c.since e)])[e]? = some [dI (iAt c.since e)] := List.getElem?_set_self (by rw [ints_len, fillE_len]; exact hen)
    have hrs : (ints c.since)[e]? = some [dI (iAt c.since e)] := ints_iAt (by omega)
    have hgete := tsL_get hen
    have hpe := (hB.n.t _ (List.getElem_mem hen)).1
    have hve : v e = if iAt c.since e < 0 then at_ else if e = i then at_ else if shareI s.net.ts[e].pre s.net.ts[i].pre = true then at_ else iAt c.since e := by rw [hv]; unfold sinceF; rw [Int.toNat_natCast, List.getD_eq_getElem?_getD, List.getElem?_eq_getElem hen, List.getD_eq_getElem?_getD, List.getElem?_eq_getElem hi]; rfl
    have hS := share_spec s.net.ts[e].pre s.net.ts[i].pre (by omega) (by omega)
    obtain ⟨sh, hsh⟩ : ∃ sh, sh = shareI s.net.ts[e].pre s.net.ts[i].pre := ⟨_, rfl⟩
    rw [← hsh] at hS hve
    have hst1 : ((ints (fillE E s.net.ts.length v j)).set e [dI (iAt c.since e)]).set e [dI at_] = ints ((fillE E s.net.ts.length v j).set e at_) := by rw [List.set_set, ints_set]
    have hst2 : (ints (fillE E s.net.ts.length v j)).set e [dI (iAt c.since e)] = ints ((fillE E s.net.ts.length v j).set e (iAt c.since e)) := ints_set _ _ _
    refine AC.region ?_
    refine AL.p (by exact g_ia_view rfl rfl rfl rfl rfl (by rfl) (by assumption)) rfl ?_
    refine AL.p (by exact g_load_ref rfl rfl rfl) rfl ?_
    refine AL.p (by exact as1 rfl) rfl ?_
    refine AL.nil (th_n (AC.seq (AC.region ?_)))
    refine AL.p (by exact mv2 rfl) rfl ?_
    refine AL.p (by exact mv1 rfl) rfl ?_
    refine AL.p (by exact mv3 rfl) rfl ?_
    refine AL.p (by exact g_nilP rfl) rfl ?_
    refine AL.p (by exact g_fa_ptr rfl rfl rfl rfl rfl) rfl ?_
    refine AL.p (by exact g_load_ptr rfl rfl rfl rfl rfl) rfl ?_
    refine AL.p (by exact mv1 rfl) rfl ?_
    refine AL.p (by exact g_ia_own (i := e) (l := c.since.length) rfl rfl rfl rfl rfl hje (by omega) (Nat.mul_one _)) rfl ?_
    refine AL.p (by exact g_load_arr1 rfl rfl rfl rfl hrs) rfl ?_
    refine AL.p (by exact g_ia_own (i := e) (l := s.net.ts.length) rfl rfl rfl rfl rfl hje hen (Nat.mul_one _)) rfl ?_
    refine AL.q (by exact h_store_arr1 (d := dI (iAt c.since e)) rfl rfl rfl rfl .same hrow) rfl ?_
    refine AL.nil (th_n (AC.seq ?_))
    refine AC.drawn' mixed_ok [[], [], [0,1], [0,1,2], [0,1,2,3], [0,1,2,3,4], [0,1,2,3,4,5], [0,1,2,3,4,5], [0,1,2,3,4,5,6,7], [0,1,2,3,4,5,6,7,8], [0,1,2,3,4,5,6,7,8,9], [0,1,2,3,4,5,6,7,8,9,10], [0,1,2,3,4,5,6,7,8,9,10,11], [0,1,2,3,4,5,6,7,8,9,10,11,12], [0,1,2,3,4,5,6,7,8,9,10,11,12,13], [0,1,2,3,4,5,6,7,8,9,10,11,12,13,14], [0,1,2,3,4,5,6,7,8,9,10,11,12,13,14,15], [0,1,2,3,4,5,6,7,8,9,10], [0,1,2,3,4,5,6,7,8,9,10,11,12,13,14,15,16,17], [0,1,2,3,4,5,6,7,8,9,10,11,12,13,14,15,16,17,18], [0,1,2,3,4,5,6,7,8,9,10,11,12,13,14,15,16,17,18,19], [0,1,2,3,4,5,6,7,8,9,10], [0,1,2,3,4,5,6,7,8,9,10,21], [0,1,2,3,4,5,6,7,8,9,10,21,22], [0,1,2,3,4,5,6,7,8,9,10,21,22,23], [0,1,2,3,4,5,6,7,8,9,10,21,22,23,24], [0,1,2,3,4,5,6,7,8,9,10,21,22,23,24,25], [0,1,2,3,4,5,6,7,8,9,10], [0,1,2,3,4,5,6,7,8,9,10,21,22,23,24,25,26,27], [0,1,2,3,4,5,6,7,8,9,10,21,22,23,24,25,26,27,28], [0,1,2,3,4,5,6,7,8,9,10,21,22,23,24,25,26,27,28,29], [0,1,2,3,4,5,6,7,8,9,10,11,12,13,14,15,16,17,18,19,20,21,22,23,24,25,26,27,28,29,30], [0,1,2,3,4,5,6,7,8,9,10,11,12,13,14,15,16,17,18,19,20,21,22,23,24,25,26,27,28,29,30,31]] (by decide) ?_
    refine DF.op 0 [] 33 rfl rfl rfl (.free rfl (NOp.of (by exact mv2 rfl))) rfl ?_
    refine DF.op 1 [] 33 rfl rfl rfl (.free rfl (NOp.of (by exact mv1 rfl))) rfl ?_
    refine DF.op 2 [0,1] 33 rfl rfl rfl (.free rfl (NOp.of (by exact g_ia_own (i := e) (l := s.net.ts.length) rfl rfl rfl rfl rfl hje hen (Nat.mul_one _)))) rfl ?_
    refine DF.op 3 [0,1,2] 33 rfl rfl rfl (.free rfl (NOp.of (by exact g_load_arr1 rfl rfl rfl rfl hrow2))) rfl ?_
    refine DF.op 4 [0,1,2,3] 33 rfl rfl rfl (.free rfl (NOp.of (by exact g_cmp rfl rfl rfl))) rfl ?_
    refine DF.op 5 [0,1,2,3,4] 33 rfl rfl rfl (.free rfl (NOp.of (by exact mv1 rfl))) rfl ?_
    refine DF.caseD 5 rfl (fun h2 => ?_) (fun h2 => ?_)
    ·refine DF.op (ids := []) 6 [0,1,2,3,4,5] 33 rfl rfl rfl (.no rfl rfl rfl rfl rfl rfl) rfl ?_
     refine DF.op (ids := []) 7 [0,1,2,3,4,5] 33 rfl rfl rfl (.no rfl rfl rfl rfl rfl rfl) rfl ?_
     refine DF.op (ids := []) 8 [0,1,2,3,4,5,6,7] 33 rfl rfl rfl (.no rfl rfl rfl rfl rfl rfl) rfl ?_
     refine DF.op 9 (List.range 9) 33 rfl rfl rfl (.free rfl (NOp.of (by exact g_pickT (r := .d _) rfl rfl))) rfl ?_
     refine DF.op 10 (List.range 10) 33 rfl rfl rfl (.free rfl (NOp.of (by exact mv1 rfl))) rfl ?_
     refine DF.op (ids := []) 11 (List.range 11) 33 rfl rfl rfl (.no rfl rfl rfl rfl rfl rfl) rfl ?_
     refine DF.op (ids := []) 12 (List.range 12) 33 rfl rfl rfl (.no rfl rfl rfl rfl rfl rfl) rfl ?_
     refine DF.op (ids := []) 13 (List.range 13) 33 rfl rfl rfl (.no rfl rfl rfl rfl rfl rfl) rfl ?_
     refine DF.op (ids := []) 14 (List.range 14) 33 rfl rfl rfl (.no rfl rfl rfl rfl rfl rfl) rfl ?_
     refine DF.op (ids := []) 15 (List.range 15) 33 rfl rfl rfl (.no rfl rfl rfl rfl rfl rfl) rfl ?_
     refine DF.op (ids := []) 16 (List.range 16) 33 rfl rfl rfl (.no rfl rfl rfl rfl rfl rfl) rfl ?_
     refine DF.op (ids := []) 17 (List.range 11) 33 rfl rfl rfl (.no rfl rfl rfl rfl rfl rfl) rfl ?_
     refine DF.op (ids := []) 18 (List.range 18) 33 rfl rfl rfl (.no rfl rfl rfl rfl rfl rfl) rfl ?_
     refine DF.op (ids := []) 19 (List.range 19) 33 rfl rfl rfl (.no rfl rfl rfl rfl rfl rfl) rfl ?_
     refine DF.op (ids := []) 20 (List.range 20) 33 rfl rfl rfl (.no rfl rfl rfl rfl rfl rfl) rfl ?_
     refine DF.op (ids := []) 21 (List.range 11) 33 rfl rfl rfl (.no rfl rfl rfl rfl rfl rfl) rfl ?_
     refine DF.op (ids := []) 22 [0,1,2,3,4,5,6,7,8,9,10,21] 33 rfl rfl rfl (.no rfl rfl rfl rfl rfl rfl) rfl ?_
     refine DF.op (ids := []) 23 [0,1,2,3,4,5,6,7,8,9,10,21,22] 33 rfl rfl rfl (.no rfl rfl rfl rfl rfl rfl) rfl ?_
     refine DF.op (ids := []) 24 [0,1,2,3,4,5,6,7,8,9,10,21,22,23] 33 rfl rfl rfl (.no rfl rfl rfl rfl rfl rfl) rfl ?_
     refine DF.op (ids := []) 25 [0,1,2,3,4,5,6,7,8,9,10,21,22,23,24] 33 rfl rfl rfl (.no rfl rfl rfl rfl rfl rfl) rfl ?_
     refine DF.op (ids := []) 26 [0,1,2,3,4,5,6,7,8,9,10,21,22,23,24,25] 33 rfl rfl rfl (.no rfl rfl rfl rfl rfl rfl) rfl ?_
     refine DF.op (ids := []) 27 (List.range 11) 33 rfl rfl rfl (.no rfl rfl rfl rfl rfl rfl) rfl ?_
     refine DF.op (ids := []) 28 [0,1,2,3,4,5,6,7,8,9,10,21,22,23,24,25,26,27] 33 rfl rfl rfl (.no rfl rfl rfl rfl rfl rfl) rfl ?_
     refine DF.op (ids := []) 29 [0,1,2,3,4,5,6,7,8,9,10,21,22,23,24,25,26,27,28] 33 rfl rfl rfl (.no rfl rfl rfl rfl rfl rfl) rfl ?_
     refine DF.op (ids := []) 30 [0,1,2,3,4,5,6,7,8,9,10,21,22,23,24,25,26,27,28,29] 33 rfl rfl rfl (.no rfl rfl rfl rfl rfl rfl) rfl ?_
     refine DF.op (ids := []) 31 (List.range 31) 33 rfl rfl rfl (.no rfl rfl rfl rfl rfl rfl) rfl ?_
     refine DF.op 32 (List.range 32) 33 rfl rfl rfl (.free rfl (NOp.of (by exact g_pickT (r := .d _) rfl rfl))) rfl ?_
     refine DF.fin (ps := [(0,1),(1,0),(6,7),(7,6),(11,17),(11,21),(11,22),(11,23),(11,24),(11,25),(11,26),(11,27),(11,28),(11,29),(11,30),(12,17),(12,21),(12,22),(12,23),(12,24),(12,25),(12,26),(12,27),(12,28),(12,29),(12,30),(13,17),(13,21),(13,22),(13,23),(13,24),(13,25),(13,26),(13,27),(13,28),(13,29),(13,30),(14,17),(14,21),(14,22),(14,23),(14,24),(14,25),(14,26),(14,27),(14,28),(14,29),(14,30),(15,17),(15,21),(15,22),(15,23),(15,24),(15,25),(15,26),(15,27),(15,28),(15,29),(15,30),(16,17),(16,21),(16,22),(16,23),(16,24),(16,25),(16,26),(16,27),(16,28),(16,29),(16,30),(17,11),(17,12),(17,13),(17,14),(17,15),(17,16),(17,21),(17,22),(17,23),(17,24),(17,25),(17,26),(17,27),(17,28),(17,29),(17,30),(18,21),(18,22),(18,23),(18,24),(18,25),(18,26),(18,27),(18,28),(18,29),(18,30),(19,21),(19,22),(19,23),(19,24),(19,25),(19,26),(19,27),(19,28),(19,29),(19,30),(20,21),(20,22),(20,23),(20,24),(20,25),(20,26),(20,27),(20,28),(20,29),(20,30),(21,11),(21,12),(21,13),(21,14),(21,15),(21,16),(21,17),(21,18),(21,19),(21,20),(21,27),(22,11),(22,12),(22,13),(22,14),(22,15),(22,16),(22,17),(22,18),(22,19),(22,20),(22,27),(23,11),(23,12),(23,13),(23,14),(23,15),(23,16),(23,17),(23,18),(23,19),(23,20),(23,27),(24,11),(24,12),(24,13),(24,14),(24,15),(24,16),(24,17),(24,18),(24,19),(24,20),(24,27),(25,11),(25,12),(25,13),(25,14),(25,15),(25,16),(25,17),(25,18),(25,19),(25,20),(25,27),(26,11),(26,12),(26,13),(26,14),(26,15),(26,16),(26,17),(26,18),(26,19),(26,20),(26,27),(27,11),(27,12),(27,13),(27,14),(27,15),(27,16),(27,17),(27,18),(27,19),(27,20),(27,21),(27,22),(27,23),(27,24),(27,25),(27,26),(28,11),(28,12),(28,13),(28,14),(28,15),(28,16),(28,17),(28,18),(28,19),(28,20),(29,11),(29,12),(29,13),(29,14),(29,15),(29,16),(29,17),(29,18),(29,19),(29,20),(30,11),(30,12),(30,13),(30,14),(30,15),(30,16),(30,17),(30,18),(30,19),(30,20)]) 33 rfl (by decide +kernel) (by decide +kernel) (by rfl) ?_
     refine th_n ?_
     refine AC.condT rfl ?_
     refine AC.region ?_
     refine AL.p (by exact mv2 rfl) rfl ?_
     refine AL.p (by exact mv1 rfl) rfl ?_
     refine AL.p (by exact mv1 rfl) rfl ?_
     refine AL.p (by exact g_ia_own (i := e) (l := s.net.ts.length) rfl rfl rfl rfl rfl hje hen (Nat.mul_one _)) rfl ?_
     refine AL.q (by exact h_store_arr1 (d := dI at_) rfl rfl rfl rfl .same hrow2) rfl ?_
     refine AL.nil (ib_n (th_n (AC.region ?_)))
     refine AL.p (by exact g_arith rfl rfl rfl (by exact wrap_i64 (by omega))) rfl ?_
     refine AL.p (by exact mv1 rfl) rfl ?_
     refine AL.nil (th_n ?_)
     (have ev : v e = at_ := (by rw [hve, if_pos h2]); exact ⟨j + 1, by omega, by omega, Weak.ren _ [(101, 101)] hC rfl (by repeat (first | exact True.intro | refine And.intro ?_ ?_ | exact DLead.same | exact rfl | refine ⟨_, rfl, ?_⟩)) (by rw [← hset, ev, ← hst1]; repeat (first | exact True.intro | refine And.intro ?_ ?_ | exact DLead.same | exact rfl | refine ⟨_, _, rfl, rfl, ?_⟩ | refine ⟨_, rfl, ?_⟩ | refine ⟨_, _, rfl, ?_, ?_⟩)) rfl rfl rfl⟩)
    ·refine DF.op 6 [0,1,2,3,4,5] 33 rfl rfl rfl (.yes rfl rfl rfl rfl (NOp.of (by exact mv1 rfl))) rfl ?_
     refine DF.op 7 [0,1,2,3,4,5] 33 rfl rfl rfl (.yes rfl rfl rfl rfl (NOp.of (by exact mv1 rfl))) rfl ?_
     refine DF.op 8 [0,1,2,3,4,5,6,7] 33 rfl rfl rfl (.yes rfl rfl rfl rfl (NOp.of (by exact g_cmp rfl rfl rfl))) rfl ?_
     refine DF.op 9 (List.range 9) 33 rfl rfl rfl (.free rfl (NOp.of (by exact g_pickF (r := .d _) rfl rfl))) rfl ?_
     refine DF.op 10 (List.range 10) 33 rfl rfl rfl (.free rfl (NOp.of (by exact mv1 rfl))) rfl ?_
     refine DF.caseD 10 rfl (fun h3 => ?_) (fun h3 => ?_)
     ·refine DF.op (ids := []) 11 (List.range 11) 33 rfl rfl rfl (.no rfl rfl rfl rfl rfl rfl) rfl ?_
      refine DF.op (ids := []) 12 (List.range 12) 33 rfl rfl rfl (.no rfl rfl rfl rfl rfl rfl) rfl ?_
      refine DF.op (ids := []) 13 (List.range 13) 33 rfl rfl rfl (.no rfl rfl rfl rfl rfl rfl) rfl ?_
      refine DF.op (ids := []) 14 (List.range 14) 33 rfl rfl rfl (.no rfl rfl rfl rfl rfl rfl) rfl ?_
      refine DF.op (ids := []) 15 (List.range 15) 33 rfl rfl rfl (.no rfl rfl rfl rfl rfl rfl) rfl ?_
      refine DF.op (ids := []) 16 (List.range 16) 33 rfl rfl rfl (.no rfl rfl rfl rfl rfl rfl) rfl ?_
      refine DF.op (ids := []) 17 (List.range 11) 33 rfl rfl rfl (.no rfl rfl rfl rfl rfl rfl) rfl ?_
      refine DF.op (ids := []) 18 (List.range 18) 33 rfl rfl rfl (.no rfl rfl rfl rfl rfl rfl) rfl ?_
      refine DF.op (ids := []) 19 (List.range 19) 33 rfl rfl rfl (.no rfl rfl rfl rfl rfl rfl) rfl ?_
      refine DF.op (ids := []) 20 (List.range 20) 33 rfl rfl rfl (.no rfl rfl rfl rfl rfl rfl) rfl ?_
      refine DF.op (ids := []) 21 (List.range 11) 33 rfl rfl rfl (.no rfl rfl rfl rfl rfl rfl) rfl ?_
      refine DF.op (ids := []) 22 [0,1,2,3,4,5,6,7,8,9,10,21] 33 rfl rfl rfl (.no rfl rfl rfl rfl rfl rfl) rfl ?_
      refine DF.op (ids := []) 23 [0,1,2,3,4,5,6,7,8,9,10,21,22] 33 rfl rfl rfl (.no rfl rfl rfl rfl rfl rfl) rfl ?_
      refine DF.op (ids := []) 24 [0,1,2,3,4,5,6,7,8,9,10,21,22,23] 33 rfl rfl rfl (.no rfl rfl rfl rfl rfl rfl) rfl ?_
      refine DF.op (ids := []) 25 [0,1,2,3,4,5,6,7,8,9,10,21,22,23,24] 33 rfl rfl rfl (.no rfl rfl rfl rfl rfl rfl) rfl ?_
      refine DF.op (ids := []) 26 [0,1,2,3,4,5,6,7,8,9,10,21,22,23,24,25] 33 rfl rfl rfl (.no rfl rfl rfl rfl rfl rfl) rfl ?_
      refine DF.op (ids := []) 27 (List.range 11) 33 rfl rfl rfl (.no rfl rfl rfl rfl rfl rfl) rfl ?_
      refine DF.op (ids := []) 28 [0,1,2,3,4,5,6,7,8,9,10,21,22,23,24,25,26,27] 33 rfl rfl rfl (.no rfl rfl rfl rfl rfl rfl) rfl ?_
      refine DF.op (ids := []) 29 [0,1,2,3,4,5,6,7,8,9,10,21,22,23,24,25,26,27,28] 33 rfl rfl rfl (.no rfl rfl rfl rfl rfl rfl) rfl ?_
      refine DF.op (ids := []) 30 [0,1,2,3,4,5,6,7,8,9,10,21,22,23,24,25,26,27,28,29] 33 rfl rfl rfl (.no rfl rfl rfl rfl rfl rfl) rfl ?_
      refine DF.op (ids := []) 31 (List.range 31) 33 rfl rfl rfl (.no rfl rfl rfl rfl rfl rfl) rfl ?_
      refine DF.op 32 (List.range 32) 33 rfl rfl rfl (.free rfl (NOp.of (by exact g_pickT (r := .d _) rfl rfl))) rfl ?_
      refine DF.fin (ps := [(0,1),(1,0),(6,7),(7,6),(11,17),(11,21),(11,22),(11,23),(11,24),(11,25),(11,26),(11,27),(11,28),(11,29),(11,30),(12,17),(12,21),(12,22),(12,23),(12,24),(12,25),(12,26),(12,27),(12,28),(12,29),(12,30),(13,17),(13,21),(13,22),(13,23),(13,24),(13,25),(13,26),(13,27),(13,28),(13,29),(13,30),(14,17),(14,21),(14,22),(14,23),(14,24),(14,25),(14,26),(14,27),(14,28),(14,29),(14,30),(15,17),(15,21),(15,22),(15,23),(15,24),(15,25),(15,26),(15,27),(15,28),(15,29),(15,30),(16,17),(16,21),(16,22),(16,23),(16,24),(16,25),(16,26),(16,27),(16,28),(16,29),(16,30),(17,11),(17,12),(17,13),(17,14),(17,15),(17,16),(17,21),(17,22),(17,23),(17,24),(17,25),(17,26),(17,27),(17,28),(17,29),(17,30),(18,21),(18,22),(18,23),(18,24),(18,25),(18,26),(18,27),(18,28),(18,29),(18,30),(19,21),(19,22),(19,23),(19,24),(19,25),(19,26),(19,27),(19,28),(19,29),(19,30),(20,21),(20,22),(20,23),(20,24),(20,25),(20,26),(20,27),(20,28),(20,29),(20,30),(21,11),(21,12),(21,13),(21,14),(21,15),(21,16),(21,17),(21,18),(21,19),(21,20),(21,27),(22,11),(22,12),(22,13),(22,14),(22,15),(22,16),(22,17),(22,18),(22,19),(22,20),(22,27),(23,11),(23,12),(23,13),(23,14),(23,15),(23,16),(23,17),(23,18),(23,19),(23,20),(23,27),(24,11),(24,12),(24,13),(24,14),(24,15),(24,16),(24,17),(24,18),(24,19),(24,20),(24,27),(25,11),(25,12),(25,13),(25,14),(25,15),(25,16),(25,17),(25,18),(25,19),(25,20),(25,27),(26,11),(26,12),(26,13),(26,14),(26,15),(26,16),(26,17),(26,18),(26,19),(26,20),(26,27),(27,11),(27,12),(27,13),(27,14),(27,15),(27,16),(27,17),(27,18),(27,19),(27,20),(27,21),(27,22),(27,23),(27,24),(27,25),(27,26),(28,11),(28,12),(28,13),(28,14),(28,15),(28,16),(28,17),(28,18),(28,19),(28,20),(29,11),(29,12),(29,13),(29,14),(29,15),(29,16),(29,17),(29,18),(29,19),(29,20),(30,11),(30,12),(30,13),(30,14),(30,15),(30,16),(30,17),(30,18),(30,19),(30,20)]) 33 rfl (by decide +kernel) (by decide +kernel) (by rfl) ?_
      refine th_n ?_
      refine AC.condT rfl ?_
      refine AC.region ?_
      refine AL.p (by exact mv2 rfl) rfl ?_
      refine AL.p (by exact mv1 rfl) rfl ?_
      refine AL.p (by exact mv1 rfl) rfl ?_
      refine AL.p (by exact g_ia_own (i := e) (l := s.net.ts.length) rfl rfl rfl rfl rfl hje hen (Nat.mul_one _)) rfl ?_
      refine AL.q (by exact h_store_arr1 (d := dI at_) rfl rfl rfl rfl .same hrow2) rfl ?_
      refine AL.nil (ib_n (th_n (AC.region ?_)))
      refine AL.p (by exact g_arith rfl rfl rfl (by exact wrap_i64 (by omega))) rfl ?_
      refine AL.p (by exact mv1 rfl) rfl ?_
      refine AL.nil (th_n ?_)
      (have ev : v e = at_ := (by rw [hve, if_neg h2, if_pos (by omega)]); exact ⟨j + 1, by omega, by omega, Weak.ren _ [(101, 101)] hC rfl (by repeat (first | exact True.intro | refine And.intro ?_ ?_ | exact DLead.same | exact rfl | refine ⟨_, rfl, ?_⟩)) (by rw [← hset, ev, ← hst1]; repeat (first | exact True.intro | refine And.intro ?_ ?_ | exact DLead.same | exact rfl | refine ⟨_, _, rfl, rfl, ?_⟩ | refine ⟨_, rfl, ?_⟩ | refine ⟨_, _, rfl, ?_, ?_⟩)) rfl rfl rfl⟩)
     ·refine DF.op 11 (List.range 11) 33 rfl rfl rfl (.yes rfl rfl rfl rfl (NOp.of (by exact mv3 rfl))) rfl ?_
      refine DF.op 12 (List.range 12) 33 rfl rfl rfl (.yes rfl rfl rfl rfl (NOp.of (by exact g_nilP rfl))) rfl ?_
      refine DF.op 13 (List.range 13) 33 rfl rfl rfl (.yes rfl rfl rfl rfl (NOp.of (by exact g_fa_ptr rfl rfl rfl rfl rfl))) rfl ?_
      refine DF.op 14 (List.range 14) 33 rfl rfl rfl (.yes rfl rfl rfl rfl (NOp.of (by exact g_fa_ptr rfl rfl rfl rfl rfl))) rfl ?_
      refine DF.op 15 (List.range 15) 33 rfl rfl rfl (.yes rfl rfl rfl rfl (NOp.of (by exact g_fa_ptr rfl rfl rfl rfl rfl))) rfl ?_
      refine DF.op 16 (List.range 16) 33 rfl rfl rfl (.yes rfl rfl rfl rfl (NOp.of (by exact g_load_ptr rfl rfl rfl rfl rfl))) rfl ?_
      refine DF.op 17 (List.range 11) 33 rfl rfl rfl (.yes rfl rfl rfl rfl (NOp.of (by exact mv1 rfl))) rfl ?_
      refine DF.op 18 (List.range 18) 33 rfl rfl rfl (.yes rfl rfl rfl rfl (NOp.of (by exact g_ia_view (i := e) rfl rfl rfl rfl rfl hje hgete))) rfl ?_
      refine DF.op 19 (List.range 19) 33 rfl rfl rfl (.yes rfl rfl rfl rfl (NOp.of (by exact g_fa_ref rfl rfl rfl rfl rfl rfl))) rfl ?_
      refine DF.op 20 (List.range 20) 33 rfl rfl rfl (.yes rfl rfl rfl rfl (NOp.of (by exact g_load_ref rfl rfl rfl))) rfl ?_
      refine DF.op 21 (List.range 11) 33 rfl rfl rfl (.yes rfl rfl rfl rfl (NOp.of (by exact mv3 rfl))) rfl ?_
      refine DF.op 22 [0,1,2,3,4,5,6,7,8,9,10,21] 33 rfl rfl rfl (.yes rfl rfl rfl rfl (NOp.of (by exact g_nilP rfl))) rfl ?_
      refine DF.op 23 [0,1,2,3,4,5,6,7,8,9,10,21,22] 33 rfl rfl rfl (.yes rfl rfl rfl rfl (NOp.of (by exact g_fa_ptr rfl rfl rfl rfl rfl))) rfl ?_
      refine DF.op 24 [0,1,2,3,4,5,6,7,8,9,10,21,22,23] 33 rfl rfl rfl (.yes rfl rfl rfl rfl (NOp.of (by exact g_fa_ptr rfl rfl rfl rfl rfl))) rfl ?_
      refine DF.op 25 [0,1,2,3,4,5,6,7,8,9,10,21,22,23,24] 33 rfl rfl rfl (.yes rfl rfl rfl rfl (NOp.of (by exact g_fa_ptr rfl rfl rfl rfl rfl))) rfl ?_
      refine DF.op 26 [0,1,2,3,4,5,6,7,8,9,10,21,22,23,24,25] 33 rfl rfl rfl (.yes rfl rfl rfl rfl (NOp.of (by exact g_load_ptr rfl rfl rfl rfl rfl))) rfl ?_
      refine DF.op 27 (List.range 11) 33 rfl rfl rfl (.yes rfl rfl rfl rfl (NOp.of (by exact mv1 rfl))) rfl ?_
      refine DF.op 28 [0,1,2,3,4,5,6,7,8,9,10,21,22,23,24,25,26,27] 33 rfl rfl rfl (.yes rfl rfl rfl rfl (NOp.of (by exact g_ia_view (i := i) rfl rfl rfl rfl rfl rfl hgeti))) rfl ?_
      refine DF.op 29 [0,1,2,3,4,5,6,7,8,9,10,21,22,23,24,25,26,27,28] 33 rfl rfl rfl (.yes rfl rfl rfl rfl (NOp.of (by exact g_fa_ref rfl rfl rfl rfl rfl rfl))) rfl ?_
      refine DF.op 30 [0,1,2,3,4,5,6,7,8,9,10,21,22,23,24,25,26,27,28,29] 33 rfl rfl rfl (.yes rfl rfl rfl rfl (NOp.of (by exact g_load_ref rfl rfl rfl))) rfl ?_
      refine DF.op 31 (List.range 31) 33 rfl rfl rfl (.yes rfl rfl rfl rfl (by exact h_pure en_share rfl rfl (by repeat (first | exact rfl | exact DLead.same | refine ⟨_, _, rfl, ?_, ?_⟩)) hS rfl)) rfl ?_
      refine DF.op 32 (List.range 32) 33 rfl rfl rfl (.free rfl (NOp.of (by exact g_pickF (r := .d _) rfl rfl))) rfl ?_
      refine DF.fin (ps := [(0,1),(1,0),(6,7),(7,6),(11,17),(11,21),(11,22),(11,23),(11,24),(11,25),(11,26),(11,27),(11,28),(11,29),(11,30),(12,17),(12,21),(12,22),(12,23),(12,24),(12,25),(12,26),(12,27),(12,28),(12,29),(12,30),(13,17),(13,21),(13,22),(13,23),(13,24),(13,25),(13,26),(13,27),(13,28),(13,29),(13,30),(14,17),(14,21),(14,22),(14,23),(14,24),(14,25),(14,26),(14,27),(14,28),(14,29),(14,30),(15,17),(15,21),(15,22),(15,23),(15,24),(15,25),(15,26),(15,27),(15,28),(15,29),(15,30),(16,17),(16,21),(16,22),(16,23),(16,24),(16,25),(16,26),(16,27),(16,28),(16,29),(16,30),(17,11),(17,12),(17,13),(17,14),(17,15),(17,16),(17,21),(17,22),(17,23),(17,24),(17,25),(17,26),(17,27),(17,28),(17,29),(17,30),(18,21),(18,22),(18,23),(18,24),(18,25),(18,26),(18,27),(18,28),(18,29),(18,30),(19,21),(19,22),(19,23),(19,24),(19,25),(19,26),(19,27),(19,28),(19,29),(19,30),(20,21),(20,22),(20,23),(20,24),(20,25),(20,26),(20,27),(20,28),(20,29),(20,30),(21,11),(21,12),(21,13),(21,14),(21,15),(21,16),(21,17),(21,18),(21,19),(21,20),(21,27),(22,11),(22,12),(22,13),(22,14),(22,15),(22,16),(22,17),(22,18),(22,19),(22,20),(22,27),(23,11),(23,12),(23,13),(23,14),(23,15),(23,16),(23,17),(23,18),(23,19),(23,20),(23,27),(24,11),(24,12),(24,13),(24,14),(24,15),(24,16),(24,17),(24,18),(24,19),(24,20),(24,27),(25,11),(25,12),(25,13),(25,14),(25,15),(25,16),(25,17),(25,18),(25,19),(25,20),(25,27),(26,11),(26,12),(26,13),(26,14),(26,15),(26,16),(26,17),(26,18),(26,19),(26,20),(26,27),(27,11),(27,12),(27,13),(27,14),(27,15),(27,16),(27,17),(27,18),(27,19),(27,20),(27,21),(27,22),(27,23),(27,24),(27,25),(27,26),(28,11),(28,12),(28,13),(28,14),(28,15),(28,16),(28,17),(28,18),(28,19),(28,20),(29,11),(29,12),(29,13),(29,14),(29,15),(29,16),(29,17),(29,18),(29,19),(29,20),(30,11),(30,12),(30,13),(30,14),(30,15),(30,16),(30,17),(30,18),(30,19),(30,20)]) 33 rfl (by decide +kernel) (by decide +kernel) (by rfl) ?_
      refine th_n ?_
      refine AC.condB rfl (fun h4 => ?_) (fun h4 => ?_)
      ·refine AC.region ?_
       refine AL.p (by exact mv2 rfl) rfl ?_
       refine AL.p (by exact mv1 rfl) rfl ?_
       refine AL.p (by exact mv1 rfl) rfl ?_
       refine AL.p (by exact g_ia_own (i := e) (l := s.net.ts.length) rfl rfl rfl rfl rfl hje hen (Nat.mul_one _)) rfl ?_
       refine AL.q (by exact h_store_arr1 (d := dI at_) rfl rfl rfl rfl .same hrow2) rfl ?_
       refine AL.nil (ib_n (th_n (AC.region ?_)))
       refine AL.p (by exact g_arith rfl rfl rfl (by exact wrap_i64 (by omega))) rfl ?_
       refine AL.p (by exact mv1 rfl) rfl ?_
       refine AL.nil (th_n ?_)
       (have ev : v e = at_ := (by rw [hve, if_neg h2, if_neg (by omega), if_pos h4]); exact ⟨j + 1, by omega, by omega, Weak.ren _ [(101, 101)] hC rfl (by repeat (first | exact True.intro | refine And.intro ?_ ?_ | exact DLead.same | exact rfl | refine ⟨_, rfl, ?_⟩)) (by rw [← hset, ev, ← hst1]; repeat (first | exact True.intro | refine And.intro ?_ ?_ | exact DLead.same | exact rfl | refine ⟨_, _, rfl, rfl, ?_⟩ | refine ⟨_, rfl, ?_⟩ | refine ⟨_, _, rfl, ?_, ?_⟩)) rfl rfl rfl⟩)
      ·refine AC.skip (ib_n (th_n (AC.region ?_)))
       refine AL.p (by exact g_arith rfl rfl rfl (by exact wrap_i64 (by omega))) rfl ?_
       refine AL.p (by exact mv1 rfl) rfl ?_
       refine AL.nil (th_n ?_)
       (have ev : v e = iAt c.since e := (by rw [hve, if_neg h2, if_neg (by omega), if_neg (by rw [h4]; simp)]); exact ⟨j + 1, by omega, by omega, Weak.ren _ [(101, 101)] hC rfl (by repeat (first | exact True.intro | refine And.intro ?_ ?_ | exact DLead.same | exact rfl | refine ⟨_, rfl, ?_⟩)) (by rw [← hset, ev, ← hst2]; repeat (first | exact True.intro | refine And.intro ?_ ?_ | exact DLead.same | exact rfl | refine ⟨_, _, rfl, rfl, ?_⟩ | refine ⟨_, rfl, ?_⟩ | refine ⟨_, _, rfl, ?_, ?_⟩)) rfl rfl rfl⟩)
   ·refine AC.exit (th_e (th_e (ib_y (th_n (AC.seq ?_)))))
    have hjE : j = E.length := by omega
    subst hjE
    refine AC.region ?_
    refine AL.p (by exact mv3 rfl) rfl ?_
    refine AL.p (by exact mv3 rfl) rfl ?_
    refine AL.p (by exact mv3 rfl) rfl ?_
    refine AL.p (by exact mv1 rfl) rfl ?_
    refine AL.p (by exact mv1 rfl) rfl ?_
    refine AL.p (by exact mv2 rfl) rfl ?_
    refine AL.p (by exact g_nilP rfl) rfl ?_
    refine AL.p (by exact g_fa_ptr rfl rfl rfl rfl rfl) rfl ?_
    refine AL.q (by exact h_store rfl rfl rfl rfl rfl rfl) rfl ?_
    refine AL.p (by exact g_nilP rfl) rfl ?_
    refine AL.p (by exact g_fa_ptr rfl rfl rfl rfl rfl) rfl ?_
    refine AL.q (by exact h_store rfl rfl rfl rfl rfl rfl) rfl ?_
    refine AL.p (by exact g_nilP rfl) rfl ?_
    refine AL.p (by exact g_fa_ptr rfl rfl rfl rfl rfl) rfl ?_
    refine AL.q (by exact h_store rfl rfl rfl rfl rfl rfl) rfl ?_
    refine AL.nil (th_n (AC.seq (AC.region ?_)))
    refine AL.p (by exact as1 rfl) rfl ?_
    refine AL.nil (th_n (AC.ret (bq_r ?_)))
    have hfl := fillE_len E s.net.ts.length v E.length
    exact retN [(2, 101)] rfl (by rw [hP2]; repeat (exact DLead.same)) (by rw [hP2]; dsimp only [ckChs, ckC]; rw [hfl]; repeat (first | exact True.intro | refine And.intro ?_ ?_ | exact DLead.same | exact rfl | refine ⟨_, _, rfl, rfl, ?_⟩ | refine ⟨_, rfl, ?_⟩ | refine ⟨_, _, rfl, ?_, ?_⟩)) rfl rfl
theorem en_ckFire : Enters Tryz.prog 47 := enters_of Tryz.func47 rfl rfl
end Go.Proofs.YtmacodlgmebikaaGreatDoor
