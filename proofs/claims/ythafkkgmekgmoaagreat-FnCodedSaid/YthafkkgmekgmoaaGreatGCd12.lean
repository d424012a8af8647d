/- Contracts of the functions of the program and of the reference, each proved by a walk through its code. -/
import Derived.WalkKit
import Derived.WalkSpells
import Derived.WalkLawsBesides
import Derived.Deep.Draws
import Derived.Lib.Hide
import Derived.Maps.AppendAt
import Derived.OwnWalk
import Derived.Deep.MidRow
import Derived.Laws.ResultCell
import Derived.Deep.Upon
import Derived.Great.FillDense
import Derived.Laws.Tables
import Derived.Laws.BytesArg
import Derived.Laws.MakeOwn
import Derived.Great.BuildSlice
import Derived.ArgAppend
import Derived.Deep.AppendSrc
import Derived.Test.YthafkkgmekgmoaaGreatProg
import Derived.KernelRfl
import Derived.Orders
import Derived.Laws.IdiomStrings
import Derived.Lib.AppendZerosOnto
import Derived.ProofKit
import Derived.OpenShut
import Derived.Lib.SliceRun
import Derived.Laws.StructEq
import Derived.ChangeKeysEq
import Derived.Sort.Grow
import Derived.Laws.RangeString
import Derived.Below
import Derived.Laws.Small
import Derived.MapKept
import Derived.WideMake
import Derived.Laws.IdiomCopy
import Derived.Shelf.Bits.Mul64
import Derived.Test.YthafkkgmekgmoaaGreatRows
import Derived.Test.YthafkkgmekgmoaaGreatGCd11
set_option linter.all false
set_option maxRecDepth 20000
namespace Go.Proofs.YthafkkgmekgmoaaGreat
open Go.RowKit
abbrev stgCc (s : Stg) : List AV := [aI s.net.places, .d (vTs s.net.ts), .d (vSigs s.sigs), .d (vLabs s.labs), aS (bstr s.start)]
theorem codeS_L {s : Stg} (hs : StgS s) : SgL (codeS s).1 := by
 by_cases h : (codeS s).2 = true
 ·exact (codeS_S hs h).L (by omega)
 ·unfold codeS at h ⊢
  split
  ·rename_i q; rw [if_pos q] at h; exact absurd rfl h
  ·exact ⟨Nat.zero_le _, fun t ht => (by cases ht), Nat.zero_le _, fun t ht => (by cases ht), Nat.zero_le _⟩
set_option maxHeartbeats 64000000 in
theorem FnCoded_spec (code more : List UInt8) (hc : code.length ≤ 9223372036854775807) (hm : more.length ≤ 9223372036854775807) : ASpec Tryz.prog 5 [.d (vB code), .d (vB more)] [] (Pure1 (aT true)) := by
 have hBig := big_spec code more hc hm
 have hD1 := sDrawBuild_spec code
 have hD2 := sDrawValidSg_spec more
 have hD3 := sDrawEqSg_spec more
 have hD4 := sDrawIncon_spec more
 refine ASpec.of Tryz.func5 rfl rfl fun C hC => ?_
 refine AC.seq (AC.region ?_)
 refine za ?_
 refine AL.nil (th_n (AC.seq (AC.seq (AC.region ?_))))
 refine zm ?_
 refine zm ?_
 refine AL.q (by exact h_pure en_big rfl rfl (by repeat (first | exact rfl | exact DLead.same | refine ⟨_, _, rfl, ?_, ?_⟩)) hBig rfl) rfl ?_
 refine AL.nil (th_n ?_)
 refine AC.condB rfl (fun h0 => ?_) (fun h0 => ?_)
 ·refine AC.seq (AC.region ?_)
  refine za ?_
  refine AL.nil (th_n (AC.ret (th_r (bq_r ?_))))
  exact ret1 rfl rfl
 ·refine AC.skip (th_n (AC.seq (AC.region ?_)))
  refine zm ?_
  refine AL.r (by exact h_funR (cs := []) en_sDrawBuild rfl rfl (by repeat (first | exact rfl | exact DLead.same | refine ⟨_, _, rfl, ?_, ?_⟩)) (by repeat (exact True.intro)) hD1 rfl rfl rfl) rfl ?_
  rintro _ ⟨_, _, ⟨s, hs, rfl, rfl⟩, rfl⟩
  have hB := hs.B
  have hb1 := iBuild_spec s hB
  have hb2 := sBuild_spec s hB
  have hi1 := iIncon_spec s hB
  have hi2 := sIncon_spec s hB
  have hxp := iExplore_spec s hB
  have hin := iInit_spec s hB
  have hfc := @code_facts s
  have hval := @code_valid s
  have hno := @inc_no s
  have hil := incR_len hs
  have hGL := codeS_L hs
  have hXi := explS_in s
  have hPS := pSameCoded_spec (codeS s).1 (codeS s).1 hGL hGL
  rw [eqC_refl] at hPS
  have hVa := iValidSg_spec (codeS s).1 hGL
  have hSI := sameInts_spec (incR s).1 (incR s).1 (by omega) (by omega)
  rw [decide_eq_true rfl] at hSI
  have hGn := hGL.n
  have hGa := hGL.a
  obtain ⟨G, hG⟩ : ∃ G, G = codeS s := ⟨_, rfl⟩
  obtain ⟨X, hX⟩ : ∃ X, X = explS s := ⟨_, rfl⟩
  obtain ⟨I, hI⟩ : ∃ I, I = incR s := ⟨_, rfl⟩
  obtain ⟨J, hJ⟩ : ∃ J, J = initR s := ⟨_, rfl⟩
  simp only [← hG, ← hX, ← hI, ← hJ] at hb1 hb2 hi1 hi2 hxp hin hfc hval hno hil hXi hPS hVa hSI hGn hGa
  clear hI hJ hGL
  refine AL.q (by exact h_alloc rfl) rfl ?_
  refine zs ?_
  refine AL.nil (th_n (AC.seq ?_))
  refine AC.weak (t := ⟨205, 250, [(1, .d (vB more)), (5, .ptr 202 0)], [(202, some (.cells 30 (stgCc s)))]⟩) (zw [(202, _)] hC) ?_
  refine AC.region ?_
  refine AL.p (by exact g_load_ptrN rfl rfl rfl rfl rfl) rfl ?_
  refine AL.q (by exact h_pure en_iBuild rfl rfl (by repeat (first | exact rfl | exact DLead.same | refine ⟨_, _, rfl, ?_, ?_⟩ | refine ⟨_, rfl, ?_⟩)) hb1 rfl) rfl ?_
  refine AL.p (by exact mv5 rfl) rfl ?_
  refine AL.p (by exact g_extract (r := .agg _) rfl rfl) rfl ?_
  refine AL.p (by exact g_extract (r := .d _) rfl rfl) rfl ?_
  refine AL.q (by exact h_alloc rfl) rfl ?_
  refine zs ?_
  refine za ?_
  refine AL.nil (th_n (AC.seq ?_))
  refine AC.weak (t := ⟨205, 300, [(1, .d (vB more)), (5, .ptr 202 0), (6, .ptr 200 0), (7, aT G.2)], [(202, some (.cells 30 (stgCc s))), (200, some (.cells 68 (sgC G.1)))]⟩) (zw [(202, 202), (200, _)] hC) ?_
  refine AC.region ?_
  refine AL.p (by exact g_load_ptrN rfl rfl rfl rfl rfl) rfl ?_
  refine AL.q (by exact h_fun (cs := []) en_sBuild rfl rfl (by repeat (first | exact rfl | exact DLead.same | refine ⟨_, _, rfl, ?_, ?_⟩ | refine ⟨_, rfl, ?_⟩)) (by repeat (exact True.intro)) hb2 rfl rfl rfl rfl) rfl ?_
  refine AL.p (by exact mv5 rfl) rfl ?_
  refine AL.p (by exact g_extract (r := .agg _) rfl rfl) rfl ?_
  refine AL.p (by exact g_extract (r := .d _) rfl rfl) rfl ?_
  refine AL.q (by exact h_alloc rfl) rfl ?_
  refine zs ?_
  refine za ?_
  refine AL.nil (th_n (AC.seq ?_))
  refine AC.weak (Weak.freezeP (els' := tsX G.1.codes) 8 1 rfl rfl rfl rfl (by rw [tsX_len]; exact Nat.le_refl _) (List.take_of_length_le (by rw [tsX_len]; exact Nat.le_refl _)) rfl) ?_
  refine AC.weak (Weak.freezeP (els' := arL G.1.arcs) 8 2 rfl rfl rfl rfl (by rw [arL_len]; exact Nat.le_refl _) (List.take_of_length_le (by rw [arL_len]; exact Nat.le_refl _)) rfl) ?_
  refine AC.weak (t := ⟨205, 400, [(1, .d (vB more)), (5, .ptr 202 0), (6, .ptr 200 0), (7, aT G.2), (8, .ptr 201 0), (9, aT G.2)], [(202, some (.cells 30 (stgCc s))), (200, some (.cells 68 (sgC G.1))), (201, some (.cells 68 (sgC G.1)))]⟩) (zw [(202, 202), (200, 200), (201, _)] hC) ?_
  refine AC.region ?_
  refine AL.p (by exact g_load_ptrN rfl rfl rfl rfl rfl) rfl ?_
  refine AL.q (by exact h_pure en_iIncon rfl rfl (by repeat (first | exact rfl | exact DLead.same | refine ⟨_, _, rfl, ?_, ?_⟩ | refine ⟨_, rfl, ?_⟩)) hi1 rfl) rfl ?_
  refine AL.p (by exact mv5 rfl) rfl ?_
  refine AL.p (by exact g_extract (r := .d _) rfl rfl) rfl ?_
  refine AL.p (by exact g_extract (r := .d _) rfl rfl) rfl ?_
  refine za ?_
  refine za ?_
  refine AL.nil (th_n (AC.seq (AC.region ?_)))
  refine AL.p (by exact g_load_ptrN rfl rfl rfl rfl rfl) rfl ?_
  refine AL.q (by exact h_pure en_sIncon rfl rfl (by repeat (first | exact rfl | exact DLead.same | refine ⟨_, _, rfl, ?_, ?_⟩ | refine ⟨_, rfl, ?_⟩)) hi2 rfl) rfl ?_
  refine AL.p (by exact mv5 rfl) rfl ?_
  refine AL.p (by exact g_extract (r := .d _) rfl rfl) rfl ?_
  refine AL.p (by exact g_extract (r := .d _) rfl rfl) rfl ?_
  refine za ?_
  refine za ?_
  refine AL.nil (th_n ?_)
  refine AC.cut (fun (_ : Unit) => ⟨205, 600, [(1, .d (vB more)), (5, .ptr 202 0), (6, .ptr 200 0), (7, aT G.2)], [(202, some (.cells 30 (stgCc s))), (200, some (.cells 68 (sgC G.1)))]⟩) (fun _ => True) ?_ ?_
  ·refine AC.seq ?_
   refine AC.weak (t := ⟨205, 500, [(1, .d (vB more)), (5, .ptr 202 0), (6, .ptr 200 0), (7, aT G.2), (8, .ptr 201 0), (9, aT G.2), (10, .d (vI I.1)), (11, aT I.2), (12, .d (vI I.1)), (13, aT I.2)], [(202, some (.cells 30 (stgCc s))), (200, some (.cells 68 (sgC G.1))), (201, some (.cells 68 (sgC G.1)))]⟩) (zw [(202, 202), (200, 200), (201, 201)] hC) ?_
   refine AC.region ?_
   refine zm ?_
   refine zm ?_
   refine AL.p (by exact g_neBr rfl rfl rfl) rfl ?_
   refine zm ?_
   refine zy ?_
   refine AL.p (by exact g_load_ptrN rfl rfl rfl rfl rfl) rfl ?_
   refine zy ?_
   refine AL.p (by exact g_load_ptrN rfl rfl rfl rfl rfl) rfl ?_
   refine zy ?_
   refine AL.q (by exact h_pure en_pSameCoded rfl rfl (by repeat (first | exact rfl | exact DLead.same | refine ⟨_, _, rfl, ?_, ?_⟩ | refine ⟨_, rfl, ?_⟩)) hPS rfl) rfl ?_
   refine zy ?_
   refine AL.p (by exact g_not rfl) rfl ?_
   refine zP ?_
   refine zm ?_
   refine zy ?_
   refine zm ?_
   refine zy ?_
   refine zm ?_
   refine zy ?_
   refine AL.p (by exact g_neBr rfl rfl rfl) rfl ?_
   refine zP ?_
   refine zm ?_
   refine zy ?_
   refine zm ?_
   refine zy ?_
   refine zm ?_
   refine zy ?_
   refine AL.q (by exact h_pure en_sameInts rfl rfl (by repeat (first | exact rfl | exact DLead.same | refine ⟨_, _, rfl, ?_, ?_⟩)) hSI rfl) rfl ?_
   refine zy ?_
   refine AL.p (by exact g_not rfl) rfl ?_
   refine zP ?_
   refine zm ?_
   refine zy ?_
   refine zm ?_
   refine zy ?_
   refine zm ?_
   refine AL.caseGB rfl rfl (fun h1 => ?_) (fun h1 => ?_)
   ·refine zy ?_
    refine zm ?_
    refine zy ?_
    refine zQ ?_
    refine zP ?_
    refine AL.nil (th_n ?_)
    refine AC.condB rfl (fun h2 => ?_) (fun h2 => ?_)
    ·refine AC.seq (AC.region ?_)
     refine za ?_
     refine AL.nil (th_n (AC.ret (th_r (bq_r ?_))))
     exact absurd ‹I.2 = true› (by rw [hno ‹G.2 = true›]; decide)
    ·refine AC.skip (th_n ?_)
     exact ⟨(), trivial, zw [(202, 202), (200, 200)] hC⟩
   ·refine zn ?_
    refine zy ?_
    refine zP ?_
    refine zP ?_
    refine AL.nil (th_n ?_)
    refine AC.condF rfl ?_
    refine AC.skip (th_n ?_)
    exact ⟨(), trivial, zw [(202, 202), (200, 200)] hC⟩
  ·intro _ _
   refine AC.cut (fun (_ : Unit) => ⟨205, 2000, [(1, .d (vB more))], []⟩) (fun _ => True) ?_ ?_
   ·refine AC.seq (AC.region ?_)
    refine zm ?_
    refine AL.nil (th_n ?_)
    refine AC.condB rfl (fun h1 => ?_) (fun h1 => ?_)
    ·refine AC.seq ?_
     have hG2 : G.2 = true := ‹G.2 = true›
     obtain ⟨hX2, e1, e2, hrow, hpos, hJJ⟩ := hfc hG2
     rw [hX2] at hxp
     rw [hval hG2] at hVa
     subst hJJ
     have hg0 := cAtS_get (c := G.1) hpos
     clear hfc hval hno hb1 hb2 hi1 hi2 hPS hSI
     refine AC.region ?_
     refine AL.p (by exact g_load_ptrN rfl rfl rfl rfl rfl) rfl ?_
     refine AL.q (by exact h_pure en_iExplore rfl rfl (by repeat (first | exact rfl | exact DLead.same | refine ⟨_, _, rfl, ?_, ?_⟩ | refine ⟨_, rfl, ?_⟩)) hxp rfl) rfl ?_
     refine AL.p (by exact mv5 rfl) rfl ?_
     refine AL.p (by exact g_extract (r := .agg _) rfl rfl) rfl ?_
     refine AL.p (by exact g_extract (r := .d _) rfl rfl) rfl ?_
     refine AL.q (by exact h_alloc rfl) rfl ?_
     refine zs ?_
     refine za ?_
     refine AL.nil (th_n (AC.seq (AC.region ?_)))
     refine AL.p (by exact g_load_ptrN rfl rfl rfl rfl rfl) rfl ?_
     refine AL.q (by exact h_pure en_iInit rfl rfl (by repeat (first | exact rfl | exact DLead.same | refine ⟨_, _, rfl, ?_, ?_⟩ | refine ⟨_, rfl, ?_⟩)) hin rfl) rfl ?_
     refine AL.p (by exact mv5 rfl) rfl ?_
     refine AL.p (by exact g_extract (r := .d _) rfl rfl) rfl ?_
     refine AL.p (by exact g_extract (r := .d _) rfl rfl) rfl ?_
     refine za ?_
     refine za ?_
     refine AL.nil (th_n (AC.seq (AC.seq ?_)))
     refine AC.weak (t := ⟨205, 700, [(1, .d (vB more)), (6, .ptr 200 0), (14, .ptr 203 0), (15, aT true), (16, aS (bstr (G.1.codes.getD 0 []))), (17, aT true)], [(200, some (.cells 68 (sgC G.1))), (203, some (.cells 35 (rgC X.1)))]⟩) (zw [(200, 200), (203, _)] hC) ?_
     refine AC.region ?_
     refine AL.p (by exact g_load_ptrN rfl rfl rfl rfl rfl) rfl ?_
     refine AL.q (by exact h_pure en_iValidSg rfl rfl (by repeat (first | exact rfl | exact DLead.same | refine ⟨_, _, rfl, ?_, ?_⟩ | refine ⟨_, rfl, ?_⟩)) hVa rfl) rfl ?_
     refine AL.p (by exact g_not rfl) rfl ?_
     refine zm ?_
     refine zy ?_
     refine zm ?_
     refine zy ?_
     refine AL.p (by exact g_not rfl) rfl ?_
     refine zP ?_
     refine zm ?_
     refine zy ?_
     refine zF ?_
     refine zy ?_
     refine zl ?_
     refine zy ?_
     refine AL.p (by exact g_len_view (k := G.1.codes.length) rfl rfl (tsX_len _)) rfl ?_
     refine zy ?_
     refine zF ?_
     refine zy ?_
     refine zl ?_
     refine zy ?_
     refine AL.p (by exact g_len_view (k := X.1.marks.length) rfl rfl (tsX_len _)) rfl ?_
     refine zy ?_
     refine AL.p (by exact g_neIr rfl rfl (by rw [e1])) rfl ?_
     refine zP ?_
     refine zm ?_
     refine zy ?_
     refine zF ?_
     refine zy ?_
     refine zl ?_
     refine zy ?_
     refine AL.p (by exact g_len_view (k := G.1.arcs.length) rfl rfl (arL_len _)) rfl ?_
     refine zy ?_
     refine zF ?_
     refine zy ?_
     refine zl ?_
     refine zy ?_
     refine AL.p (by exact g_len_view (k := X.1.moves.length) rfl rfl (mvL_len _)) rfl ?_
     refine zy ?_
     refine AL.p (by exact g_neIr rfl rfl (by rw [e2])) rfl ?_
     refine zP ?_
     refine zm ?_
     refine zy ?_
     refine zm ?_
     refine zy ?_
     refine AL.p (by exact g_not rfl) rfl ?_
     refine zP ?_
     refine zm ?_
     refine zy ?_
     refine zF ?_
     refine zy ?_
     refine zl ?_
     refine zy ?_
     refine AL.p (by exact g_len_view (k := G.1.codes.length) rfl rfl (tsX_len _)) rfl ?_
     refine zy ?_
     refine AL.p (by exact g_cmp (r := false) rfl rfl (by show some (decide _) = some false; rw [decide_eq_false (by omega)])) rfl ?_
     refine zP ?_
     refine zm ?_
     refine zy ?_
     refine zm ?_
     refine zy ?_
     refine zF ?_
     refine zy ?_
     refine zl ?_
     refine zy ?_
     refine AL.p (by exact g_ia_view (i := 0) rfl rfl rfl rfl rfl rfl hg0) rfl ?_
     refine zy ?_
     refine zr ?_
     refine zy ?_
     refine AL.p (by exact g_neSr rfl rfl rfl) rfl ?_
     refine zP ?_
     refine AL.nil (th_n ?_)
     refine AC.condF rfl ?_
     refine AC.skip (th_n (AC.seq (AC.region ?_)))
     refine zF ?_
     refine zl ?_
     refine AL.p (by exact g_len_view (k := G.1.arcs.length) rfl rfl (arL_len _)) rfl ?_
     refine zm ?_
     refine AL.nil (th_n (AC.block ?_))
     refine AC.loop (ι := Nat) (fun k => ⟨205, 900, [(1, .d (vB more)), (14, .ptr 203 0), (134, .d (vArs G.1.arcs)), (135, aI G.1.arcs.length), (136, aI k)], [(203, some (.cells 35 (rgC X.1)))]⟩) (fun k => k ≤ G.1.arcs.length) (fun k => G.1.arcs.length - k) (0) ?_ (Nat.zero_le _) ?_
     ·exact zw [(203, 203)] hC
     ·intro k hk
      refine AC.seq (AC.region ?_)
      refine zc ?_
      refine AL.nil (th_n (AC.seq ?_))
      refine AC.condD rfl (fun h2 => ?_) (fun h2 => ?_)
      ·refine AC.skip (th_n (AC.seq (AC.block (AC.seq ?_))))
       have hk1 : k < G.1.arcs.length := by omega
       have hget := hrow k (by omega)
       have hmv := mvL_get (l := X.1.moves) (k := k) (by omega)
       refine AC.region ?_
       refine zm ?_
       refine AL.p (by exact g_ia_view (i := k) rfl rfl rfl rfl rfl rfl hget) rfl ?_
       refine AL.p (by exact g_load_refN rfl rfl rfl rfl) rfl ?_
       refine AL.q (by exact h_alloc rfl) rfl ?_
       refine za ?_
       refine zs ?_
       refine AL.nil (th_n (AC.seq ?_))
       refine AC.drawn' mixed_ok [[], [0], [], [2], [], [2,3,4], [2,3,4,5], [2,3,4,5,6], [0,1,2,3,4,5,6,7], [0,1,2,3,4,5,6,7,8], [0,1,2,3,4,5,6,7,8,9], [0,1,2,3,4,5,6,7,8,9,10], [0,1,2,3,4,5,6,7,8,9], [0,1,2,3,4,5,6,7,8,9,12], [0,1,2,3,4,5,6,7,8,9], [0,1,2,3,4,5,6,7,8,9,12,13,14], [0,1,2,3,4,5,6,7,8,9,12,13,14,15], [0,1,2,3,4,5,6,7,8,9,12,13,14,15,16], [0,1,2,3,4,5,6,7,8,9,10,11,12,13,14,15,16,17], [0,1,2,3,4,5,6,7,8,9,10,11,12,13,14,15,16,17,18]] (by decide) ?_
       refine DF.op 0 [] 20 rfl rfl rfl (.free rfl (NOp.of (by exact g_fa_ptr rfl rfl rfl rfl rfl))) rfl ?_
       refine DF.op 1 [0] 20 rfl rfl rfl (.free rfl (NOp.of (by exact g_load_ptr rfl rfl rfl rfl rfl))) rfl ?_
       refine DF.op 2 [] 20 rfl rfl rfl (.free rfl (NOp.of (by exact g_fa_ptr rfl rfl rfl rfl rfl))) rfl ?_
       refine DF.op 3 [2] 20 rfl rfl rfl (.free rfl (NOp.of (by exact g_load_ptr rfl rfl rfl rfl rfl))) rfl ?_
       refine DF.op 4 [] 20 rfl rfl rfl (.free rfl (NOp.of (by exact mv1 rfl))) rfl ?_
       refine DF.op 5 [2,3,4] 20 rfl rfl rfl (.free rfl (NOp.of (by exact g_ia_view (i := k) rfl rfl rfl rfl rfl rfl hmv))) rfl ?_
       refine DF.op 6 [2,3,4,5] 20 rfl rfl rfl (.free rfl (NOp.of (by exact g_fa_ref rfl rfl rfl rfl rfl rfl))) rfl ?_
       refine DF.op 7 [2,3,4,5,6] 20 rfl rfl rfl (.free rfl (NOp.of (by exact g_load_ref rfl rfl rfl))) rfl ?_
       refine DF.op 8 [0,1,2,3,4,5,6,7] 20 rfl rfl rfl (.free rfl (NOp.of (by exact g_neIr rfl rfl rfl))) rfl ?_
       refine DF.op 9 (List.range 9) 20 rfl rfl rfl (.free rfl (NOp.of (by exact mv1 rfl))) rfl ?_
       refine DF.op 10 (List.range 10) 20 rfl rfl rfl (.yes rfl rfl rfl rfl (NOp.of (by exact g_fa_ptr rfl rfl rfl rfl rfl))) rfl ?_
       refine DF.op 11 (List.range 11) 20 rfl rfl rfl (.yes rfl rfl rfl rfl (NOp.of (by exact g_load_ptr rfl rfl rfl rfl rfl))) rfl ?_
       refine DF.op 12 (List.range 10) 20 rfl rfl rfl (.yes rfl rfl rfl rfl (NOp.of (by exact g_fa_ptr rfl rfl rfl rfl rfl))) rfl ?_
       refine DF.op 13 [0,1,2,3,4,5,6,7,8,9,12] 20 rfl rfl rfl (.yes rfl rfl rfl rfl (NOp.of (by exact g_load_ptr rfl rfl rfl rfl rfl))) rfl ?_
       refine DF.op 14 (List.range 10) 20 rfl rfl rfl (.yes rfl rfl rfl rfl (NOp.of (by exact mv1 rfl))) rfl ?_
       refine DF.op 15 [0,1,2,3,4,5,6,7,8,9,12,13,14] 20 rfl rfl rfl (.yes rfl rfl rfl rfl (NOp.of (by exact g_ia_view (i := k) rfl rfl rfl rfl rfl rfl hmv))) rfl ?_
       refine DF.op 16 [0,1,2,3,4,5,6,7,8,9,12,13,14,15] 20 rfl rfl rfl (.yes rfl rfl rfl rfl (NOp.of (by exact g_fa_ref rfl rfl rfl rfl rfl rfl))) rfl ?_
       refine DF.op 17 [0,1,2,3,4,5,6,7,8,9,12,13,14,15,16] 20 rfl rfl rfl (.yes rfl rfl rfl rfl (NOp.of (by exact g_load_ref rfl rfl rfl))) rfl ?_
       refine DF.op 18 (List.range 18) 20 rfl rfl rfl (.yes rfl rfl rfl rfl (NOp.of (by exact g_neIr rfl rfl rfl))) rfl ?_
       refine DF.op 19 (List.range 19) 20 rfl rfl rfl (.free rfl (NOp.of (by exact g_pickF (r := .d _) rfl rfl))) rfl ?_
       refine DF.fin (ps := [(0,2),(0,3),(0,4),(0,5),(0,6),(0,7),(1,2),(1,3),(1,4),(1,5),(1,6),(1,7),(2,0),(2,1),(2,4),(3,0),(3,1),(3,4),(4,0),(4,1),(4,2),(4,3),(5,0),(5,1),(6,0),(6,1),(7,0),(7,1),(10,12),(10,13),(10,14),(10,15),(10,16),(10,17),(11,12),(11,13),(11,14),(11,15),(11,16),(11,17),(12,10),(12,11),(12,14),(13,10),(13,11),(13,14),(14,10),(14,11),(14,12),(14,13),(15,10),(15,11),(16,10),(16,11),(17,10),(17,11)]) 20 rfl (by decide +kernel) (by decide +kernel) (by rfl) ?_
       refine th_n ?_
       refine AC.condF rfl ?_
       refine AC.skip (ib_n (th_n (AC.region ?_)))
       refine zA ?_
       refine zm ?_
       refine AL.nil (th_n ?_)
       exact ⟨k + 1, by omega, by omega, zw [(203, 203)] hC⟩
      ·refine AC.exit (th_e (th_e (ib_y (th_n ?_))))
       exact ⟨(), trivial, Weak.ren _ [] hC rfl (by repeat (first | exact True.intro | refine And.intro ?_ ?_ | exact DLead.same)) (by repeat (exact True.intro)) rfl rfl rfl⟩
    ·refine AC.skip (th_n ?_)
     exact ⟨(), trivial, Weak.ren _ [] hC rfl (by repeat (first | exact True.intro | refine And.intro ?_ ?_ | exact DLead.same)) (by repeat (exact True.intro)) rfl rfl rfl⟩
   ·intro _ _
    refine AC.seq (AC.region ?_)
    refine zm ?_
    refine AL.r (by exact h_funR (cs := []) en_sDrawValidSg rfl rfl (by repeat (first | exact rfl | exact DLead.same | refine ⟨_, _, rfl, ?_, ?_⟩)) (by repeat (exact True.intro)) hD2 rfl rfl rfl) rfl ?_
    rintro _ ⟨_, _, ⟨g, hg, rfl, rfl⟩, rfl⟩
    refine AL.q (by exact h_alloc rfl) rfl ?_
    refine zs ?_
    refine AL.nil (th_n (AC.seq ?_))
    refine AC.weak (t := ⟨205, 2300, [(1, .d (vB more)), (20, .ptr 200 0)], [(200, some (.cells 68 (sgC g)))]⟩) (zw [(200, _)] hC) ?_
    refine AC.region ?_
    refine zm ?_
    refine AL.r (by exact h_funR (cs := []) en_sDrawEqSg rfl rfl (by repeat (first | exact rfl | exact DLead.same | refine ⟨_, _, rfl, ?_, ?_⟩)) (by repeat (exact True.intro)) hD3 rfl rfl rfl) rfl ?_
    rintro _ ⟨_, _, ⟨a, b, ⟨ha, hb⟩, rfl, rfl⟩, rfl⟩
    refine AL.p (by exact mv5 rfl) rfl ?_
    refine AL.p (by exact g_extract (r := .agg _) rfl rfl) rfl ?_
    refine AL.p (by exact g_extract (r := .agg _) rfl rfl) rfl ?_
    refine AL.q (by exact h_alloc rfl) rfl ?_
    refine AL.q (by exact h_alloc rfl) rfl ?_
    refine zs ?_
    refine zs ?_
    refine AL.nil (th_n (AC.seq ?_))
    refine AC.weak (t := ⟨205, 2600, [(1, .d (vB more)), (20, .ptr 200 0), (21, .ptr 201 0), (22, .ptr 202 0)], [(200, some (.cells 68 (sgC g))), (201, some (.cells 68 (sgC a))), (202, some (.cells 68 (sgC b)))]⟩) (zw [(200, 200), (201, _), (202, _)] hC) ?_
    refine AC.region ?_
    refine zm ?_
    refine AL.r (by exact h_funR (cs := []) en_sDrawIncon rfl rfl (by repeat (first | exact rfl | exact DLead.same | refine ⟨_, _, rfl, ?_, ?_⟩)) (by repeat (exact True.intro)) hD4 rfl rfl rfl) rfl ?_
    rintro _ ⟨_, _, ⟨s2, hs2, rfl, rfl⟩, rfl⟩
    refine AL.q (by exact h_alloc rfl) rfl ?_
    refine zs ?_
    refine AL.nil (th_n (AC.seq ?_))
    have hB2 := hs2.B
    have hj1 := iIncon_spec s2 hB2
    have hj2 := sIncon_spec s2 hB2
    have hjl := incR_len hs2
    have hSJ := sameInts_spec (incR s2).1 (incR s2).1 (by omega) (by omega)
    rw [decide_eq_true rfl] at hSJ
    obtain ⟨K, hK⟩ : ∃ K, K = incR s2 := ⟨_, rfl⟩
    rw [← hK] at hj1 hj2 hjl hSJ
    have hv1 := iValidSg_spec g (hg.L (by omega))
    have hv2 := sValidSg_spec g (hg.L (by omega))
    have hq1 := iEqSg_spec a b (ha.L (by omega)) (hb.L (by omega))
    have hq2 := sEqSg_spec a b (ha.L (by omega)) (hb.L (by omega))
    obtain ⟨v, hv⟩ : ∃ v, v = validC g := ⟨_, rfl⟩
    rw [← hv] at hv1 hv2
    obtain ⟨w, hw⟩ : ∃ w, w = eqC a b := ⟨_, rfl⟩
    rw [← hw] at hq1 hq2
    clear hK hv hw
    refine AC.weak (t := ⟨205, 3000, [(20, .ptr 200 0), (21, .ptr 201 0), (22, .ptr 202 0), (23, .ptr 203 0)], [(200, some (.cells 68 (sgC g))), (201, some (.cells 68 (sgC a))), (202, some (.cells 68 (sgC b))), (203, some (.cells 30 (stgCc s2)))]⟩) (zw [(200, 200), (201, 201), (202, 202), (203, _)] hC) ?_
    refine AC.region ?_
    refine AL.p (by exact g_load_ptrN rfl rfl rfl rfl rfl) rfl ?_
    refine AL.q (by exact h_pure en_iIncon rfl rfl (by repeat (first | exact rfl | exact DLead.same | refine ⟨_, _, rfl, ?_, ?_⟩ | refine ⟨_, rfl, ?_⟩)) hj1 rfl) rfl ?_
    refine AL.p (by exact mv5 rfl) rfl ?_
    refine AL.p (by exact g_extract (r := .d _) rfl rfl) rfl ?_
    refine AL.p (by exact g_extract (r := .d _) rfl rfl) rfl ?_
    refine za ?_
    refine za ?_
    refine AL.nil (th_n (AC.seq (AC.region ?_)))
    refine AL.p (by exact g_load_ptrN rfl rfl rfl rfl rfl) rfl ?_
    refine AL.q (by exact h_pure en_sIncon rfl rfl (by repeat (first | exact rfl | exact DLead.same | refine ⟨_, _, rfl, ?_, ?_⟩ | refine ⟨_, rfl, ?_⟩)) hj2 rfl) rfl ?_
    refine AL.p (by exact mv5 rfl) rfl ?_
    refine AL.p (by exact g_extract (r := .d _) rfl rfl) rfl ?_
    refine AL.p (by exact g_extract (r := .d _) rfl rfl) rfl ?_
    refine za ?_
    refine za ?_
    refine AL.nil (th_n (AC.seq ?_))
    refine AC.weak (t := ⟨205, 3300, [(20, .ptr 200 0), (21, .ptr 201 0), (22, .ptr 202 0), (24, .d (vI K.1)), (25, aT K.2), (26, .d (vI K.1)), (27, aT K.2)], [(200, some (.cells 68 (sgC g))), (201, some (.cells 68 (sgC a))), (202, some (.cells 68 (sgC b)))]⟩) (zw [(200, 200), (201, 201), (202, 202)] hC) ?_
    refine AC.drawn' mixed_ok [[], [0], [], [0,1,2], [0,1,2,3], [0,1,2,3,4], [0,1,2,3,4,5], [0,1,2,3,4,5], [0,1,2,3,4,5,6,7], [0,1,2,3,4,5], [0,1,2,3,4,5], [0,1,2,3,4,5,6,7,8,9,10], [0,1,2,3,4,5,6,7,8,9,10,11], [0,1,2,3,4,5,6,7,8,9,10,11,12], [0,1,2,3,4,5,6,7,8,9,10,11,12,13], [0,1,2,3,4,5,6,7,8,9,10,11,12,13,14], [0,1,2,3,4,5,6,7,8,9,10,11,12,13,14], [0,1,2,3,4,5,6,7,8,9,10,11,12,13,14,15,16], [0,1,2,3,4,5,6,7,8,9,10,11,12,13,14,15,16,17], [0,1,2,3,4,5,6,7,8,9,10,11,12,13,14,15,16,17,18], [0,1,2,3,4,5,6,7,8,9,10,11,12,13,14,15,16,17,18,19], [0,1,2,3,4,5,6,7,8,9,10,11,12,13,14,15,16,17,18,19], [0,1,2,3,4,5,6,7,8,9,10,11,12,13,14,15,16,17,18,19,20,21], [0,1,2,3,4,5,6,7,8,9,10,11,12,13,14,15,16,17,18,19,20,21,22], [0,1,2,3,4,5,6,7,8,9,10,11,12,13,14,15,16,17,18,19,20,21,22,23]] (by decide) ?_
    refine DF.op 0 [] 25 rfl rfl rfl (.free rfl (NOp.of (by exact g_load_ptrN rfl rfl rfl rfl rfl))) rfl ?_
    refine DF.op 1 [0] 25 rfl rfl rfl (.free rfl (by exact h_pure en_iValidSg rfl rfl (by repeat (first | exact rfl | exact DLead.same | refine ⟨_, _, rfl, ?_, ?_⟩ | refine ⟨_, rfl, ?_⟩)) hv1 rfl)) rfl ?_
    refine DF.op 2 [] 25 rfl rfl rfl (.free rfl (NOp.of (by exact g_load_ptrN rfl rfl rfl rfl rfl))) rfl ?_
    refine DF.op 3 [0,1,2] 25 rfl rfl rfl (.free rfl (by exact h_pure en_sValidSg rfl rfl (by repeat (first | exact rfl | exact DLead.same | refine ⟨_, _, rfl, ?_, ?_⟩ | refine ⟨_, rfl, ?_⟩)) hv2 rfl)) rfl ?_
    refine DF.op 4 [0,1,2,3] 25 rfl rfl rfl (.free rfl (NOp.of (by exact g_eqBr rfl rfl rfl))) rfl ?_
    refine DF.op 5 [0,1,2,3,4] 25 rfl rfl rfl (.free rfl (NOp.of (by exact mv1 rfl))) rfl ?_
    refine DF.op 6 [0,1,2,3,4,5] 25 rfl rfl rfl (.yes rfl rfl rfl rfl (NOp.of (by exact g_load_ptrN rfl rfl rfl rfl rfl))) rfl ?_
    refine DF.op 7 [0,1,2,3,4,5] 25 rfl rfl rfl (.yes rfl rfl rfl rfl (NOp.of (by exact g_load_ptrN rfl rfl rfl rfl rfl))) rfl ?_
    refine DF.op 8 [0,1,2,3,4,5,6,7] 25 rfl rfl rfl (.yes rfl rfl rfl rfl (by exact h_pure en_iEqSg rfl rfl (by repeat (first | exact rfl | exact DLead.same | refine ⟨_, _, rfl, ?_, ?_⟩ | refine ⟨_, rfl, ?_⟩)) hq1 rfl)) rfl ?_
    refine DF.op 9 [0,1,2,3,4,5] 25 rfl rfl rfl (.yes rfl rfl rfl rfl (NOp.of (by exact g_load_ptrN rfl rfl rfl rfl rfl))) rfl ?_
    refine DF.op 10 [0,1,2,3,4,5] 25 rfl rfl rfl (.yes rfl rfl rfl rfl (NOp.of (by exact g_load_ptrN rfl rfl rfl rfl rfl))) rfl ?_
    refine DF.op 11 (List.range 11) 25 rfl rfl rfl (.yes rfl rfl rfl rfl (by exact h_pure en_sEqSg rfl rfl (by repeat (first | exact rfl | exact DLead.same | refine ⟨_, _, rfl, ?_, ?_⟩ | refine ⟨_, rfl, ?_⟩)) hq2 rfl)) rfl ?_
    refine DF.op 12 (List.range 12) 25 rfl rfl rfl (.yes rfl rfl rfl rfl (NOp.of (by exact g_eqBr rfl rfl rfl))) rfl ?_
    refine DF.op 13 (List.range 13) 25 rfl rfl rfl (.free rfl (NOp.of (by exact g_pickT (r := .d _) rfl rfl))) rfl ?_
    refine DF.op 14 (List.range 14) 25 rfl rfl rfl (.free rfl (NOp.of (by exact mv1 rfl))) rfl ?_
    refine DF.op 15 (List.range 15) 25 rfl rfl rfl (.yes rfl rfl rfl rfl (NOp.of (by exact mv1 rfl))) rfl ?_
    refine DF.op 16 (List.range 15) 25 rfl rfl rfl (.yes rfl rfl rfl rfl (NOp.of (by exact mv1 rfl))) rfl ?_
    refine DF.op 17 (List.range 17) 25 rfl rfl rfl (.yes rfl rfl rfl rfl (NOp.of (by exact g_eqBr rfl rfl rfl))) rfl ?_
    refine DF.op 18 (List.range 18) 25 rfl rfl rfl (.free rfl (NOp.of (by exact g_pickT (r := .d _) rfl rfl))) rfl ?_
    refine DF.op 19 (List.range 19) 25 rfl rfl rfl (.free rfl (NOp.of (by exact mv1 rfl))) rfl ?_
    refine DF.op 20 (List.range 20) 25 rfl rfl rfl (.yes rfl rfl rfl rfl (NOp.of (by exact mv1 rfl))) rfl ?_
    refine DF.op 21 (List.range 20) 25 rfl rfl rfl (.yes rfl rfl rfl rfl (NOp.of (by exact mv1 rfl))) rfl ?_
    refine DF.op 22 (List.range 22) 25 rfl rfl rfl (.yes rfl rfl rfl rfl (by exact h_pure en_sameInts rfl rfl (by repeat (first | exact rfl | exact DLead.same | refine ⟨_, _, rfl, ?_, ?_⟩)) hSJ rfl)) rfl ?_
    refine DF.op 23 (List.range 23) 25 rfl rfl rfl (.free rfl (NOp.of (by exact g_pickT (r := .d _) rfl rfl))) rfl ?_
    refine DF.op 24 (List.range 24) 25 rfl rfl rfl (.free rfl (NOp.of (by exact as1 rfl))) rfl ?_
    refine DF.fin (ps := [(0,2),(1,2),(2,0),(2,1),(6,7),(6,9),(6,10),(7,6),(7,9),(7,10),(8,9),(8,10),(9,6),(9,7),(9,8),(9,10),(10,6),(10,7),(10,8),(10,9),(15,16),(16,15),(20,21),(21,20)]) 25 rfl (by decide +kernel) (by decide +kernel) (by rfl) ?_
    refine th_n (AC.ret (bq_r ?_))
    exact ret1 rfl rfl
end Go.Proofs.YthafkkgmekgmoaaGreat
