
/- Contracts of the functions of the program and of the reference, each proved by a walk through its code. -/
import Derived.WalkKit
import Derived.WalkSpells
import Derived.WalkLawsBesides
import Derived.Deep.Draws
import Derived.Lib.Hide
import Derived.Maps.AppendAt
import Derived.OwnWalk
import Derived.Deep.MidRow
import Derived.Laws.ResultCell
import Derived.Deep.Upon
import Derived.Great.FillDense
import Derived.Laws.Tables
import Derived.Laws.BytesArg
import Derived.Laws.MakeOwn
import Derived.Great.BuildSlice
import Derived.ArgAppend
import Derived.Deep.AppendSrc
import Derived.Test.YtijnganhpnmhaaaGreatProg
import Derived.KernelRfl
import Derived.Orders
import Derived.Laws.IdiomStrings
import Derived.Lib.AppendZerosOnto
import Derived.ProofKit
import Derived.OpenShut
import Derived.Laws.IdiomCopy
import Derived.Shelf.Bits.Mul64
import Derived.Test.YtijnganhpnmhaaaGreatRows
import Derived.Laws.StructEq
import Derived.ChangeKeysEq
import Derived.Below
import Derived.Laws.Small
import Derived.Test.YtijnganhpnmhaaaGreatGTm10
set_option linter.all false
set_option maxRecDepth 20000
namespace Go.Proofs.YtijnganhpnmhaaaGreat
open Go.RowKit
theorem cntN_t {since : List Int} {k : Nat} (h : 0 ≤ iAt since k) : cntN since (k + 1) = cntN since k + 1 := by rw [cntN, if_pos h]
theorem cntN_f {since : List Int} {k : Nat} (h : ¬ 0 ≤ iAt since k) : cntN since (k + 1) = cntN since k := by rw [cntN, if_neg h]
set_option maxHeartbeats 16000000 in
theorem FnTimed_gen (code more : List UInt8) (s s2 s3 : Stg) (l l2 : List Dl) (ds : List Int) (run2 run3 : List Tf) (hc : code.length ≤ 9223372036854775807) (hm : more.length ≤ 9223372036854775807)
  (hs : StgS s) (hl : l.length ≤ 20 ∧ dlIn l) (hds : ds.length ≤ 20) (hs2 : StgS s2) (hl2 : l2.length ≤ 20 ∧ dlIn l2) (hr2 : run2.length ≤ 60 ∧ ∀ x, x ∈ run2 → -1000000 ≤ x.tm ∧ x.tm ≤ 1000000 ∧ -1000000 ≤ x.t ∧ x.t ≤ 1000000)
  (hs3 : StgS s3) (hr3 : run3.length ≤ 60 ∧ ∀ x, x ∈ run3 → -1000000 ≤ x.tm ∧ x.tm ≤ 1000000 ∧ -1000000 ≤ x.t ∧ x.t ≤ 1000000)
  (hD1 : ASpec Tryz.prog 4 [.d (vB code)] [] (Pure1 (.tup [stgA s, .d (vDls l), .d (vI ds)]))) (hD2 : ASpec Tryz.prog 7 [.d (vB more)] [] (Pure1 (.tup [stgA s2, .d (vDls l2), .d (vTfs run2)])))
  (hD3 : ASpec Tryz.prog 10 [.d (vB more)] [] (Pure1 (.tup [stgA s3, .d (vTfs run3)]))) : ASpec Tryz.prog 3 [.d (vB code), .d (vB more)] [] (Pure1 (aT true)) := by
 have hlB : DlB l := ⟨by omega, fun x hx => by have := hl.2 x hx; omega⟩
 have hlB2 : DlB l2 := ⟨by omega, fun x hx => by have := hl2.2 x hx; omega⟩
 have hS1 := iSim_spec s l ds hs.B hlB (by omega)
 have hS2 := sSim_spec s l ds hs.B hlB (by omega)
 have hSi := simR_in (l := l) (ds := ds) hs.B
 have hLaw := sim_laws (l := l) (ds := ds) hs.B
 obtain ⟨S, hS⟩ : ∃ S, S = simR s l ds := ⟨_, rfl⟩
 rw [← hS] at hS1 hS2 hSi hLaw
 clear hS
 obtain ⟨r, m, ok⟩ := S
 dsimp only at hS1 hS2 hSi hLaw
 have hrB : ∀ x, x ∈ r → -1000000 ≤ x.tm ∧ x.tm ≤ 1000000 ∧ -1000000 ≤ x.t ∧ x.t ≤ 1000000 := fun x hx => by have := hSi.1 x hx; omega
 have hT1 := iIsTR_spec s2 l2 run2 hs2.B hlB2 (by omega) hr2.2
 have hT2 := sIsTR_spec s2 l2 run2 hs2.B hlB2 (by omega) hr2.2
 obtain ⟨T, hT⟩ : ∃ T, T = trR s2 l2 run2 := ⟨_, rfl⟩
 rw [← hT] at hT1 hT2
 have hE1 := iEnT_spec s3 run3 hs3.B (by omega) hr3.2
 have hE2 := sEnT_spec s3 run3 hs3.B (by omega) hr3.2
 obtain ⟨E, hE⟩ : ∃ E, E = entR s3 run3 := ⟨_, rfl⟩
 have hEl : E.1.length ≤ 1000000 := by
  have htl3 := hs3.tl
  rw [hE]; exact entR_len (by omega)
 rw [← hE] at hE1 hE2
 have hV1 := iVDel_spec s l hs.B hlB
 have hV2 := sVDel_spec s l hs.B hlB
 obtain ⟨V, hV⟩ : ∃ V, V = validD s l := ⟨_, rfl⟩
 rw [← hV] at hV1 hV2
 have hQ1 := qSameTimed_spec r (by omega)
 have hQ2 := qSameN_spec E.1 hEl
 have hT3 := iIsTR_spec s l r hs.B hlB (by omega) hrB
 have hF0 := sFireSeq_spec s.net s.start (tfTs r) hs.B.n (by have := hs.st; omega) (by rw [tfTs_len]; omega)
 have hE3 := iEnT_spec s r hs.B (by omega) hrB
 have htl := hs.tl
 have hml : ok = true → m.length ≤ 2000000 := fun q => by
  obtain ⟨_, _, since, _, _, h4, _⟩ := hLaw q
  exact enR_short hs h4
 clear hT hE hV
 refine ASpec.of Tryz.func3 rfl rfl fun C hC => ?_
 refine AC.seq ?_
 refine AC.region ?_
 refine AL.p (by exact as1 rfl) rfl ?_
 refine AL.nil ?_
 refine th_n ?_
 refine AC.seq ?_
 refine AC.seq ?_
 refine AC.region ?_
 refine AL.p (by exact mv1 rfl) rfl ?_
 refine AL.p (by exact g_len_view rfl rfl (by exact List.length_map _)) rfl ?_
 refine AL.p (by exact mv1 rfl) rfl ?_
 refine AL.p (by exact g_len_view rfl rfl (by exact List.length_map _)) rfl ?_
 refine AL.p (by exact g_arith rfl rfl rfl (by rfl)) rfl ?_
 refine AL.p (by exact g_cmp rfl rfl rfl) rfl ?_
 refine AL.nil ?_
 refine th_n ?_
 refine AC.condD rfl (fun h0 => ?_) (fun h0 => ?_)
 ·refine AC.seq ?_
  refine AC.region ?_
  refine AL.p (by exact as1 rfl) rfl ?_
  refine AL.nil ?_
  refine th_n ?_
  refine AC.ret ?_
  refine th_r ?_
  refine bq_r ?_
  exact ret1 rfl rfl
 ·refine AC.skip ?_
  refine th_n ?_
  refine AC.seq ?_
  refine AC.region ?_
  refine AL.p (by exact mv1 rfl) rfl ?_
  refine AL.q (by exact h_pure en_sDrawSim rfl rfl (by repeat (first | exact rfl | exact DLead.same | refine ⟨_, _, rfl, ?_, ?_⟩)) hD1 rfl) rfl ?_
  refine AL.p (by exact mv5 rfl) rfl ?_
  refine AL.p (by exact g_extract (r := .agg _) rfl rfl) rfl ?_
  refine AL.p (by exact g_extract (r := .d _) rfl rfl) rfl ?_
  refine AL.p (by exact g_extract (r := .d _) rfl rfl) rfl ?_
  refine AL.q (by exact h_alloc rfl) rfl ?_
  refine AL.q (by exact h_store rfl rfl rfl rfl rfl rfl) rfl ?_
  refine AL.p (by exact as1 rfl) rfl ?_
  refine AL.p (by exact as1 rfl) rfl ?_
  refine AL.nil ?_
  refine th_n ?_
  refine AC.seq ?_
  refine AC.region ?_
  refine AL.p (by exact g_load_ptrN rfl rfl rfl rfl rfl) rfl ?_
  refine AL.p (by exact mv1 rfl) rfl ?_
  refine AL.p (by exact mv1 rfl) rfl ?_
  refine AL.q (by exact h_pure en_iSim rfl rfl (by repeat (first | exact rfl | exact DLead.same | refine ⟨_, _, rfl, ?_, ?_⟩ | refine ⟨_, rfl, ?_⟩)) hS1 rfl) rfl ?_
  refine AL.p (by exact mv5 rfl) rfl ?_
  refine AL.p (by exact g_extract (r := .d _) rfl rfl) rfl ?_
  refine AL.p (by exact g_extract (r := .d _) rfl rfl) rfl ?_
  refine AL.p (by exact g_extract (r := .d _) rfl rfl) rfl ?_
  refine AL.p (by exact as1 rfl) rfl ?_
  refine AL.p (by exact as1 rfl) rfl ?_
  refine AL.p (by exact as1 rfl) rfl ?_
  refine AL.nil ?_
  refine th_n ?_
  refine AC.seq ?_
  refine AC.region ?_
  refine AL.p (by exact g_load_ptrN rfl rfl rfl rfl rfl) rfl ?_
  refine AL.p (by exact mv1 rfl) rfl ?_
  refine AL.p (by exact mv1 rfl) rfl ?_
  refine AL.q (by exact h_fun (cs := []) en_sSim rfl rfl (by repeat (first | exact rfl | exact DLead.same | refine ⟨_, _, rfl, ?_, ?_⟩ | refine ⟨_, rfl, ?_⟩)) (by repeat (exact True.intro)) hS2 rfl rfl rfl rfl) rfl ?_
  refine AL.p (by exact mv5 rfl) rfl ?_
  refine AL.p (by exact g_extract (r := .own _ _) rfl rfl) rfl ?_
  refine AL.p (by exact g_extract (r := .d _) rfl rfl) rfl ?_
  refine AL.p (by exact g_extract (r := .d _) rfl rfl) rfl ?_
  refine AL.p (by exact as2 rfl) rfl ?_
  refine AL.p (by exact as1 rfl) rfl ?_
  refine AL.p (by exact as1 rfl) rfl ?_
  refine AL.nil ?_
  refine th_n ?_
  refine AC.seq ?_
  refine AC.weak (t := ⟨248, 600, [(1, .d (vB more)), (5, .ptr 200 0), (6, .d (vDls l)), (8, .d (vTfs r)), (9, aS (bstr m)), (10, aT ok), (11, .own 100 r.length), (12, aS (bstr m)), (13, aT ok)], [(200, some (.cells 29 [aI s.net.places, .d (vTs s.net.ts), .d (vSigs s.sigs), .d (vLabs s.labs), aS (bstr s.start)])), (100, some (.arr 49 2 (tfL r)))]⟩) (Weak.ren _ [(200, _), (100, _)] hC rfl (by repeat (first | exact True.intro | refine And.intro ?_ ?_ | exact DLead.same | exact rfl | refine ⟨_, rfl, ?_⟩)) (by repeat (first | exact True.intro | refine And.intro ?_ ?_ | exact DLead.same | exact rfl | refine ⟨_, _, rfl, rfl, ?_⟩ | refine ⟨_, rfl, ?_⟩ | refine ⟨_, _, rfl, ?_, ?_⟩)) rfl rfl rfl) ?_
  refine AC.weak (Weak.freeze (i := 11) rfl rfl (ownl _ _) (ownt _ _)) ?_
  refine AC.region ?_
  refine AL.p (by exact mv1 rfl) rfl ?_
  refine AL.q (by exact h_pure en_sDrawTR rfl rfl (by repeat (first | exact rfl | exact DLead.same | refine ⟨_, _, rfl, ?_, ?_⟩)) hD2 rfl) rfl ?_
  refine AL.p (by exact mv5 rfl) rfl ?_
  refine AL.p (by exact g_extract (r := .agg _) rfl rfl) rfl ?_
  refine AL.p (by exact g_extract (r := .d _) rfl rfl) rfl ?_
  refine AL.p (by exact g_extract (r := .d _) rfl rfl) rfl ?_
  refine AL.q (by exact h_alloc rfl) rfl ?_
  refine AL.q (by exact h_store rfl rfl rfl rfl rfl rfl) rfl ?_
  refine AL.p (by exact as1 rfl) rfl ?_
  refine AL.p (by exact as1 rfl) rfl ?_
  refine AL.nil ?_
  refine th_n ?_
  refine AC.seq ?_
  refine AC.region ?_
  refine AL.p (by exact g_load_ptrN rfl rfl rfl rfl rfl) rfl ?_
  refine AL.p (by exact mv1 rfl) rfl ?_
  refine AL.p (by exact mv1 rfl) rfl ?_
  refine AL.q (by exact h_pure en_iIsTR rfl rfl (by repeat (first | exact rfl | exact DLead.same | refine ⟨_, _, rfl, ?_, ?_⟩ | refine ⟨_, rfl, ?_⟩)) hT1 rfl) rfl ?_
  refine AL.p (by exact mv5 rfl) rfl ?_
  refine AL.p (by exact g_extract (r := .d _) rfl rfl) rfl ?_
  refine AL.p (by exact g_extract (r := .d _) rfl rfl) rfl ?_
  refine AL.p (by exact as1 rfl) rfl ?_
  refine AL.p (by exact as1 rfl) rfl ?_
  refine AL.nil ?_
  refine th_n ?_
  refine AC.seq ?_
  refine AC.region ?_
  refine AL.p (by exact g_load_ptrN rfl rfl rfl rfl rfl) rfl ?_
  refine AL.p (by exact mv1 rfl) rfl ?_
  refine AL.p (by exact mv1 rfl) rfl ?_
  refine AL.q (by exact h_pure en_sIsTR rfl rfl (by repeat (first | exact rfl | exact DLead.same | refine ⟨_, _, rfl, ?_, ?_⟩ | refine ⟨_, rfl, ?_⟩)) hT2 rfl) rfl ?_
  refine AL.p (by exact mv5 rfl) rfl ?_
  refine AL.p (by exact g_extract (r := .d _) rfl rfl) rfl ?_
  refine AL.p (by exact g_extract (r := .d _) rfl rfl) rfl ?_
  refine AL.p (by exact as1 rfl) rfl ?_
  refine AL.p (by exact as1 rfl) rfl ?_
  refine AL.nil ?_
  refine th_n ?_
  refine AC.seq ?_
  refine AC.region ?_
  refine AL.p (by exact mv1 rfl) rfl ?_
  refine AL.q (by exact h_pure en_sDrawEnT rfl rfl (by repeat (first | exact rfl | exact DLead.same | refine ⟨_, _, rfl, ?_, ?_⟩)) hD3 rfl) rfl ?_
  refine AL.p (by exact mv5 rfl) rfl ?_
  refine AL.p (by exact g_extract (r := .agg _) rfl rfl) rfl ?_
  refine AL.p (by exact g_extract (r := .d _) rfl rfl) rfl ?_
  refine AL.q (by exact h_alloc rfl) rfl ?_
  refine AL.q (by exact h_store rfl rfl rfl rfl rfl rfl) rfl ?_
  refine AL.p (by exact as1 rfl) rfl ?_
  refine AL.nil ?_
  refine th_n ?_
  refine AC.seq ?_
  refine AC.region ?_
  refine AL.p (by exact g_load_ptrN rfl rfl rfl rfl rfl) rfl ?_
  refine AL.p (by exact mv1 rfl) rfl ?_
  refine AL.q (by exact h_pure en_iEnT rfl rfl (by repeat (first | exact rfl | exact DLead.same | refine ⟨_, _, rfl, ?_, ?_⟩ | refine ⟨_, rfl, ?_⟩)) hE1 rfl) rfl ?_
  refine AL.p (by exact mv5 rfl) rfl ?_
  refine AL.p (by exact g_extract (r := .d _) rfl rfl) rfl ?_
  refine AL.p (by exact g_extract (r := .d _) rfl rfl) rfl ?_
  refine AL.p (by exact as1 rfl) rfl ?_
  refine AL.p (by exact as1 rfl) rfl ?_
  refine AL.nil ?_
  refine th_n ?_
  refine AC.seq ?_
  refine AC.region ?_
  refine AL.p (by exact g_load_ptrN rfl rfl rfl rfl rfl) rfl ?_
  refine AL.p (by exact mv1 rfl) rfl ?_
  refine AL.q (by exact h_pure en_sEnT rfl rfl (by repeat (first | exact rfl | exact DLead.same | refine ⟨_, _, rfl, ?_, ?_⟩ | refine ⟨_, rfl, ?_⟩)) hE2 rfl) rfl ?_
  refine AL.p (by exact mv5 rfl) rfl ?_
  refine AL.p (by exact g_extract (r := .d _) rfl rfl) rfl ?_
  refine AL.p (by exact g_extract (r := .d _) rfl rfl) rfl ?_
  refine AL.p (by exact as1 rfl) rfl ?_
  refine AL.p (by exact as1 rfl) rfl ?_
  refine AL.nil ?_
  refine th_n ?_
  refine AC.seq ?_
  refine AC.seq ?_
  refine AC.drawn' mixed_ok [[], [], [0,1], [0,1,2], [0,1,2,3], [0,1,2,3], [0,1,2,3,4,5], [0,1,2,3,4,5,6], [0,1,2,3,4,5,6,7], [0,1,2,3,4,5,6,7,8], [0,1,2,3,4,5,6,7,8], [0,1,2,3,4,5,6,7,8,9,10], [0,1,2,3,4,5,6,7,8,9,10,11], [0,1,2,3,4,5,6,7,8,9,10,11,12], [0,1,2,3,4,5,6,7,8,9,10,11,12,13], [0,1,2,3,4,5,6,7,8,9,10,11,12,13,14], [0,1,2,3,4,5,6,7,8,9,10,11,12,13,14], [0,1,2,3,4,5,6,7,8,9,10,11,12,13,14,15,16], [0,1,2,3,4,5,6,7,8,9,10,11,12,13,14,15,16,17], [0,1,2,3,4,5,6,7,8,9,10,11,12,13,14,15,16,17,18], [0,1,2,3,4,5,6,7,8,9,10,11,12,13,14,15,16,17,18,19], [0,1,2,3,4,5,6,7,8,9,10,11,12,13,14,15,16,17,18,19], [0,1,2,3,4,5,6,7,8,9,10,11,12,13,14,15,16,17,18,19,20,21], [0,1,2,3,4,5,6,7,8,9,10,11,12,13,14,15,16,17,18,19,20,21,22], [0,1,2,3,4,5,6,7,8,9,10,11,12,13,14,15,16,17,18,19,20,21,22,23], [0,1,2,3,4,5,6,7,8,9,10,11,12,13,14,15,16,17,18,19,20,21,22,23,24], [0,1,2,3,4,5,6,7,8,9,10,11,12,13,14,15,16,17,18,19,20,21,22,23,24], [0,1,2,3,4,5,6,7,8,9,10,11,12,13,14,15,16,17,18,19,20,21,22,23,24,25,26], [0,1,2,3,4,5,6,7,8,9,10,11,12,13,14,15,16,17,18,19,20,21,22,23,24,25,26,27], [0,1,2,3,4,5,6,7,8,9,10,11,12,13,14,15,16,17,18,19,20,21,22,23,24,25,26,27,28], [0,1,2,3,4,5,6,7,8,9,10,11,12,13,14,15,16,17,18,19,20,21,22,23,24,25,26,27,28,29], [0,1,2,3,4,5,6,7,8,9,10,11,12,13,14,15,16,17,18,19,20,21,22,23,24,25,26,27,28,29], [0,1,2,3,4,5,6,7,8,9,10,11,12,13,14,15,16,17,18,19,20,21,22,23,24,25,26,27,28,29,30,31], [0,1,2,3,4,5,6,7,8,9,10,11,12,13,14,15,16,17,18,19,20,21,22,23,24,25,26,27,28,29,30,31,32], [0,1,2,3,4,5,6,7,8,9,10,11,12,13,14,15,16,17,18,19,20,21,22,23,24,25,26,27,28,29,30,31,32,33], [0,1,2,3,4,5,6,7,8,9,10,11,12,13,14,15,16,17,18,19,20,21,22,23,24,25,26,27,28,29,30,31,32,33,34], [0,1,2,3,4,5,6,7,8,9,10,11,12,13,14,15,16,17,18,19,20,21,22,23,24,25,26,27,28,29,30,31,32,33,34,35], [0,1,2,3,4,5,6,7,8,9,10,11,12,13,14,15,16,17,18,19,20,21,22,23,24,25,26,27,28,29,30,31,32,33,34,35], [0,1,2,3,4,5,6,7,8,9,10,11,12,13,14,15,16,17,18,19,20,21,22,23,24,25,26,27,28,29,30,31,32,33,34,35,36,37], [0,1,2,3,4,5,6,7,8,9,10,11,12,13,14,15,16,17,18,19,20,21,22,23,24,25,26,27,28,29,30,31,32,33,34,35], [0,1,2,3,4,5,6,7,8,9,10,11,12,13,14,15,16,17,18,19,20,21,22,23,24,25,26,27,28,29,30,31,32,33,34,35], [0,1,2,3,4,5,6,7,8,9,10,11,12,13,14,15,16,17,18,19,20,21,22,23,24,25,26,27,28,29,30,31,32,33,34,35,36,37,38,39,40], [0,1,2,3,4,5,6,7,8,9,10,11,12,13,14,15,16,17,18,19,20,21,22,23,24,25,26,27,28,29,30,31,32,33,34,35,36,37,38,39,40,41], [0,1,2,3,4,5,6,7,8,9,10,11,12,13,14,15,16,17,18,19,20,21,22,23,24,25,26,27,28,29,30,31,32,33,34,35,36,37,38,39,40,41,42]] (by decide) ?_
  refine DF.op 0 [] 44 rfl rfl rfl (.free rfl (NOp.of (by exact mv1 rfl))) rfl ?_
  refine DF.op 1 [] 44 rfl rfl rfl (.free rfl (NOp.of (by exact mv1 rfl))) rfl ?_
  refine DF.op 2 [0,1] 44 rfl rfl rfl (.free rfl (NOp.of (by exact g_neBr rfl rfl rfl))) rfl ?_
  refine DF.op 3 [0,1,2] 44 rfl rfl rfl (.free rfl (NOp.of (by exact mv1 rfl))) rfl ?_
  refine DF.op 4 [0,1,2,3] 44 rfl rfl rfl (.yes rfl rfl rfl rfl (NOp.of (by exact mv1 rfl))) rfl ?_
  refine DF.op 5 [0,1,2,3] 44 rfl rfl rfl (.yes rfl rfl rfl rfl (NOp.of (by exact mv1 rfl))) rfl ?_
  refine DF.op 6 [0,1,2,3,4,5] 44 rfl rfl rfl (.yes rfl rfl rfl rfl (NOp.of (by exact g_neSr rfl rfl rfl))) rfl ?_
  refine DF.op 7 [0,1,2,3,4,5,6] 44 rfl rfl rfl (.free rfl (NOp.of (by exact g_pickF (r := .d _) rfl rfl))) rfl ?_
  refine DF.op 8 [0,1,2,3,4,5,6,7] 44 rfl rfl rfl (.free rfl (NOp.of (by exact mv1 rfl))) rfl ?_
  refine DF.op 9 [0,1,2,3,4,5,6,7,8] 44 rfl rfl rfl (.yes rfl rfl rfl rfl (NOp.of (by exact mv1 rfl))) rfl ?_
  refine DF.op 10 [0,1,2,3,4,5,6,7,8] 44 rfl rfl rfl (.yes rfl rfl rfl rfl (NOp.of (by exact mv1 rfl))) rfl ?_
  refine DF.op 11 [0,1,2,3,4,5,6,7,8,9,10] 44 rfl rfl rfl (.yes rfl rfl rfl rfl (by exact h_pure en_qSameTimed rfl rfl (by repeat (first | exact rfl | exact DLead.same | refine ⟨_, _, rfl, ?_, ?_⟩)) hQ1 rfl)) rfl ?_
  refine DF.op 12 [0,1,2,3,4,5,6,7,8,9,10,11] 44 rfl rfl rfl (.yes rfl rfl rfl rfl (NOp.of (by exact g_not rfl))) rfl ?_
  refine DF.op 13 [0,1,2,3,4,5,6,7,8,9,10,11,12] 44 rfl rfl rfl (.free rfl (NOp.of (by exact g_pickF (r := .d _) rfl rfl))) rfl ?_
  refine DF.op 14 [0,1,2,3,4,5,6,7,8,9,10,11,12,13] 44 rfl rfl rfl (.free rfl (NOp.of (by exact mv1 rfl))) rfl ?_
  refine DF.op 15 [0,1,2,3,4,5,6,7,8,9,10,11,12,13,14] 44 rfl rfl rfl (.yes rfl rfl rfl rfl (NOp.of (by exact mv1 rfl))) rfl ?_
  refine DF.op 16 [0,1,2,3,4,5,6,7,8,9,10,11,12,13,14] 44 rfl rfl rfl (.yes rfl rfl rfl rfl (NOp.of (by exact mv1 rfl))) rfl ?_
  refine DF.op 17 [0,1,2,3,4,5,6,7,8,9,10,11,12,13,14,15,16] 44 rfl rfl rfl (.yes rfl rfl rfl rfl (NOp.of (by exact g_neBr rfl rfl rfl))) rfl ?_
  refine DF.op 18 [0,1,2,3,4,5,6,7,8,9,10,11,12,13,14,15,16,17] 44 rfl rfl rfl (.free rfl (NOp.of (by exact g_pickF (r := .d _) rfl rfl))) rfl ?_
  refine DF.op 19 [0,1,2,3,4,5,6,7,8,9,10,11,12,13,14,15,16,17,18] 44 rfl rfl rfl (.free rfl (NOp.of (by exact mv1 rfl))) rfl ?_
  refine DF.op 20 [0,1,2,3,4,5,6,7,8,9,10,11,12,13,14,15,16,17,18,19] 44 rfl rfl rfl (.yes rfl rfl rfl rfl (NOp.of (by exact mv1 rfl))) rfl ?_
  refine DF.op 21 [0,1,2,3,4,5,6,7,8,9,10,11,12,13,14,15,16,17,18,19] 44 rfl rfl rfl (.yes rfl rfl rfl rfl (NOp.of (by exact mv1 rfl))) rfl ?_
  refine DF.op 22 [0,1,2,3,4,5,6,7,8,9,10,11,12,13,14,15,16,17,18,19,20,21] 44 rfl rfl rfl (.yes rfl rfl rfl rfl (NOp.of (by exact g_neBr rfl rfl rfl))) rfl ?_
  refine DF.op 23 [0,1,2,3,4,5,6,7,8,9,10,11,12,13,14,15,16,17,18,19,20,21,22] 44 rfl rfl rfl (.free rfl (NOp.of (by exact g_pickF (r := .d _) rfl rfl))) rfl ?_
  refine DF.op 24 [0,1,2,3,4,5,6,7,8,9,10,11,12,13,14,15,16,17,18,19,20,21,22,23] 44 rfl rfl rfl (.free rfl (NOp.of (by exact mv1 rfl))) rfl ?_
  refine DF.op 25 [0,1,2,3,4,5,6,7,8,9,10,11,12,13,14,15,16,17,18,19,20,21,22,23,24] 44 rfl rfl rfl (.yes rfl rfl rfl rfl (NOp.of (by exact mv1 rfl))) rfl ?_
  refine DF.op 26 [0,1,2,3,4,5,6,7,8,9,10,11,12,13,14,15,16,17,18,19,20,21,22,23,24] 44 rfl rfl rfl (.yes rfl rfl rfl rfl (NOp.of (by exact mv1 rfl))) rfl ?_
  refine DF.op 27 [0,1,2,3,4,5,6,7,8,9,10,11,12,13,14,15,16,17,18,19,20,21,22,23,24,25,26] 44 rfl rfl rfl (.yes rfl rfl rfl rfl (NOp.of (by exact g_neBr rfl rfl rfl))) rfl ?_
  refine DF.op 28 [0,1,2,3,4,5,6,7,8,9,10,11,12,13,14,15,16,17,18,19,20,21,22,23,24,25,26,27] 44 rfl rfl rfl (.free rfl (NOp.of (by exact g_pickF (r := .d _) rfl rfl))) rfl ?_
  refine DF.op 29 [0,1,2,3,4,5,6,7,8,9,10,11,12,13,14,15,16,17,18,19,20,21,22,23,24,25,26,27,28] 44 rfl rfl rfl (.free rfl (NOp.of (by exact mv1 rfl))) rfl ?_
  refine DF.op 30 [0,1,2,3,4,5,6,7,8,9,10,11,12,13,14,15,16,17,18,19,20,21,22,23,24,25,26,27,28,29] 44 rfl rfl rfl (.yes rfl rfl rfl rfl (NOp.of (by exact mv1 rfl))) rfl ?_
  refine DF.op 31 [0,1,2,3,4,5,6,7,8,9,10,11,12,13,14,15,16,17,18,19,20,21,22,23,24,25,26,27,28,29] 44 rfl rfl rfl (.yes rfl rfl rfl rfl (NOp.of (by exact mv1 rfl))) rfl ?_
  refine DF.op 32 [0,1,2,3,4,5,6,7,8,9,10,11,12,13,14,15,16,17,18,19,20,21,22,23,24,25,26,27,28,29,30,31] 44 rfl rfl rfl (.yes rfl rfl rfl rfl (by exact h_pure en_qSameN rfl rfl (by repeat (first | exact rfl | exact DLead.same | refine ⟨_, _, rfl, ?_, ?_⟩)) hQ2 rfl)) rfl ?_
  refine DF.op 33 [0,1,2,3,4,5,6,7,8,9,10,11,12,13,14,15,16,17,18,19,20,21,22,23,24,25,26,27,28,29,30,31,32] 44 rfl rfl rfl (.yes rfl rfl rfl rfl (NOp.of (by exact g_not rfl))) rfl ?_
  refine DF.op 34 [0,1,2,3,4,5,6,7,8,9,10,11,12,13,14,15,16,17,18,19,20,21,22,23,24,25,26,27,28,29,30,31,32,33] 44 rfl rfl rfl (.free rfl (NOp.of (by exact g_pickF (r := .d _) rfl rfl))) rfl ?_
  refine DF.op 35 [0,1,2,3,4,5,6,7,8,9,10,11,12,13,14,15,16,17,18,19,20,21,22,23,24,25,26,27,28,29,30,31,32,33,34] 44 rfl rfl rfl (.free rfl (NOp.of (by exact mv1 rfl))) rfl ?_
  refine DF.op 36 [0,1,2,3,4,5,6,7,8,9,10,11,12,13,14,15,16,17,18,19,20,21,22,23,24,25,26,27,28,29,30,31,32,33,34,35] 44 rfl rfl rfl (.yes rfl rfl rfl rfl (NOp.of (by exact g_load_ptrN rfl rfl rfl rfl rfl))) rfl ?_
  refine DF.op 37 [0,1,2,3,4,5,6,7,8,9,10,11,12,13,14,15,16,17,18,19,20,21,22,23,24,25,26,27,28,29,30,31,32,33,34,35] 44 rfl rfl rfl (.yes rfl rfl rfl rfl (NOp.of (by exact mv1 rfl))) rfl ?_
  refine DF.op 38 [0,1,2,3,4,5,6,7,8,9,10,11,12,13,14,15,16,17,18,19,20,21,22,23,24,25,26,27,28,29,30,31,32,33,34,35,36,37] 44 rfl rfl rfl (.yes rfl rfl rfl rfl (by exact h_pure en_iVDel rfl rfl (by repeat (first | exact rfl | exact DLead.same | refine ⟨_, _, rfl, ?_, ?_⟩ | refine ⟨_, rfl, ?_⟩)) hV1 rfl)) rfl ?_
  refine DF.op 39 [0,1,2,3,4,5,6,7,8,9,10,11,12,13,14,15,16,17,18,19,20,21,22,23,24,25,26,27,28,29,30,31,32,33,34,35] 44 rfl rfl rfl (.yes rfl rfl rfl rfl (NOp.of (by exact g_load_ptrN rfl rfl rfl rfl rfl))) rfl ?_
  refine DF.op 40 [0,1,2,3,4,5,6,7,8,9,10,11,12,13,14,15,16,17,18,19,20,21,22,23,24,25,26,27,28,29,30,31,32,33,34,35] 44 rfl rfl rfl (.yes rfl rfl rfl rfl (NOp.of (by exact mv1 rfl))) rfl ?_
  refine DF.op 41 [0,1,2,3,4,5,6,7,8,9,10,11,12,13,14,15,16,17,18,19,20,21,22,23,24,25,26,27,28,29,30,31,32,33,34,35,36,37,38,39,40] 44 rfl rfl rfl (.yes rfl rfl rfl rfl (by exact h_pure en_sVDel rfl rfl (by repeat (first | exact rfl | exact DLead.same | refine ⟨_, _, rfl, ?_, ?_⟩ | refine ⟨_, rfl, ?_⟩)) hV2 rfl)) rfl ?_
  refine DF.op 42 [0,1,2,3,4,5,6,7,8,9,10,11,12,13,14,15,16,17,18,19,20,21,22,23,24,25,26,27,28,29,30,31,32,33,34,35,36,37,38,39,40,41] 44 rfl rfl rfl (.yes rfl rfl rfl rfl (NOp.of (by exact g_neBr rfl rfl rfl))) rfl ?_
  refine DF.op 43 [0,1,2,3,4,5,6,7,8,9,10,11,12,13,14,15,16,17,18,19,20,21,22,23,24,25,26,27,28,29,30,31,32,33,34,35,36,37,38,39,40,41,42] 44 rfl rfl rfl (.free rfl (NOp.of (by exact g_pickF (r := .d _) rfl rfl))) rfl ?_
  refine DF.fin (ps := [(0,1),(1,0),(4,5),(5,4),(9,10),(10,9),(15,16),(16,15),(20,21),(21,20),(25,26),(26,25),(30,31),(31,30),(36,37),(36,39),(36,40),(37,36),(37,39),(37,40),(38,39),(38,40),(39,36),(39,37),(39,38),(39,40),(40,36),(40,37),(40,38),(40,39)]) 44 rfl (by decide +kernel) (by decide +kernel) (by rfl) ?_
  refine th_n ?_
  refine AC.condF rfl ?_
  refine AC.skip ?_
  refine th_n ?_
  refine AC.seq ?_
  refine AC.seq ?_
  refine AC.region ?_
  refine AL.p (by exact mv1 rfl) rfl ?_
  refine AL.p (by exact g_not rfl) rfl ?_
  refine AL.nil ?_
  refine th_n ?_
  refine AC.condB rfl (fun h1 => ?_) (fun h1 => ?_)
  ·refine AC.seq ?_
   refine AC.region ?_
   refine AL.p (by exact as1 rfl) rfl ?_
   refine AL.nil ?_
   refine th_n ?_
   refine AC.ret ?_
   refine th_r ?_
   refine bq_r ?_
   exact ret1 rfl rfl
  ·refine AC.skip ?_
   refine th_n ?_
   refine AC.seq ?_
   have hok : ok = true := by simpa using h1
   subst hok
   obtain ⟨hL1, hL2, since, hL3, hsl, hL4, hcnt⟩ := hLaw rfl
   have hml := hml rfl
   have hN := sEnabled_spec s.net m hs.B.n hml
   rw [hL1] at hT3
   rw [hL2] at hF0
   rw [hL3] at hE3
   rw [hL4] at hN
   obtain ⟨Rl, hRl⟩ : ∃ Rl, Rl = readyL s.net m s.net.ts.length := ⟨_, rfl⟩
   rw [← hRl] at hN hcnt
   refine AC.weak (t := ⟨248, 900, [(5, .ptr 200 0), (6, .d (vDls l)), (8, .d (vTfs r)), (9, aS (bstr m))], [(200, some (.cells 29 [aI s.net.places, .d (vTs s.net.ts), .d (vSigs s.sigs), .d (vLabs s.labs), aS (bstr s.start)]))]⟩) (Weak.ren _ [(200, 200)] hC rfl (by repeat (first | exact True.intro | refine And.intro ?_ ?_ | exact DLead.same | exact rfl | refine ⟨_, rfl, ?_⟩)) (by repeat (first | exact True.intro | refine And.intro ?_ ?_ | exact DLead.same | exact rfl | refine ⟨_, _, rfl, rfl, ?_⟩ | refine ⟨_, rfl, ?_⟩ | refine ⟨_, _, rfl, ?_, ?_⟩)) rfl rfl rfl) ?_
   refine AC.region ?_
   refine AL.p (by exact g_load_ptrN rfl rfl rfl rfl rfl) rfl ?_
   refine AL.p (by exact mv1 rfl) rfl ?_
   refine AL.p (by exact mv1 rfl) rfl ?_
   refine AL.q (by exact h_pure en_iIsTR rfl rfl (by repeat (first | exact rfl | exact DLead.same | refine ⟨_, _, rfl, ?_, ?_⟩ | refine ⟨_, rfl, ?_⟩)) hT3 rfl) rfl ?_
   refine AL.p (by exact mv5 rfl) rfl ?_
   refine AL.p (by exact g_extract (r := .d _) rfl rfl) rfl ?_
   refine AL.p (by exact g_extract (r := .d _) rfl rfl) rfl ?_
   refine AL.p (by exact as1 rfl) rfl ?_
   refine AL.p (by exact as1 rfl) rfl ?_
   refine AL.nil ?_
   refine th_n ?_
   refine AC.seq ?_
   refine AC.region ?_
   refine AL.p (by exact as1 rfl) rfl ?_
   refine AL.nil ?_
   refine th_n ?_
   refine AC.seq ?_
   refine AC.seq ?_
   refine AC.region ?_
   refine AL.p (by exact mv1 rfl) rfl ?_
   refine AL.p (by exact g_len_view (k := r.length) rfl rfl (tfL_len _)) rfl ?_
   refine AL.p (by exact mv1 rfl) rfl ?_
   refine AL.nil ?_
   refine th_n ?_
   refine AC.block ?_
   refine AC.loop (ι := Nat) (fun k => ⟨248, 1200, [(5, .ptr 200 0), (8, .d (vTfs r)), (9, aS (bstr m)), (27, aT true), (28, aT true), (29, .own 100 (tfTs (r.take k)).length), (160, .d (vTfs r)), (161, aI r.length), (162, aI k)], [(200, some (.cells 29 [aI s.net.places, .d (vTs s.net.ts), .d (vSigs s.sigs), .d (vLabs s.labs), aS (bstr s.start)])), (100, some (.arr 3 1 (ints (tfTs (r.take k)))))]⟩) (fun k => k ≤ r.length) (fun k => r.length - k) (0) ?_ (Nat.zero_le _) ?_
   ·exact (Weak.nilOwn (i := 29) (e := 3) (sz := 1) rfl (by decide)).trans (Weak.ren _ [(200, 200), (100, _)] hC rfl (by repeat (first | exact True.intro | refine And.intro ?_ ?_ | exact DLead.same | exact rfl | refine ⟨_, rfl, ?_⟩)) (by repeat (first | exact True.intro | refine And.intro ?_ ?_ | exact DLead.same | exact rfl | refine ⟨_, _, rfl, rfl, ?_⟩ | refine ⟨_, rfl, ?_⟩ | refine ⟨_, _, rfl, ?_, ?_⟩)) rfl rfl rfl)
   ·intro k hk
    refine AC.seq ?_
    refine AC.region ?_
    refine AL.p (by exact g_cmp rfl rfl rfl) rfl ?_
    refine AL.nil ?_
    refine th_n ?_
    refine AC.seq ?_
    refine AC.condD rfl (fun h2 => ?_) (fun h2 => ?_)
    ·refine AC.skip ?_
     refine th_n ?_
     refine AC.seq ?_
     refine AC.block ?_
     refine AC.seq ?_
     have hk1 : k < r.length := by omega
     have hget := tfL_get hk1
     have htake := tfTs_take hk1
     have hla : (tfTs (r.take k) ++ [r[k].t]).length ≤ 100000000 := by rw [List.length_append, tfTs_len, List.length_take]; simp only [List.length_cons, List.length_nil]; omega
     refine AC.region ?_
     refine AL.p (by exact g_ia_view rfl rfl rfl rfl rfl (by rfl) (by assumption)) rfl ?_
     refine AL.p (by exact g_load_refN rfl rfl rfl rfl) rfl ?_
     refine AL.q (by exact h_alloc rfl) rfl ?_
     refine AL.q (by exact h_store rfl rfl rfl rfl rfl rfl) rfl ?_
     refine AL.nil ?_
     refine th_n ?_
     refine AC.region ?_
     refine AL.p (by exact mv2 rfl) rfl ?_
     refine AL.p (by exact g_fa_ptr rfl rfl rfl rfl rfl) rfl ?_
     refine AL.p (by exact g_load_ptr rfl rfl rfl rfl rfl) rfl ?_
     refine AL.q (by exact h_litF rfl rfl rfl rfl rfl rfl rfl rfl) rfl ?_
     refine AL.q (by exact h_appendI (tfTs (r.take k)) [r[k].t] (.own rfl rfl (ints_len _).symm) (.view rfl) hla (by simp)) rfl ?_
     refine AL.p (by exact as2 rfl) rfl ?_
     refine AL.nil ?_
     refine ib_n ?_
     refine th_n ?_
     refine AC.region ?_
     refine AL.p (by exact g_arith rfl rfl rfl (by exact wrap_i64 (by omega))) rfl ?_
     refine AL.p (by exact mv1 rfl) rfl ?_
     refine AL.nil ?_
     refine th_n ?_
     exact ⟨k + 1, by omega, by omega, Weak.ren _ [(200, 200), (100, _)] hC rfl (by rw [htake]; repeat (first | exact True.intro | refine And.intro ?_ ?_ | exact DLead.same | exact rfl | refine ⟨_, rfl, ?_⟩)) (by rw [htake]; repeat (first | exact True.intro | refine And.intro ?_ ?_ | exact DLead.same | exact rfl | refine ⟨_, _, rfl, rfl, ?_⟩ | refine ⟨_, rfl, ?_⟩ | refine ⟨_, _, rfl, ?_, ?_⟩)) rfl rfl rfl⟩
    ·refine AC.exit ?_
     refine th_e ?_
     refine th_e ?_
     refine ib_y ?_
     refine th_n ?_
     refine AC.seq ?_
     have hkk : k = r.length := by omega
     subst hkk
     rw [List.take_length]
     refine AC.weak (Weak.freeze (i := 29) rfl rfl (Nat.le_of_eq (ints_len _).symm) (ints_all _)) ?_
     refine AC.region ?_
     refine AL.p (by exact g_fa_ptr rfl rfl rfl rfl rfl) rfl ?_
     refine AL.p (by exact g_load_ptrN rfl rfl rfl rfl rfl) rfl ?_
     refine AL.p (by exact g_fa_ptr rfl rfl rfl rfl rfl) rfl ?_
     refine AL.p (by exact g_load_ptr rfl rfl rfl rfl rfl) rfl ?_
     refine AL.p (by exact mv1 rfl) rfl ?_
     refine AL.q (by exact h_pure en_sFireSeq rfl rfl (by repeat (first | exact rfl | exact DLead.same | refine ⟨_, _, rfl, ?_, ?_⟩ | refine ⟨_, rfl, ?_⟩)) hF0 rfl) rfl ?_
     refine AL.p (by exact mv5 rfl) rfl ?_
     refine AL.p (by exact g_extract (r := .d _) rfl rfl) rfl ?_
     refine AL.p (by exact g_extract (r := .d _) rfl rfl) rfl ?_
     refine AL.p (by exact g_extract (r := .d _) rfl rfl) rfl ?_
     refine AL.p (by exact as1 rfl) rfl ?_
     refine AL.p (by exact as1 rfl) rfl ?_
     refine AL.p (by exact as1 rfl) rfl ?_
     refine AL.nil ?_
     refine th_n ?_
     refine AC.seq ?_
     refine AC.region ?_
     refine AL.p (by exact g_load_ptrN rfl rfl rfl rfl rfl) rfl ?_
     refine AL.p (by exact mv1 rfl) rfl ?_
     refine AL.q (by exact h_pure en_iEnT rfl rfl (by repeat (first | exact rfl | exact DLead.same | refine ⟨_, _, rfl, ?_, ?_⟩ | refine ⟨_, rfl, ?_⟩)) hE3 rfl) rfl ?_
     refine AL.p (by exact mv5 rfl) rfl ?_
     refine AL.p (by exact g_extract (r := .d _) rfl rfl) rfl ?_
     refine AL.p (by exact g_extract (r := .d _) rfl rfl) rfl ?_
     refine AL.p (by exact as1 rfl) rfl ?_
     refine AL.p (by exact as1 rfl) rfl ?_
     refine AL.nil ?_
     refine th_n ?_
     refine AC.seq ?_
     refine AC.region ?_
     refine AL.p (by exact g_fa_ptr rfl rfl rfl rfl rfl) rfl ?_
     refine AL.p (by exact g_load_ptrN rfl rfl rfl rfl rfl) rfl ?_
     refine AL.p (by exact mv1 rfl) rfl ?_
     refine AL.q (by exact h_pure en_sEnabled rfl rfl (by repeat (first | exact rfl | exact DLead.same | refine ⟨_, _, rfl, ?_, ?_⟩ | refine ⟨_, rfl, ?_⟩)) hN rfl) rfl ?_
     refine AL.p (by exact mv5 rfl) rfl ?_
     refine AL.p (by exact g_extract (r := .d _) rfl rfl) rfl ?_
     refine AL.p (by exact g_extract (r := .d _) rfl rfl) rfl ?_
     refine AL.p (by exact as1 rfl) rfl ?_
     refine AL.p (by exact as1 rfl) rfl ?_
     refine AL.nil ?_
     refine th_n ?_
     refine AC.seq ?_
     refine AC.seq ?_
     refine AC.region ?_
     refine AL.p (by exact mv1 rfl) rfl ?_
     refine AL.p (by exact g_not rfl) rfl ?_
     refine AL.p (by exact mv1 rfl) rfl ?_
     refine AL.yes rfl rfl rfl ?_
     refine AL.p (by exact mv1 rfl) rfl ?_
     refine AL.yes rfl rfl rfl ?_
     refine AL.p (by exact g_not rfl) rfl ?_
     refine AL.p (by exact g_pickF (r := .d _) rfl rfl) rfl ?_
     refine AL.p (by exact mv1 rfl) rfl ?_
     refine AL.yes rfl rfl rfl ?_
     refine AL.p (by exact mv1 rfl) rfl ?_
     refine AL.yes rfl rfl rfl ?_
     refine AL.p (by exact g_not rfl) rfl ?_
     refine AL.p (by exact g_pickF (r := .d _) rfl rfl) rfl ?_
     refine AL.p (by exact mv1 rfl) rfl ?_
     refine AL.yes rfl rfl rfl ?_
     refine AL.p (by exact mv1 rfl) rfl ?_
     refine AL.yes rfl rfl rfl ?_
     refine AL.p (by exact mv1 rfl) rfl ?_
     refine AL.yes rfl rfl rfl ?_
     refine AL.p (by exact g_neSr rfl rfl rfl) rfl ?_
     refine AL.p (by exact g_pickF (r := .d _) rfl rfl) rfl ?_
     refine AL.p (by exact mv1 rfl) rfl ?_
     refine AL.yes rfl rfl rfl ?_
     refine AL.p (by exact mv1 rfl) rfl ?_
     refine AL.yes rfl rfl rfl ?_
     refine AL.p (by exact mv1 rfl) rfl ?_
     refine AL.yes rfl rfl rfl ?_
     refine AL.p (by exact g_len_view (k := r.length) rfl rfl (tfL_len _)) rfl ?_
     refine AL.yes rfl rfl rfl ?_
     refine AL.p (by exact g_neIr rfl rfl rfl) rfl ?_
     refine AL.p (by exact g_pickF (r := .d _) rfl rfl) rfl ?_
     refine AL.p (by exact mv1 rfl) rfl ?_
     refine AL.yes rfl rfl rfl ?_
     refine AL.p (by exact mv1 rfl) rfl ?_
     refine AL.yes rfl rfl rfl ?_
     refine AL.p (by exact g_not rfl) rfl ?_
     refine AL.p (by exact g_pickF (r := .d _) rfl rfl) rfl ?_
     refine AL.p (by exact mv1 rfl) rfl ?_
     refine AL.yes rfl rfl rfl ?_
     refine AL.p (by exact mv1 rfl) rfl ?_
     refine AL.yes rfl rfl rfl ?_
     refine AL.p (by exact g_not rfl) rfl ?_
     refine AL.p (by exact g_pickF (r := .d _) rfl rfl) rfl ?_
     refine AL.p (by exact mv1 rfl) rfl ?_
     refine AL.yes rfl rfl rfl ?_
     refine AL.p (by exact mv1 rfl) rfl ?_
     refine AL.yes rfl rfl rfl ?_
     refine AL.p (by exact g_len_view (k := since.length) rfl rfl (ints_len _)) rfl ?_
     refine AL.yes rfl rfl rfl ?_
     refine AL.p (by exact g_fa_ptr rfl rfl rfl rfl rfl) rfl ?_
     refine AL.yes rfl rfl rfl ?_
     refine AL.p (by exact g_fa_ptr rfl rfl rfl rfl rfl) rfl ?_
     refine AL.yes rfl rfl rfl ?_
     refine AL.p (by exact g_load_ptr rfl rfl rfl rfl rfl) rfl ?_
     refine AL.yes rfl rfl rfl ?_
     refine AL.p (by exact g_len_view (k := s.net.ts.length) rfl rfl (tsL_len _)) rfl ?_
     refine AL.yes rfl rfl rfl ?_
     refine AL.p (by exact g_neIr rfl rfl (by omega)) rfl ?_
     refine AL.p (by exact g_pickF (r := .d _) rfl rfl) rfl ?_
     refine AL.nil ?_
     refine th_n ?_
     refine AC.condF rfl ?_
     refine AC.skip ?_
     refine th_n ?_
     refine AC.seq ?_
     refine AC.region ?_
     refine AL.p (by exact as1 rfl) rfl ?_
     refine AL.nil ?_
     refine th_n ?_
     refine AC.seq ?_
     refine AC.seq ?_
     refine AC.region ?_
     refine AL.p (by exact mv1 rfl) rfl ?_
     refine AL.p (by exact g_len_view (k := since.length) rfl rfl (ints_len _)) rfl ?_
     refine AL.p (by exact mv1 rfl) rfl ?_
     refine AL.nil ?_
     refine th_n ?_
     refine AC.block ?_
     refine AC.loop (ι := Nat) (fun k => ⟨248, 2000, [(37, .d (vI Rl)), (39, aI (cntN since k)), (233, .d (vI since)), (234, aI since.length), (235, aI k)], []⟩) (fun k => k ≤ since.length) (fun k => since.length - k) (0) ?_ (Nat.zero_le _) ?_
     ·refine Weak.ren _ [] hC rfl ?_ ?_ rfl rfl rfl <;> repeat (first | exact True.intro | refine And.intro ?_ ?_ | exact DLead.same)
     ·intro k hk
      refine AC.seq ?_
      refine AC.region ?_
      refine AL.p (by exact g_cmp rfl rfl rfl) rfl ?_
      refine AL.nil ?_
      refine th_n ?_
      refine AC.seq ?_
      refine AC.condD rfl (fun h3 => ?_) (fun h3 => ?_)
      ·refine AC.skip ?_
       refine th_n ?_
       refine AC.seq ?_
       refine AC.block ?_
       refine AC.seq ?_
       have hk1 : k < since.length := by omega
       have hget := ints_iAt hk1
       have hle := cntN_le since k
       refine AC.region ?_
       refine AL.p (by exact g_ia_view rfl rfl rfl rfl rfl (by rfl) (by assumption)) rfl ?_
       refine AL.p (by exact g_load_ref rfl rfl rfl) rfl ?_
       refine AL.p (by exact as1 rfl) rfl ?_
       refine AL.nil ?_
       refine th_n ?_
       refine AC.seq ?_
       refine AC.region ?_
       refine AL.p (by exact mv1 rfl) rfl ?_
       refine AL.p (by exact g_cmp rfl rfl rfl) rfl ?_
       refine AL.nil ?_
       refine th_n ?_
       refine AC.condD rfl (fun h4 => ?_) (fun h4 => ?_)
       ·refine AC.region ?_
        refine AL.p (by exact mv1 rfl) rfl ?_
        refine AL.p (by exact g_arith rfl rfl rfl (by exact wrap_i64 (by omega))) rfl ?_
        refine AL.p (by exact as1 rfl) rfl ?_
        refine AL.nil ?_
        refine ib_n ?_
        refine th_n ?_
        refine AC.region ?_
        refine AL.p (by exact g_arith rfl rfl rfl (by exact wrap_i64 (by omega))) rfl ?_
        refine AL.p (by exact mv1 rfl) rfl ?_
        refine AL.nil ?_
        refine th_n ?_
        (have e := cntN_t (since := since) (k := k) (by omega); exact ⟨k + 1, by omega, by omega, Weak.ren _ [] hC rfl (by rw [e]; repeat (first | exact True.intro | refine And.intro ?_ ?_ | exact DLead.same)) (by repeat (exact True.intro)) rfl rfl rfl⟩)
       ·refine AC.skip ?_
        refine ib_n ?_
        refine th_n ?_
        refine AC.region ?_
        refine AL.p (by exact g_arith rfl rfl rfl (by exact wrap_i64 (by omega))) rfl ?_
        refine AL.p (by exact mv1 rfl) rfl ?_
        refine AL.nil ?_
        refine th_n ?_
        (have e := cntN_f (since := since) (k := k) (by omega); exact ⟨k + 1, by omega, by omega, Weak.ren _ [] hC rfl (by rw [e]; repeat (first | exact True.intro | refine And.intro ?_ ?_ | exact DLead.same)) (by repeat (exact True.intro)) rfl rfl rfl⟩)
      ·refine AC.exit ?_
       refine th_e ?_
       refine th_e ?_
       refine ib_y ?_
       refine th_n ?_
       refine AC.seq ?_
       have hkk : k = since.length := by omega
       subst hkk
       have hcnt2 : cntN since since.length = Rl.length := by rw [hsl]; exact hcnt
       refine AC.region ?_
       refine AL.p (by exact mv1 rfl) rfl ?_
       refine AL.p (by exact mv1 rfl) rfl ?_
       refine AL.p (by exact g_len_view (k := Rl.length) rfl rfl (ints_len _)) rfl ?_
       refine AL.p (by exact g_eqIr rfl rfl (by omega)) rfl ?_
       refine AL.p (by exact as1 rfl) rfl ?_
       refine AL.nil ?_
       refine th_n ?_
       refine AC.ret ?_
       refine bq_r ?_
       exact ret1 rfl rfl
theorem FnTimed_spec (code more : List UInt8) (hc : code.length ≤ 9223372036854775807) (hm : more.length ≤ 9223372036854775807) : ASpec Tryz.prog 3 [.d (vB code), .d (vB more)] [] (Pure1 (aT true)) := by
 obtain ⟨s, l, ds, hs, hl, hds, hD1⟩ := sDrawSim_ex code
 obtain ⟨s2, l2, run2, hs2, hl2, hr2, hD2⟩ := sDrawTR_ex more
 obtain ⟨s3, run3, hs3, hr3, hD3⟩ := sDrawEnT_ex more
 exact FnTimed_gen code more s s2 s3 l l2 ds run2 run3 hc hm hs hl hds hs2 hl2 hr2 hs3 hr3 hD1 hD2 hD3
end Go.Proofs.YtijnganhpnmhaaaGreat
