
/- Contracts of the functions of the program and of the reference, each proved by a walk through its code. -/
import Derived.WalkKit
import Derived.WalkSpells
import Derived.WalkLawsBesides
import Derived.Deep.Draws
import Derived.Lib.Hide
import Derived.Maps.AppendAt
import Derived.OwnWalk
import Derived.Deep.MidRow
import Derived.Laws.ResultCell
import Derived.Deep.Upon
import Derived.Great.FillDense
import Derived.Laws.Tables
import Derived.Laws.BytesArg
import Derived.Laws.MakeOwn
import Derived.Great.BuildSlice
import Derived.ArgAppend
import Derived.Deep.AppendSrc
import Derived.Test.YtijnganhpnmhaaaGreatProg
import Derived.KernelRfl
import Derived.Orders
import Derived.Laws.IdiomStrings
import Derived.Lib.AppendZerosOnto
import Derived.ProofKit
import Derived.OpenShut
import Derived.Laws.IdiomCopy
import Derived.Shelf.Bits.Mul64
import Derived.Test.YtijnganhpnmhaaaGreatRows
import Derived.Laws.StructEq
import Derived.ChangeKeysEq
import Derived.Below
import Derived.Laws.Small
import Derived.Test.YtijnganhpnmhaaaGreatGTm8
set_option linter.all false
set_option maxRecDepth 20000
namespace Go.Proofs.YtijnganhpnmhaaaGreat
open Go.RowKit
set_option maxHeartbeats 16000000 in
theorem iIsTR_spec (s : Stg) (l : List Dl) (run : List Tf) (hB : StgB s) (hl : DlB l) (hn : run.length ≤ 100000) (hr : ∀ x, x ∈ run → -1000000 ≤ x.tm ∧ x.tm ≤ 1000000 ∧ -1000000 ≤ x.t ∧ x.t ≤ 1000000) : ASpec Tryz.prog 8 [stgA s, .d (vDls l), .d (vTfs run)] [] (Pure1 (.tup [aT (trR s l run).1, aT (trR s l run).2])) := by
 have hV := iVDel_spec s l hB hl
 have hR : trR s l run = if (validD s l && !decide ((run.length : Int) > 60)) = true then (checkQ s.net l run (newK s), true) else (false, false) := rfl
 have hval := Dok.of (s := s) (l := l)
 obtain ⟨b0, hb0⟩ : ∃ b, b = validD s l := ⟨_, rfl⟩
 rw [← hb0] at hV hR hval
 obtain ⟨Z, hZ⟩ : ∃ Z, Z = checkQ s.net l run (newK s) := ⟨_, rfl⟩
 rw [← hZ] at hR
 obtain ⟨R, hRR⟩ : ∃ R, R = trR s l run := ⟨_, rfl⟩
 rw [← hRR] at hR ⊢
 clear hb0 hRR
 refine ASpec.of Tryz.func8 rfl rfl fun C hC => ?_
 refine AC.seq ?_
 refine AC.region ?_
 refine AL.q (by exact h_boxF rfl rfl) rfl ?_
 refine AL.p (by exact as1 rfl) rfl ?_
 refine AL.p (by exact as1 rfl) rfl ?_
 refine AL.nil ?_
 refine th_n ?_
 refine AC.seq ?_
 refine AC.seq ?_
 refine AC.region ?_
 refine AL.p (by exact g_load_refN rfl rfl rfl rfl) rfl ?_
 refine AL.p (by exact mv1 rfl) rfl ?_
 refine AL.q (by exact h_pure en_iVDel rfl rfl (by repeat (first | exact rfl | exact DLead.same | refine ⟨_, _, rfl, ?_, ?_⟩ | refine ⟨_, rfl, ?_⟩)) hV rfl) rfl ?_
 refine AL.p (by exact g_not rfl) rfl ?_
 refine AL.p (by exact mv1 rfl) rfl ?_
 refine AL.caseGB rfl rfl (fun h0 => ?_) (fun h0 => ?_)
 ·refine AL.not rfl rfl rfl rfl rfl ?_
  refine AL.not rfl rfl rfl rfl rfl ?_
  refine AL.not rfl rfl rfl rfl rfl ?_
  refine AL.p (by exact g_pickT (r := .d _) rfl rfl) rfl ?_
  refine AL.nil ?_
  refine th_n ?_
  refine AC.condT rfl ?_
  refine AC.seq ?_
  refine AC.region ?_
  refine AL.p (by exact as1 rfl) rfl ?_
  refine AL.p (by exact as1 rfl) rfl ?_
  refine AL.nil ?_
  refine th_n ?_
  refine AC.ret ?_
  refine th_r ?_
  refine bq_r ?_
  have e : R = (false, false) := by rw [hR]; refine if_neg ?_; simp only [Bool.and_eq_true, Bool.not_eq_true', decide_eq_false_iff_not]; simp_all
  exact ret2 rfl (by rw [e]) (by rw [e])
 ·refine AL.yes rfl rfl rfl ?_
  refine AL.p (by exact mv1 rfl) rfl ?_
  refine AL.yes rfl rfl rfl ?_
  refine AL.p (by exact g_len_view (k := run.length) rfl rfl (tfL_len _)) rfl ?_
  refine AL.yes rfl rfl rfl ?_
  refine AL.p (by exact g_cmp rfl rfl rfl) rfl ?_
  refine AL.p (by exact g_pickF (r := .d _) rfl rfl) rfl ?_
  refine AL.nil ?_
  refine th_n ?_
  refine AC.condD rfl (fun h1 => ?_) (fun h1 => ?_)
  ·refine AC.seq ?_
   refine AC.region ?_
   refine AL.p (by exact as1 rfl) rfl ?_
   refine AL.p (by exact as1 rfl) rfl ?_
   refine AL.nil ?_
   refine th_n ?_
   refine AC.ret ?_
   refine th_r ?_
   refine bq_r ?_
   have e : R = (false, false) := by rw [hR]; refine if_neg ?_; simp only [Bool.and_eq_true, Bool.not_eq_true', decide_eq_false_iff_not]; simp_all
   exact ret2 rfl (by rw [e]) (by rw [e])
  ·refine AC.skip ?_
   refine th_n ?_
   refine AC.seq ?_
   have q1 : b0 = true := by simpa using h0
   have q2 : ¬ (run.length : Int) > 60 := by simpa using h1
   have hRe := hR.trans (if_pos (by rw [q1, decide_eq_false q2]; rfl))
   obtain ⟨hg, hd⟩ := hval q1
   have hgn := (goodS_bits hg).1
   have hK := newK_I hg
   have hN := newClock_spec s hB hg
   have htl : s.net.ts.length ≤ 24 := by have := goodS_few hg; have := (goodS_bits hg).2.2; omega
   have hdl := hd.e
   obtain ⟨K, hKK⟩ : ∃ K, K = newK s := ⟨_, rfl⟩
   rw [← hKK] at hK hN hZ
   clear hKK
   refine AC.region ?_
   refine AL.p (by exact g_load_refN rfl rfl rfl rfl) rfl ?_
   refine AL.q (by exact h_fun (cs := []) en_newClock rfl rfl (by repeat (first | exact rfl | exact DLead.same | refine ⟨_, _, rfl, ?_, ?_⟩ | refine ⟨_, rfl, ?_⟩)) (by repeat (exact True.intro)) hN rfl rfl rfl rfl) rfl ?_
   refine AL.p (by exact as3 rfl) rfl ?_
   refine AL.nil ?_
   refine th_n ?_
   refine AC.seq ?_
   refine AC.seq ?_
   refine AC.region ?_
   refine AL.p (by exact mv1 rfl) rfl ?_
   refine AL.p (by exact g_len_view (k := run.length) rfl rfl (tfL_len _)) rfl ?_
   refine AL.p (by exact mv1 rfl) rfl ?_
   refine AL.nil ?_
   refine th_n ?_
   refine AC.block ?_
   refine AC.loop (ι := Nat × Ck) (fun x => ⟨79, 900, [(1, .d (vDls l)), (8, .ptr 100 0), (24, .d (vTfs run)), (25, aI run.length), (26, aI x.1)], chL (ckChs s x.2 100 101)⟩) (fun x => x.1 ≤ run.length ∧ CkI s.net x.2 (100 * x.1) ∧ checkQ s.net l (run.drop x.1) x.2 = Z) (fun x => run.length - x.1) ((0, K)) ?_ (⟨Nat.zero_le _, hK, hZ.symm⟩) ?_
   ·exact Weak.ren _ [(100, _), (101, _)] hC rfl (by repeat (first | exact True.intro | refine And.intro ?_ ?_ | exact DLead.same | exact rfl | refine ⟨_, rfl, ?_⟩)) (by repeat (first | exact True.intro | refine And.intro ?_ ?_ | exact DLead.same | exact rfl | refine ⟨_, _, rfl, rfl, ?_⟩ | refine ⟨_, rfl, ?_⟩ | refine ⟨_, _, rfl, ?_, ?_⟩)) rfl rfl rfl
   ·rintro ⟨k, c⟩ ⟨hk, hI, hrun⟩
    dsimp only at hk hI hrun ⊢
    refine AC.seq ?_
    refine AC.region ?_
    refine AL.p (by exact g_cmp rfl rfl rfl) rfl ?_
    refine AL.nil ?_
    refine th_n ?_
    refine AC.seq ?_
    refine AC.condD rfl (fun h2 => ?_) (fun h2 => ?_)
    ·refine AC.skip ?_
     refine th_n ?_
     refine AC.seq ?_
     refine AC.block ?_
     refine AC.seq ?_
     have hk1 : k < run.length := by omega
     have hget := tfL_get hk1
     have hxb := hr _ (List.getElem_mem hk1)
     have hb := hI.B hd (by omega)
     have hcl := hI.len
     have hD := ckDeadline_spec s c l hb (by omega)
     have hcase := dlN_ls hI hd c.since.length (by omega)
     have hW1 := within_spec run[k].t 0 ((s.net.ts.length : Int) - 1)
     have hlin := lsN_in hb c.since.length (Nat.le_refl _)
     have hdrop : run.drop k = run[k] :: run.drop (k + 1) := List.drop_eq_getElem_cons hk1
     rw [hdrop, checkQ] at hrun
     have hCI := chkB_I (x := run[k]) hI hd (by omega)
     obtain ⟨x, hx⟩ : ∃ x, x = run[k] := ⟨_, rfl⟩
     rw [← hx] at hget hxb hW1 hrun hCI
     have hch : chkB s.net c l x = ((decide (0 ≤ x.t) && decide (x.t ≤ (s.net.ts.length : Int) - 1)) && (decide (0 ≤ iAt c.since x.t.toNat) && ((decide (earI c l x.t.toNat ≤ x.tm) && decide (x.tm ≤ lsN c.since l c.since.length)) && (fireQ s.net c x.t.toNat x.tm).2))) := rfl
     have hTi : (decide (0 ≤ x.t) && decide (x.t ≤ (s.net.ts.length : Int) - 1)) = true → x.t = ((x.t.toNat : Nat) : Int) ∧ x.t.toNat < s.net.ts.length := fun q => by simp only [Bool.and_eq_true, decide_eq_true_eq] at q; omega
     obtain ⟨b1, hb1⟩ : ∃ b, b = (decide (0 ≤ x.t) && decide (x.t ≤ (s.net.ts.length : Int) - 1)) := ⟨_, rfl⟩
     rw [← hb1] at hW1 hch hTi
     have hrw : b1 = true → (ints c.since)[x.t.toNat]? = some [dI (iAt c.since x.t.toNat)] := fun q => ints_iAt (by have := hTi q; omega)
     have hEa : b1 = true → ASpec Tryz.prog 27 [.ptr 0 0, aI x.t, .d (vDls l)] (ckChs s c 0 1) (Fun1 (aI (earI c l x.t.toNat)) (ckChs s c 0 1)) := fun q => by have := ckEarliest_spec s c l x.t.toNat hb (by have := (hTi q).2; omega); rwa [← (hTi q).1] at this
     have hls : b1 = true → ¬ iAt c.since x.t.toNat < 0 → (dlN c.since l c.since.length).1 = lsN c.since l c.since.length := fun q q' => by rcases hcase with h | h; exact h.2.1.symm; exact absurd (h.2.2 _ (by have := (hTi q).2; omega)) q'
     have hW2 := within_spec x.tm (earI c l x.t.toNat) (dlN c.since l c.since.length).1
     have hFi := ckFire_spec s c x.t x.tm hB hg hI.m hI.len
     have hFe : b1 = true → 0 ≤ iAt c.since x.t.toNat → fireP s.net c x.t x.tm = fireQ s.net c x.t.toNat x.tm := fun q q' => by have := fireP_Q (hTi q).2 ((hI.en _ (hTi q).2).1 q') x.tm; rwa [← (hTi q).1] at this
     obtain ⟨F, hF⟩ : ∃ F, F = fireQ s.net c x.t.toNat x.tm := ⟨_, rfl⟩
     rw [← hF] at hch hrun hCI hFe
     obtain ⟨G, hG⟩ : ∃ G, G = fireP s.net c x.t x.tm := ⟨_, rfl⟩
     rw [← hG] at hFi hFe
     obtain ⟨last, hlast⟩ : ∃ last, last = lsN c.since l c.since.length := ⟨_, rfl⟩
     rw [← hlast] at hch hlin hls
     obtain ⟨D, hDD⟩ : ∃ D, D = dlN c.since l c.since.length := ⟨_, rfl⟩
     rw [← hDD] at hD hls hW2
     obtain ⟨ea, hea⟩ : ∃ ea, ea = earI c l x.t.toNat := ⟨_, rfl⟩
     rw [← hea] at hch hEa hW2
     obtain ⟨b2, hb2⟩ : ∃ b, b = (decide (ea ≤ x.tm) && decide (x.tm ≤ D.1)) := ⟨_, rfl⟩
     rw [← hb2] at hW2
     clear hx hb1 hF hG hlast hDD hea hcase
     refine AC.region ?_
     refine AL.p (by exact g_ia_view rfl rfl rfl rfl rfl (by rfl) (by assumption)) rfl ?_
     refine AL.p (by exact g_load_refN rfl rfl rfl rfl) rfl ?_
     refine AL.q (by exact h_alloc rfl) rfl ?_
     refine AL.q (by exact h_store rfl rfl rfl rfl rfl rfl) rfl ?_
     refine AL.nil ?_
     refine th_n ?_
     refine AC.seq ?_
     refine AC.region ?_
     refine AL.p (by exact mv3 rfl) rfl ?_
     refine AL.p (by exact mv1 rfl) rfl ?_
     refine AL.q (by exact h_fun (cs := [100, 101]) en_ckDeadline rfl rfl (by repeat (first | exact rfl | exact DLead.same | refine ⟨_, _, rfl, ?_, ?_⟩ | refine ⟨_, rfl, ?_⟩)) (by repeat (first | exact True.intro | refine And.intro ?_ ?_ | exact DLead.same | exact rfl | refine ⟨_, _, rfl, rfl, ?_⟩ | refine ⟨_, rfl, ?_⟩ | refine ⟨_, _, rfl, ?_, ?_⟩)) hD rfl rfl rfl rfl) rfl ?_
     refine AL.p (by exact mv5 rfl) rfl ?_
     refine AL.p (by exact g_extract (r := .d _) rfl rfl) rfl ?_
     refine AL.p (by exact g_extract (r := .d _) rfl rfl) rfl ?_
     refine AL.p (by exact as1 rfl) rfl ?_
     refine AL.p (by exact as1 rfl) rfl ?_
     refine AL.nil ?_
     refine th_n ?_
     refine AC.seq ?_
     refine AC.drawn' mixed_ok [[], [0], [], [2], [2,3], [2,3,4], [2,3,4,5], [2,3,4,5,6], [0,1,2,3,4,5,6,7], [0,1,2,3,4,5,6,7,8], [0,1,2,3,4,5,6,7,8,9], [0,1,2,3,4,5,6,7,8,9,10], [0,1,2,3,4,5,6,7,8,9,10,11], [0,1,2,3,4,5,6,7,8,9,10,11,12], [0,1,2,3,4,5,6,7,8,9,10,11,12,13], [0,1,2,3,4,5,6,7,8,9,10], [0,1,2,3,4,5,6,7,8,9,10,15], [0,1,2,3,4,5,6,7,8,9,10,11,12,13,14,15,16], [0,1,2,3,4,5,6,7,8,9,10,11,12,13,14,15,16,17], [0,1,2,3,4,5,6,7,8,9,10,11,12,13,14,15,16,17,18], [0,1,2,3,4,5,6,7,8,9,10,11,12,13,14,15,16,17,18,19], [0,1,2,3,4,5,6,7,8,9,10,11,12,13,14,15,16,17,18,19,20], [0,1,2,3,4,5,6,7,8,9,10,11,12,13,14,15,16,17,18,19,20,21], [0,1,2,3,4,5,6,7,8,9,10,11,12,13,14,15,16,17,18,19,20,21,22], [0,1,2,3,4,5,6,7,8,9,10,11,12,13,14,15,16,17,18,19,20,21], [0,1,2,3,4,5,6,7,8,9,10,11,12,13,14,15,16,17,18,19,20,21], [0,1,2,3,4,5,6,7,8,9,10,11,12,13,14,15,16,17,18,19,20,21,25], [0,1,2,3,4,5,6,7,8,9,10,11,12,13,14,15,16,17,18,19,20,21], [0,1,2,3,4,5,6,7,8,9,10,11,12,13,14,15,16,17,18,19,20,21,24,25,26,27], [0,1,2,3,4,5,6,7,8,9,10,11,12,13,14,15,16,17,18,19,20,21], [0,1,2,3,4,5,6,7,8,9,10,11,12,13,14,15,16,17,18,19,20,21,22,23,24,25,26,27,28,29], [0,1,2,3,4,5,6,7,8,9,10,11,12,13,14,15,16,17,18,19,20,21,22,23,24,25,26,27,28,29,30], [0,1,2,3,4,5,6,7,8,9,10,11,12,13,14,15,16,17,18,19,20,21,22,23,24,25,26,27,28,29,30,31], [0,1,2,3,4,5,6,7,8,9,10,11,12,13,14,15,16,17,18,19,20,21,22,23,24,25,26,27,28,29,30,31,32], [0,1,2,3,4,5,6,7,8,9,10,11,12,13,14,15,16,17,18,19,20,21,22,23,24,25,26,27,28,29,30,31,32,33], [0,1,2,3,4,5,6,7,8,9,10,11,12,13,14,15,16,17,18,19,20,21,22,23,24,25,26,27,28,29,30,31,32,33], [0,1,2,3,4,5,6,7,8,9,10,11,12,13,14,15,16,17,18,19,20,21,22,23,24,25,26,27,28,29,30,31,32,33,35], [0,1,2,3,4,5,6,7,8,9,10,11,12,13,14,15,16,17,18,19,20,21,22,23,24,25,26,27,28,29,30,31,32,33], [0,1,2,3,4,5,6,7,8,9,10,11,12,13,14,15,16,17,18,19,20,21,22,23,24,25,26,27,28,29,30,31,32,33,37], [0,1,2,3,4,5,6,7,8,9,10,11,12,13,14,15,16,17,18,19,20,21,22,23,24,25,26,27,28,29,30,31,32,33,34,35,36,37,38], [0,1,2,3,4,5,6,7,8,9,10,11,12,13,14,15,16,17,18,19,20,21,22,23,24,25,26,27,28,29,30,31,32,33,34,35,36,37,38,39], [0,1,2,3,4,5,6,7,8,9,10,11,12,13,14,15,16,17,18,19,20,21,22,23,24,25,26,27,28,29,30,31,32,33,34,35,36,37,38,39,40]] (by decide) ?_
     refine DF.op 0 [] 42 rfl rfl rfl (.free rfl (NOp.of (by exact g_fa_ptr rfl rfl rfl rfl rfl))) rfl ?_
     refine DF.op 1 [0] 42 rfl rfl rfl (.free rfl (NOp.of (by exact g_load_ptr rfl rfl rfl rfl rfl))) rfl ?_
     refine DF.op 2 [] 42 rfl rfl rfl (.free rfl (NOp.of (by exact mv3 rfl))) rfl ?_
     refine DF.op 3 [2] 42 rfl rfl rfl (.free rfl (NOp.of (by exact g_nilP rfl))) rfl ?_
     refine DF.op 4 [2,3] 42 rfl rfl rfl (.free rfl (NOp.of (by exact g_fa_ptr rfl rfl rfl rfl rfl))) rfl ?_
     refine DF.op 5 [2,3,4] 42 rfl rfl rfl (.free rfl (NOp.of (by exact g_load_ptr rfl rfl rfl rfl rfl))) rfl ?_
     refine DF.op 6 [2,3,4,5] 42 rfl rfl rfl (.free rfl (NOp.of (by exact g_len_own (sz := 1) (els := []) (e' := 0) rfl rfl (by simp only [maxLen]; omega)))) rfl ?_
     refine DF.op 7 [2,3,4,5,6] 42 rfl rfl rfl (.free rfl (NOp.of (by exact g_arith rfl rfl rfl (by exact wrap_i64 (by omega))))) rfl ?_
     refine DF.op 8 [0,1,2,3,4,5,6,7] 42 rfl rfl rfl (.free rfl (by exact h_pure en_within rfl rfl (by rw [hcl]; repeat (first | exact rfl | exact DLead.same | refine ⟨_, _, rfl, ?_, ?_⟩)) hW1 rfl)) rfl ?_
     refine DF.op 9 [0,1,2,3,4,5,6,7,8] 42 rfl rfl rfl (.free rfl (NOp.of (by exact g_not rfl))) rfl ?_
     refine DF.op 10 [0,1,2,3,4,5,6,7,8,9] 42 rfl rfl rfl (.free rfl (NOp.of (by exact mv1 rfl))) rfl ?_
     refine DF.caseB 10 rfl (fun h3 => ?_) (fun h3 => ?_)
     ·refine DF.op (ids := []) 11 [0,1,2,3,4,5,6,7,8,9,10] 42 rfl rfl rfl (.no rfl rfl rfl rfl rfl rfl) rfl ?_
      refine DF.op (ids := []) 12 [0,1,2,3,4,5,6,7,8,9,10,11] 42 rfl rfl rfl (.no rfl rfl rfl rfl rfl rfl) rfl ?_
      refine DF.op (ids := []) 13 [0,1,2,3,4,5,6,7,8,9,10,11,12] 42 rfl rfl rfl (.no rfl rfl rfl rfl rfl rfl) rfl ?_
      refine DF.op (ids := []) 14 [0,1,2,3,4,5,6,7,8,9,10,11,12,13] 42 rfl rfl rfl (.no rfl rfl rfl rfl rfl rfl) rfl ?_
      refine DF.op (ids := []) 15 [0,1,2,3,4,5,6,7,8,9,10] 42 rfl rfl rfl (.no rfl rfl rfl rfl rfl rfl) rfl ?_
      refine DF.op (ids := []) 16 [0,1,2,3,4,5,6,7,8,9,10,15] 42 rfl rfl rfl (.no rfl rfl rfl rfl rfl rfl) rfl ?_
      refine DF.op (ids := []) 17 [0,1,2,3,4,5,6,7,8,9,10,11,12,13,14,15,16] 42 rfl rfl rfl (.no rfl rfl rfl rfl rfl rfl) rfl ?_
      refine DF.op (ids := []) 18 [0,1,2,3,4,5,6,7,8,9,10,11,12,13,14,15,16,17] 42 rfl rfl rfl (.no rfl rfl rfl rfl rfl rfl) rfl ?_
      refine DF.op (ids := []) 19 [0,1,2,3,4,5,6,7,8,9,10,11,12,13,14,15,16,17,18] 42 rfl rfl rfl (.no rfl rfl rfl rfl rfl rfl) rfl ?_
      refine DF.op 20 [0,1,2,3,4,5,6,7,8,9,10,11,12,13,14,15,16,17,18,19] 42 rfl rfl rfl (.free rfl (NOp.of (by exact g_pickT (r := .d _) rfl rfl))) rfl ?_
      refine DF.op 21 [0,1,2,3,4,5,6,7,8,9,10,11,12,13,14,15,16,17,18,19,20] 42 rfl rfl rfl (.free rfl (NOp.of (by exact mv1 rfl))) rfl ?_
      refine DF.op (ids := []) 22 [0,1,2,3,4,5,6,7,8,9,10,11,12,13,14,15,16,17,18,19,20,21] 42 rfl rfl rfl (.no rfl rfl rfl rfl rfl rfl) rfl ?_
      refine DF.op (ids := []) 23 [0,1,2,3,4,5,6,7,8,9,10,11,12,13,14,15,16,17,18,19,20,21,22] 42 rfl rfl rfl (.no rfl rfl rfl rfl rfl rfl) rfl ?_
      refine DF.op (ids := []) 24 [0,1,2,3,4,5,6,7,8,9,10,11,12,13,14,15,16,17,18,19,20,21] 42 rfl rfl rfl (.no rfl rfl rfl rfl rfl rfl) rfl ?_
      refine DF.op (ids := []) 25 [0,1,2,3,4,5,6,7,8,9,10,11,12,13,14,15,16,17,18,19,20,21] 42 rfl rfl rfl (.no rfl rfl rfl rfl rfl rfl) rfl ?_
      refine DF.op (ids := []) 26 [0,1,2,3,4,5,6,7,8,9,10,11,12,13,14,15,16,17,18,19,20,21,25] 42 rfl rfl rfl (.no rfl rfl rfl rfl rfl rfl) rfl ?_
      refine DF.op (ids := []) 27 [0,1,2,3,4,5,6,7,8,9,10,11,12,13,14,15,16,17,18,19,20,21] 42 rfl rfl rfl (.no rfl rfl rfl rfl rfl rfl) rfl ?_
      refine DF.op (ids := []) 28 [0,1,2,3,4,5,6,7,8,9,10,11,12,13,14,15,16,17,18,19,20,21,24,25,26,27] 42 rfl rfl rfl (.no rfl rfl rfl rfl rfl rfl) rfl ?_
      refine DF.op (ids := []) 29 [0,1,2,3,4,5,6,7,8,9,10,11,12,13,14,15,16,17,18,19,20,21] 42 rfl rfl rfl (.no rfl rfl rfl rfl rfl rfl) rfl ?_
      refine DF.op (ids := []) 30 [0,1,2,3,4,5,6,7,8,9,10,11,12,13,14,15,16,17,18,19,20,21,22,23,24,25,26,27,28,29] 42 rfl rfl rfl (.no rfl rfl rfl rfl rfl rfl) rfl ?_
      refine DF.op (ids := []) 31 [0,1,2,3,4,5,6,7,8,9,10,11,12,13,14,15,16,17,18,19,20,21,22,23,24,25,26,27,28,29,30] 42 rfl rfl rfl (.no rfl rfl rfl rfl rfl rfl) rfl ?_
      refine DF.op 32 [0,1,2,3,4,5,6,7,8,9,10,11,12,13,14,15,16,17,18,19,20,21,22,23,24,25,26,27,28,29,30,31] 42 rfl rfl rfl (.free rfl (NOp.of (by exact g_pickT (r := .d _) rfl rfl))) rfl ?_
      refine DF.op 33 [0,1,2,3,4,5,6,7,8,9,10,11,12,13,14,15,16,17,18,19,20,21,22,23,24,25,26,27,28,29,30,31,32] 42 rfl rfl rfl (.free rfl (NOp.of (by exact mv1 rfl))) rfl ?_
      refine DF.op (ids := []) 34 [0,1,2,3,4,5,6,7,8,9,10,11,12,13,14,15,16,17,18,19,20,21,22,23,24,25,26,27,28,29,30,31,32,33] 42 rfl rfl rfl (.no rfl rfl rfl rfl rfl rfl) rfl ?_
      refine DF.op (ids := []) 35 [0,1,2,3,4,5,6,7,8,9,10,11,12,13,14,15,16,17,18,19,20,21,22,23,24,25,26,27,28,29,30,31,32,33] 42 rfl rfl rfl (.no rfl rfl rfl rfl rfl rfl) rfl ?_
      refine DF.op (ids := []) 36 [0,1,2,3,4,5,6,7,8,9,10,11,12,13,14,15,16,17,18,19,20,21,22,23,24,25,26,27,28,29,30,31,32,33,35] 42 rfl rfl rfl (.no rfl rfl rfl rfl rfl rfl) rfl ?_
      refine DF.op (ids := []) 37 [0,1,2,3,4,5,6,7,8,9,10,11,12,13,14,15,16,17,18,19,20,21,22,23,24,25,26,27,28,29,30,31,32,33] 42 rfl rfl rfl (.no rfl rfl rfl rfl rfl rfl) rfl ?_
      refine DF.op (ids := []) 38 [0,1,2,3,4,5,6,7,8,9,10,11,12,13,14,15,16,17,18,19,20,21,22,23,24,25,26,27,28,29,30,31,32,33,37] 42 rfl rfl rfl (.no rfl rfl rfl rfl rfl rfl) rfl ?_
      refine DF.op (ids := []) 39 [0,1,2,3,4,5,6,7,8,9,10,11,12,13,14,15,16,17,18,19,20,21,22,23,24,25,26,27,28,29,30,31,32,33,34,35,36,37,38] 42 rfl rfl rfl (.no rfl rfl rfl rfl rfl rfl) rfl ?_
      refine DF.op (ids := []) 40 [0,1,2,3,4,5,6,7,8,9,10,11,12,13,14,15,16,17,18,19,20,21,22,23,24,25,26,27,28,29,30,31,32,33,34,35,36,37,38,39] 42 rfl rfl rfl (.no rfl rfl rfl rfl rfl rfl) rfl ?_
      refine DF.op 41 [0,1,2,3,4,5,6,7,8,9,10,11,12,13,14,15,16,17,18,19,20,21,22,23,24,25,26,27,28,29,30,31,32,33,34,35,36,37,38,39,40] 42 rfl rfl rfl (.free rfl (NOp.of (by exact g_pickT (r := .d _) rfl rfl))) rfl ?_
      refine DF.fin (ps := [(0,2),(0,3),(0,4),(0,5),(0,6),(0,7),(1,2),(1,3),(1,4),(1,5),(1,6),(1,7),(2,0),(2,1),(3,0),(3,1),(4,0),(4,1),(5,0),(5,1),(6,0),(6,1),(7,0),(7,1),(11,15),(11,16),(12,15),(12,16),(13,15),(13,16),(14,15),(14,16),(15,11),(15,12),(15,13),(15,14),(16,11),(16,12),(16,13),(16,14),(22,24),(22,25),(22,26),(22,27),(22,28),(22,29),(23,24),(23,25),(23,26),(23,27),(23,28),(23,29),(24,22),(24,23),(24,25),(24,26),(24,27),(24,29),(25,22),(25,23),(25,24),(25,27),(25,29),(26,22),(26,23),(26,24),(26,27),(26,29),(27,22),(27,23),(27,24),(27,25),(27,26),(27,29),(28,22),(28,23),(28,29),(29,22),(29,23),(29,24),(29,25),(29,26),(29,27),(29,28),(34,35),(34,36),(34,37),(34,38),(35,34),(35,37),(35,38),(36,34),(36,37),(36,38),(37,34),(37,35),(37,36),(38,34),(38,35),(38,36)]) 42 rfl (by decide +kernel) (by decide +kernel) (by rfl) ?_
      refine th_n ?_
      refine AC.condT rfl ?_
      refine AC.seq ?_
      refine AC.region ?_
      refine AL.p (by exact as1 rfl) rfl ?_
      refine AL.p (by exact as1 rfl) rfl ?_
      refine AL.nil ?_
      refine th_n ?_
      refine AC.ret ?_
      refine ib_r ?_
      refine th_r ?_
      refine th_r ?_
      refine ib_r ?_
      refine th_r ?_
      refine bq_r ?_
      have e : chkB s.net c l x = false := by (rw [hch, show b1 = false by simpa using h3]; rfl)
      rw [e] at hrun
      exact ret2 rfl (by rw [hRe, ← hrun] <;> rfl) (by rw [hRe])
     ·refine DF.op 11 [0,1,2,3,4,5,6,7,8,9,10] 42 rfl rfl rfl (.yes rfl rfl rfl rfl (NOp.of (by exact mv3 rfl))) rfl ?_
      refine DF.op 12 [0,1,2,3,4,5,6,7,8,9,10,11] 42 rfl rfl rfl (.yes rfl rfl rfl rfl (NOp.of (by exact g_nilP rfl))) rfl ?_
      refine DF.op 13 [0,1,2,3,4,5,6,7,8,9,10,11,12] 42 rfl rfl rfl (.yes rfl rfl rfl rfl (NOp.of (by exact g_fa_ptr rfl rfl rfl rfl rfl))) rfl ?_
      refine DF.op 14 [0,1,2,3,4,5,6,7,8,9,10,11,12,13] 42 rfl rfl rfl (.yes rfl rfl rfl rfl (NOp.of (by exact g_load_ptr rfl rfl rfl rfl rfl))) rfl ?_
      refine DF.op 15 [0,1,2,3,4,5,6,7,8,9,10] 42 rfl rfl rfl (.yes rfl rfl rfl rfl (NOp.of (by exact g_fa_ptr rfl rfl rfl rfl rfl))) rfl ?_
      refine DF.op 16 [0,1,2,3,4,5,6,7,8,9,10,15] 42 rfl rfl rfl (.yes rfl rfl rfl rfl (NOp.of (by exact g_load_ptr rfl rfl rfl rfl rfl))) rfl ?_
      refine DF.op 17 [0,1,2,3,4,5,6,7,8,9,10,11,12,13,14,15,16] 42 rfl rfl rfl (.yes rfl rfl rfl rfl (NOp.of (by exact g_ia_own (i := x.t.toNat) (l := c.since.length) rfl rfl rfl rfl rfl (hTi (by simpa using h3)).1 (by have := (hTi (by simpa using h3)).2; omega) (Nat.mul_one _)))) rfl ?_
      refine DF.op 18 [0,1,2,3,4,5,6,7,8,9,10,11,12,13,14,15,16,17] 42 rfl rfl rfl (.yes rfl rfl rfl rfl (NOp.of (by exact g_load_arr1 rfl rfl rfl rfl (hrw (by simpa using h3))))) rfl ?_
      refine DF.op 19 [0,1,2,3,4,5,6,7,8,9,10,11,12,13,14,15,16,17,18] 42 rfl rfl rfl (.yes rfl rfl rfl rfl (NOp.of (by exact g_cmp rfl rfl rfl))) rfl ?_
      refine DF.op 20 [0,1,2,3,4,5,6,7,8,9,10,11,12,13,14,15,16,17,18,19] 42 rfl rfl rfl (.free rfl (NOp.of (by exact g_pickF (r := .d _) rfl rfl))) rfl ?_
      refine DF.op 21 [0,1,2,3,4,5,6,7,8,9,10,11,12,13,14,15,16,17,18,19,20] 42 rfl rfl rfl (.free rfl (NOp.of (by exact mv1 rfl))) rfl ?_
      refine DF.caseD 21 rfl (fun h4 => ?_) (fun h4 => ?_)
      ·refine DF.op (ids := []) 22 [0,1,2,3,4,5,6,7,8,9,10,11,12,13,14,15,16,17,18,19,20,21] 42 rfl rfl rfl (.no rfl rfl rfl rfl rfl rfl) rfl ?_
       refine DF.op (ids := []) 23 [0,1,2,3,4,5,6,7,8,9,10,11,12,13,14,15,16,17,18,19,20,21,22] 42 rfl rfl rfl (.no rfl rfl rfl rfl rfl rfl) rfl ?_
       refine DF.op (ids := []) 24 [0,1,2,3,4,5,6,7,8,9,10,11,12,13,14,15,16,17,18,19,20,21] 42 rfl rfl rfl (.no rfl rfl rfl rfl rfl rfl) rfl ?_
       refine DF.op (ids := []) 25 [0,1,2,3,4,5,6,7,8,9,10,11,12,13,14,15,16,17,18,19,20,21] 42 rfl rfl rfl (.no rfl rfl rfl rfl rfl rfl) rfl ?_
       refine DF.op (ids := []) 26 [0,1,2,3,4,5,6,7,8,9,10,11,12,13,14,15,16,17,18,19,20,21,25] 42 rfl rfl rfl (.no rfl rfl rfl rfl rfl rfl) rfl ?_
       refine DF.op (ids := []) 27 [0,1,2,3,4,5,6,7,8,9,10,11,12,13,14,15,16,17,18,19,20,21] 42 rfl rfl rfl (.no rfl rfl rfl rfl rfl rfl) rfl ?_
       refine DF.op (ids := []) 28 [0,1,2,3,4,5,6,7,8,9,10,11,12,13,14,15,16,17,18,19,20,21,24,25,26,27] 42 rfl rfl rfl (.no rfl rfl rfl rfl rfl rfl) rfl ?_
       refine DF.op (ids := []) 29 [0,1,2,3,4,5,6,7,8,9,10,11,12,13,14,15,16,17,18,19,20,21] 42 rfl rfl rfl (.no rfl rfl rfl rfl rfl rfl) rfl ?_
       refine DF.op (ids := []) 30 [0,1,2,3,4,5,6,7,8,9,10,11,12,13,14,15,16,17,18,19,20,21,22,23,24,25,26,27,28,29] 42 rfl rfl rfl (.no rfl rfl rfl rfl rfl rfl) rfl ?_
       refine DF.op (ids := []) 31 [0,1,2,3,4,5,6,7,8,9,10,11,12,13,14,15,16,17,18,19,20,21,22,23,24,25,26,27,28,29,30] 42 rfl rfl rfl (.no rfl rfl rfl rfl rfl rfl) rfl ?_
       refine DF.op 32 [0,1,2,3,4,5,6,7,8,9,10,11,12,13,14,15,16,17,18,19,20,21,22,23,24,25,26,27,28,29,30,31] 42 rfl rfl rfl (.free rfl (NOp.of (by exact g_pickT (r := .d _) rfl rfl))) rfl ?_
       refine DF.op 33 [0,1,2,3,4,5,6,7,8,9,10,11,12,13,14,15,16,17,18,19,20,21,22,23,24,25,26,27,28,29,30,31,32] 42 rfl rfl rfl (.free rfl (NOp.of (by exact mv1 rfl))) rfl ?_
       refine DF.op (ids := []) 34 [0,1,2,3,4,5,6,7,8,9,10,11,12,13,14,15,16,17,18,19,20,21,22,23,24,25,26,27,28,29,30,31,32,33] 42 rfl rfl rfl (.no rfl rfl rfl rfl rfl rfl) rfl ?_
       refine DF.op (ids := []) 35 [0,1,2,3,4,5,6,7,8,9,10,11,12,13,14,15,16,17,18,19,20,21,22,23,24,25,26,27,28,29,30,31,32,33] 42 rfl rfl rfl (.no rfl rfl rfl rfl rfl rfl) rfl ?_
       refine DF.op (ids := []) 36 [0,1,2,3,4,5,6,7,8,9,10,11,12,13,14,15,16,17,18,19,20,21,22,23,24,25,26,27,28,29,30,31,32,33,35] 42 rfl rfl rfl (.no rfl rfl rfl rfl rfl rfl) rfl ?_
       refine DF.op (ids := []) 37 [0,1,2,3,4,5,6,7,8,9,10,11,12,13,14,15,16,17,18,19,20,21,22,23,24,25,26,27,28,29,30,31,32,33] 42 rfl rfl rfl (.no rfl rfl rfl rfl rfl rfl) rfl ?_
       refine DF.op (ids := []) 38 [0,1,2,3,4,5,6,7,8,9,10,11,12,13,14,15,16,17,18,19,20,21,22,23,24,25,26,27,28,29,30,31,32,33,37] 42 rfl rfl rfl (.no rfl rfl rfl rfl rfl rfl) rfl ?_
       refine DF.op (ids := []) 39 [0,1,2,3,4,5,6,7,8,9,10,11,12,13,14,15,16,17,18,19,20,21,22,23,24,25,26,27,28,29,30,31,32,33,34,35,36,37,38] 42 rfl rfl rfl (.no rfl rfl rfl rfl rfl rfl) rfl ?_
       refine DF.op (ids := []) 40 [0,1,2,3,4,5,6,7,8,9,10,11,12,13,14,15,16,17,18,19,20,21,22,23,24,25,26,27,28,29,30,31,32,33,34,35,36,37,38,39] 42 rfl rfl rfl (.no rfl rfl rfl rfl rfl rfl) rfl ?_
       refine DF.op 41 [0,1,2,3,4,5,6,7,8,9,10,11,12,13,14,15,16,17,18,19,20,21,22,23,24,25,26,27,28,29,30,31,32,33,34,35,36,37,38,39,40] 42 rfl rfl rfl (.free rfl (NOp.of (by exact g_pickT (r := .d _) rfl rfl))) rfl ?_
       refine DF.fin (ps := [(0,2),(0,3),(0,4),(0,5),(0,6),(0,7),(1,2),(1,3),(1,4),(1,5),(1,6),(1,7),(2,0),(2,1),(3,0),(3,1),(4,0),(4,1),(5,0),(5,1),(6,0),(6,1),(7,0),(7,1),(11,15),(11,16),(12,15),(12,16),(13,15),(13,16),(14,15),(14,16),(15,11),(15,12),(15,13),(15,14),(16,11),(16,12),(16,13),(16,14),(22,24),(22,25),(22,26),(22,27),(22,28),(22,29),(23,24),(23,25),(23,26),(23,27),(23,28),(23,29),(24,22),(24,23),(24,25),(24,26),(24,27),(24,29),(25,22),(25,23),(25,24),(25,27),(25,29),(26,22),(26,23),(26,24),(26,27),(26,29),(27,22),(27,23),(27,24),(27,25),(27,26),(27,29),(28,22),(28,23),(28,29),(29,22),(29,23),(29,24),(29,25),(29,26),(29,27),(29,28),(34,35),(34,36),(34,37),(34,38),(35,34),(35,37),(35,38),(36,34),(36,37),(36,38),(37,34),(37,35),(37,36),(38,34),(38,35),(38,36)]) 42 rfl (by decide +kernel) (by decide +kernel) (by rfl) ?_
       refine th_n ?_
       refine AC.condT rfl ?_
       refine AC.seq ?_
       refine AC.region ?_
       refine AL.p (by exact as1 rfl) rfl ?_
       refine AL.p (by exact as1 rfl) rfl ?_
       refine AL.nil ?_
       refine th_n ?_
       refine AC.ret ?_
       refine ib_r ?_
       refine th_r ?_
       refine th_r ?_
       refine ib_r ?_
       refine th_r ?_
       refine bq_r ?_
       have e : chkB s.net c l x = false := by (rw [hch, decide_eq_false (show ¬ 0 ≤ iAt c.since x.t.toNat by omega)]; simp)
       rw [e] at hrun
       exact ret2 rfl (by rw [hRe, ← hrun] <;> rfl) (by rw [hRe])
      ·refine DF.op 22 [0,1,2,3,4,5,6,7,8,9,10,11,12,13,14,15,16,17,18,19,20,21] 42 rfl rfl rfl (.yes rfl rfl rfl rfl (NOp.of (by exact g_fa_ptr rfl rfl rfl rfl rfl))) rfl ?_
       refine DF.op 23 [0,1,2,3,4,5,6,7,8,9,10,11,12,13,14,15,16,17,18,19,20,21,22] 42 rfl rfl rfl (.yes rfl rfl rfl rfl (NOp.of (by exact g_load_ptr rfl rfl rfl rfl rfl))) rfl ?_
       refine DF.op 24 [0,1,2,3,4,5,6,7,8,9,10,11,12,13,14,15,16,17,18,19,20,21] 42 rfl rfl rfl (.yes rfl rfl rfl rfl (NOp.of (by exact mv3 rfl))) rfl ?_
       refine DF.op 25 [0,1,2,3,4,5,6,7,8,9,10,11,12,13,14,15,16,17,18,19,20,21] 42 rfl rfl rfl (.yes rfl rfl rfl rfl (NOp.of (by exact g_fa_ptr rfl rfl rfl rfl rfl))) rfl ?_
       refine DF.op 26 [0,1,2,3,4,5,6,7,8,9,10,11,12,13,14,15,16,17,18,19,20,21,25] 42 rfl rfl rfl (.yes rfl rfl rfl rfl (NOp.of (by exact g_load_ptr rfl rfl rfl rfl rfl))) rfl ?_
       refine DF.op 27 [0,1,2,3,4,5,6,7,8,9,10,11,12,13,14,15,16,17,18,19,20,21] 42 rfl rfl rfl (.yes rfl rfl rfl rfl (NOp.of (by exact mv1 rfl))) rfl ?_
       refine DF.op 28 [0,1,2,3,4,5,6,7,8,9,10,11,12,13,14,15,16,17,18,19,20,21,24,25,26,27] 42 rfl rfl rfl (.yes rfl rfl rfl rfl (by exact h_fun (cs := [100, 101]) en_ckEarliest rfl rfl (by repeat (first | exact rfl | exact DLead.same | refine ⟨_, _, rfl, ?_, ?_⟩ | refine ⟨_, rfl, ?_⟩)) (by repeat (first | exact True.intro | refine And.intro ?_ ?_ | exact DLead.same | exact rfl | refine ⟨_, _, rfl, rfl, ?_⟩ | refine ⟨_, rfl, ?_⟩ | refine ⟨_, _, rfl, ?_, ?_⟩)) (hEa (by simpa using h3)) rfl rfl rfl rfl)) rfl ?_
       refine DF.op 29 [0,1,2,3,4,5,6,7,8,9,10,11,12,13,14,15,16,17,18,19,20,21] 42 rfl rfl rfl (.yes rfl rfl rfl rfl (NOp.of (by exact mv1 rfl))) rfl ?_
       refine DF.op 30 [0,1,2,3,4,5,6,7,8,9,10,11,12,13,14,15,16,17,18,19,20,21,22,23,24,25,26,27,28,29] 42 rfl rfl rfl (.yes rfl rfl rfl rfl (by exact h_pure en_within rfl rfl (by repeat (first | exact rfl | exact DLead.same | refine ⟨_, _, rfl, ?_, ?_⟩)) hW2 rfl)) rfl ?_
       refine DF.op 31 [0,1,2,3,4,5,6,7,8,9,10,11,12,13,14,15,16,17,18,19,20,21,22,23,24,25,26,27,28,29,30] 42 rfl rfl rfl (.yes rfl rfl rfl rfl (NOp.of (by exact g_not rfl))) rfl ?_
       refine DF.op 32 [0,1,2,3,4,5,6,7,8,9,10,11,12,13,14,15,16,17,18,19,20,21,22,23,24,25,26,27,28,29,30,31] 42 rfl rfl rfl (.free rfl (NOp.of (by exact g_pickF (r := .d _) rfl rfl))) rfl ?_
       refine DF.op 33 [0,1,2,3,4,5,6,7,8,9,10,11,12,13,14,15,16,17,18,19,20,21,22,23,24,25,26,27,28,29,30,31,32] 42 rfl rfl rfl (.free rfl (NOp.of (by exact mv1 rfl))) rfl ?_
       refine DF.caseB 33 rfl (fun h5 => ?_) (fun h5 => ?_)
       ·refine DF.op (ids := []) 34 [0,1,2,3,4,5,6,7,8,9,10,11,12,13,14,15,16,17,18,19,20,21,22,23,24,25,26,27,28,29,30,31,32,33] 42 rfl rfl rfl (.no rfl rfl rfl rfl rfl rfl) rfl ?_
        refine DF.op (ids := []) 35 [0,1,2,3,4,5,6,7,8,9,10,11,12,13,14,15,16,17,18,19,20,21,22,23,24,25,26,27,28,29,30,31,32,33] 42 rfl rfl rfl (.no rfl rfl rfl rfl rfl rfl) rfl ?_
        refine DF.op (ids := []) 36 [0,1,2,3,4,5,6,7,8,9,10,11,12,13,14,15,16,17,18,19,20,21,22,23,24,25,26,27,28,29,30,31,32,33,35] 42 rfl rfl rfl (.no rfl rfl rfl rfl rfl rfl) rfl ?_
        refine DF.op (ids := []) 37 [0,1,2,3,4,5,6,7,8,9,10,11,12,13,14,15,16,17,18,19,20,21,22,23,24,25,26,27,28,29,30,31,32,33] 42 rfl rfl rfl (.no rfl rfl rfl rfl rfl rfl) rfl ?_
        refine DF.op (ids := []) 38 [0,1,2,3,4,5,6,7,8,9,10,11,12,13,14,15,16,17,18,19,20,21,22,23,24,25,26,27,28,29,30,31,32,33,37] 42 rfl rfl rfl (.no rfl rfl rfl rfl rfl rfl) rfl ?_
        refine DF.op (ids := []) 39 [0,1,2,3,4,5,6,7,8,9,10,11,12,13,14,15,16,17,18,19,20,21,22,23,24,25,26,27,28,29,30,31,32,33,34,35,36,37,38] 42 rfl rfl rfl (.no rfl rfl rfl rfl rfl rfl) rfl ?_
        refine DF.op (ids := []) 40 [0,1,2,3,4,5,6,7,8,9,10,11,12,13,14,15,16,17,18,19,20,21,22,23,24,25,26,27,28,29,30,31,32,33,34,35,36,37,38,39] 42 rfl rfl rfl (.no rfl rfl rfl rfl rfl rfl) rfl ?_
        refine DF.op 41 [0,1,2,3,4,5,6,7,8,9,10,11,12,13,14,15,16,17,18,19,20,21,22,23,24,25,26,27,28,29,30,31,32,33,34,35,36,37,38,39,40] 42 rfl rfl rfl (.free rfl (NOp.of (by exact g_pickT (r := .d _) rfl rfl))) rfl ?_
        refine DF.fin (ps := [(0,2),(0,3),(0,4),(0,5),(0,6),(0,7),(1,2),(1,3),(1,4),(1,5),(1,6),(1,7),(2,0),(2,1),(3,0),(3,1),(4,0),(4,1),(5,0),(5,1),(6,0),(6,1),(7,0),(7,1),(11,15),(11,16),(12,15),(12,16),(13,15),(13,16),(14,15),(14,16),(15,11),(15,12),(15,13),(15,14),(16,11),(16,12),(16,13),(16,14),(22,24),(22,25),(22,26),(22,27),(22,28),(22,29),(23,24),(23,25),(23,26),(23,27),(23,28),(23,29),(24,22),(24,23),(24,25),(24,26),(24,27),(24,29),(25,22),(25,23),(25,24),(25,27),(25,29),(26,22),(26,23),(26,24),(26,27),(26,29),(27,22),(27,23),(27,24),(27,25),(27,26),(27,29),(28,22),(28,23),(28,29),(29,22),(29,23),(29,24),(29,25),(29,26),(29,27),(29,28),(34,35),(34,36),(34,37),(34,38),(35,34),(35,37),(35,38),(36,34),(36,37),(36,38),(37,34),(37,35),(37,36),(38,34),(38,35),(38,36)]) 42 rfl (by decide +kernel) (by decide +kernel) (by rfl) ?_
        refine th_n ?_
        refine AC.condT rfl ?_
        refine AC.seq ?_
        refine AC.region ?_
        refine AL.p (by exact as1 rfl) rfl ?_
        refine AL.p (by exact as1 rfl) rfl ?_
        refine AL.nil ?_
        refine th_n ?_
        refine AC.ret ?_
        refine ib_r ?_
        refine th_r ?_
        refine th_r ?_
        refine ib_r ?_
        refine th_r ?_
        refine bq_r ?_
        have e : chkB s.net c l x = false := by (rw [hch, ← hls (by simpa using h3) h4, ← hb2, show b2 = false by simpa using h5]; simp)
        rw [e] at hrun
        exact ret2 rfl (by rw [hRe, ← hrun] <;> rfl) (by rw [hRe])
       ·refine DF.op 34 [0,1,2,3,4,5,6,7,8,9,10,11,12,13,14,15,16,17,18,19,20,21,22,23,24,25,26,27,28,29,30,31,32,33] 42 rfl rfl rfl (.yes rfl rfl rfl rfl (NOp.of (by exact mv3 rfl))) rfl ?_
        refine DF.op 35 [0,1,2,3,4,5,6,7,8,9,10,11,12,13,14,15,16,17,18,19,20,21,22,23,24,25,26,27,28,29,30,31,32,33] 42 rfl rfl rfl (.yes rfl rfl rfl rfl (NOp.of (by exact g_fa_ptr rfl rfl rfl rfl rfl))) rfl ?_
        refine DF.op 36 [0,1,2,3,4,5,6,7,8,9,10,11,12,13,14,15,16,17,18,19,20,21,22,23,24,25,26,27,28,29,30,31,32,33,35] 42 rfl rfl rfl (.yes rfl rfl rfl rfl (NOp.of (by exact g_load_ptr rfl rfl rfl rfl rfl))) rfl ?_
        refine DF.op 37 [0,1,2,3,4,5,6,7,8,9,10,11,12,13,14,15,16,17,18,19,20,21,22,23,24,25,26,27,28,29,30,31,32,33] 42 rfl rfl rfl (.yes rfl rfl rfl rfl (NOp.of (by exact g_fa_ptr rfl rfl rfl rfl rfl))) rfl ?_
        refine DF.op 38 [0,1,2,3,4,5,6,7,8,9,10,11,12,13,14,15,16,17,18,19,20,21,22,23,24,25,26,27,28,29,30,31,32,33,37] 42 rfl rfl rfl (.yes rfl rfl rfl rfl (NOp.of (by exact g_load_ptr rfl rfl rfl rfl rfl))) rfl ?_
        refine DF.op 39 [0,1,2,3,4,5,6,7,8,9,10,11,12,13,14,15,16,17,18,19,20,21,22,23,24,25,26,27,28,29,30,31,32,33,34,35,36,37,38] 42 rfl rfl rfl (.yes rfl rfl rfl rfl (by exact h_fun (cs := [100, 101]) en_ckFire rfl rfl (by repeat (first | exact rfl | exact DLead.same | refine ⟨_, _, rfl, ?_, ?_⟩ | refine ⟨_, rfl, ?_⟩)) (by repeat (first | exact True.intro | refine And.intro ?_ ?_ | exact DLead.same | exact rfl | refine ⟨_, _, rfl, rfl, ?_⟩ | refine ⟨_, rfl, ?_⟩ | refine ⟨_, _, rfl, ?_, ?_⟩)) hFi rfl rfl rfl rfl)) rfl ?_
        refine DF.op 40 [0,1,2,3,4,5,6,7,8,9,10,11,12,13,14,15,16,17,18,19,20,21,22,23,24,25,26,27,28,29,30,31,32,33,34,35,36,37,38,39] 42 rfl rfl rfl (.yes rfl rfl rfl rfl (NOp.of (by exact g_not rfl))) rfl ?_
        refine DF.op 41 [0,1,2,3,4,5,6,7,8,9,10,11,12,13,14,15,16,17,18,19,20,21,22,23,24,25,26,27,28,29,30,31,32,33,34,35,36,37,38,39,40] 42 rfl rfl rfl (.free rfl (NOp.of (by exact g_pickF (r := .d _) rfl rfl))) rfl ?_
        refine DF.fin (ps := [(0,2),(0,3),(0,4),(0,5),(0,6),(0,7),(1,2),(1,3),(1,4),(1,5),(1,6),(1,7),(2,0),(2,1),(3,0),(3,1),(4,0),(4,1),(5,0),(5,1),(6,0),(6,1),(7,0),(7,1),(11,15),(11,16),(12,15),(12,16),(13,15),(13,16),(14,15),(14,16),(15,11),(15,12),(15,13),(15,14),(16,11),(16,12),(16,13),(16,14),(22,24),(22,25),(22,26),(22,27),(22,28),(22,29),(23,24),(23,25),(23,26),(23,27),(23,28),(23,29),(24,22),(24,23),(24,25),(24,26),(24,27),(24,29),(25,22),(25,23),(25,24),(25,27),(25,29),(26,22),(26,23),(26,24),(26,27),(26,29),(27,22),(27,23),(27,24),(27,25),(27,26),(27,29),(28,22),(28,23),(28,29),(29,22),(29,23),(29,24),(29,25),(29,26),(29,27),(29,28),(34,35),(34,36),(34,37),(34,38),(35,34),(35,37),(35,38),(36,34),(36,37),(36,38),(37,34),(37,35),(37,36),(38,34),(38,35),(38,36)]) 42 rfl (by decide +kernel) (by decide +kernel) (by rfl) ?_
        refine th_n ?_
        refine AC.condB rfl (fun h6 => ?_) (fun h6 => ?_)
        ·refine AC.seq ?_
         refine AC.region ?_
         refine AL.p (by exact as1 rfl) rfl ?_
         refine AL.p (by exact as1 rfl) rfl ?_
         refine AL.nil ?_
         refine th_n ?_
         refine AC.ret ?_
         refine ib_r ?_
         refine th_r ?_
         refine th_r ?_
         refine ib_r ?_
         refine th_r ?_
         refine bq_r ?_
         have e : chkB s.net c l x = false := by (rw [hch, ← hFe (by simpa using h3) (by omega), show G.2 = false by simpa using h6]; simp)
         rw [e] at hrun
         exact ret2 rfl (by rw [hRe, ← hrun] <;> rfl) (by rw [hRe])
        ·refine AC.skip ?_
         refine ib_n ?_
         refine th_n ?_
         refine AC.region ?_
         refine AL.p (by exact g_arith rfl rfl rfl (by exact wrap_i64 (by omega))) rfl ?_
         refine AL.p (by exact mv1 rfl) rfl ?_
         refine AL.nil ?_
         refine th_n ?_
         have q3 : b1 = true := by simpa using h3
         have hGF := hFe q3 (by omega)
         have e : chkB s.net c l x = true := by rw [hch, q3, decide_eq_true (show 0 ≤ iAt c.since x.t.toNat by omega), ← hls q3 h4, ← hb2, show b2 = true by simpa using h5, ← hGF, show G.2 = true by simpa using h6]; rfl
         rw [e] at hrun
         rw [← hGF] at hCI hrun
         exact ⟨(k + 1, G.1), ⟨by omega, (hCI e).mono (by omega), hrun⟩, by dsimp only; omega, Weak.ren _ [(100, 100), (101, _)] hC rfl (by repeat (first | exact True.intro | refine And.intro ?_ ?_ | exact DLead.same | exact rfl | refine ⟨_, rfl, ?_⟩)) (by repeat (first | exact True.intro | refine And.intro ?_ ?_ | exact DLead.same | exact rfl | refine ⟨_, _, rfl, rfl, ?_⟩ | refine ⟨_, rfl, ?_⟩ | refine ⟨_, _, rfl, ?_, ?_⟩)) rfl rfl rfl⟩
    ·refine AC.exit ?_
     refine th_e ?_
     refine th_e ?_
     refine ib_y ?_
     refine th_n ?_
     refine AC.seq ?_
     refine AC.region ?_
     refine AL.p (by exact as1 rfl) rfl ?_
     refine AL.p (by exact as1 rfl) rfl ?_
     refine AL.nil ?_
     refine th_n ?_
     refine AC.ret ?_
     refine bq_r ?_
     have e : k = run.length := by omega
     rw [e, List.drop_length, checkQ] at hrun
     exact ret2 rfl (by rw [hRe, ← hrun] <;> rfl) (by rw [hRe])
theorem en_iIsTR : Enters Tryz.prog 8 := enters_of Tryz.func8 rfl rfl
def timeK (run : List Tf) (k : Nat) : Bool := !decide ((run.getD k ⟨0, 0⟩).tm < 0) && !(decide (0 < k) && decide ((run.getD (k - 1) ⟨0, 0⟩).tm > (run.getD k ⟨0, 0⟩).tm))
def timesB (run : List Tf) : Bool := allK (timeK run) run.length && decide ((run.length : Int) ≤ 60)
def fAt (l : List Tf) (k : Nat) : Tf := l.getD k ⟨0, 0⟩
theorem fAt_nat {l : List Tf} {k : Nat} (h : k < l.length) : fAt l k = l[k] := by unfold fAt; rw [List.getD_eq_getElem?_getD, List.getElem?_eq_getElem h]; rfl
theorem tfLA_get {l : List Tf} {k : Nat} (h : k < l.length) : (tfL l)[k]? = some [dI (fAt l k).tm, dI (fAt l k).t] := by rw [fAt_nat h]; exact tfL_get h
theorem timeK_no {run : List Tf} {k : Nat} (h : (fAt run k).tm < 0 ∨ (0 < k ∧ (fAt run (k - 1)).tm > (fAt run k).tm)) : timeK run k = false := by
 show (!decide ((fAt run k).tm < 0) && !(decide (0 < k) && decide ((fAt run (k - 1)).tm > (fAt run k).tm))) = false
 rcases h with h | ⟨h, h'⟩
 ·rw [decide_eq_true h]; rfl
 ·rw [decide_eq_true h, decide_eq_true h']; simp
theorem timeK_yes {run : List Tf} {k : Nat} (h : ¬ (fAt run k).tm < 0) (h' : 0 < k → ¬ (fAt run (k - 1)).tm > (fAt run k).tm) : timeK run k = true := by
 show (!decide ((fAt run k).tm < 0) && !(decide (0 < k) && decide ((fAt run (k - 1)).tm > (fAt run k).tm))) = true
 rw [decide_eq_false h]
 by_cases hk : 0 < k
 ·rw [decide_eq_true hk, decide_eq_false (h' hk)]; rfl
 ·rw [decide_eq_false hk]; rfl
set_option maxHeartbeats 4000000 in
theorem areTimes_spec (run : List Tf) (hn : run.length ≤ 100000) : ASpec Tryz.prog 36 [.d (vTfs run)] [] (Pure1 (aT (timesB run))) := by
 refine ASpec.of Tryz.func36 rfl rfl fun C hC => ?_
 refine AC.seq ?_
 refine AC.region ?_
 refine AL.p (by exact as1 rfl) rfl ?_
 refine AL.nil ?_
 refine th_n ?_
 refine AC.seq ?_
 refine AC.seq ?_
 refine AC.region ?_
 refine AL.p (by exact mv1 rfl) rfl ?_
 refine AL.p (by exact g_len_view (k := run.length) rfl rfl (tfL_len _)) rfl ?_
 refine AL.p (by exact mv1 rfl) rfl ?_
 refine AL.nil ?_
 refine th_n ?_
 refine AC.block ?_
 refine AC.loop (ι := Nat) (fun k => ⟨34, 200, [(0, .d (vTfs run)), (5, .d (vTfs run)), (6, aI run.length), (7, aI k)], []⟩) (fun k => k ≤ run.length ∧ ∀ j, j < k → timeK run j = true) (fun k => run.length - k) (0) ?_ (⟨Nat.zero_le _, fun j hj => by omega⟩) ?_
 ·refine Weak.ren _ [] hC rfl ?_ ?_ rfl rfl rfl <;> repeat (first | exact True.intro | refine And.intro ?_ ?_ | exact DLead.same)
 ·intro k ⟨hk, hall⟩
  refine AC.seq ?_
  refine AC.region ?_
  refine AL.p (by exact g_cmp rfl rfl rfl) rfl ?_
  refine AL.nil ?_
  refine th_n ?_
  refine AC.seq ?_
  refine AC.condD rfl (fun h0 => ?_) (fun h0 => ?_)
  ·refine AC.skip ?_
   refine th_n ?_
   refine AC.seq ?_
   refine AC.block ?_
   refine AC.seq ?_
   have hk1 : k < run.length := by omega
   have hget := tfLA_get hk1
   have hpre : 0 < k → (tfL run)[k - 1]? = some [dI (fAt run (k - 1)).tm, dI (fAt run (k - 1)).t] := fun q => tfLA_get (by omega)
   refine AC.region ?_
   refine AL.p (by exact mv1 rfl) rfl ?_
   refine AL.p (by exact g_ia_view rfl rfl rfl rfl rfl (by rfl) (by assumption)) rfl ?_
   refine AL.p (by exact g_load_refN rfl rfl rfl rfl) rfl ?_
   refine AL.q (by exact h_alloc rfl) rfl ?_
   refine AL.p (by exact as1 rfl) rfl ?_
   refine AL.q (by exact h_store rfl rfl rfl rfl rfl rfl) rfl ?_
   refine AL.nil ?_
   refine th_n ?_
   refine AC.seq ?_
   refine AC.drawn' mixed_ok [[], [0], [0,1], [0,1,2], [0,1,2,3], [0,1,2,3,4], [0,1,2,3,4,5], [0,1,2,3,4,5,6], [0,1,2,3,4,5,6], [0,1,2,3,4,5,6,8], [0,1,2,3,4,5,6,7,8,9], [0,1,2,3,4,5,6,7,8,9,10], [0,1,2,3,4,5,6,7,8,9,10,11], [0,1,2,3,4,5,6], [0,1,2,3,4,5,6,13], [0,1,2,3,4,5,6,7,8,9,10,11,12,13,14], [0,1,2,3,4,5,6,7,8,9,10,11,12,13,14,15], [0,1,2,3,4,5,6,7,8,9,10,11,12,13,14,15,16]] (by decide) ?_
   refine DF.op 0 [] 18 rfl rfl rfl (.free rfl (NOp.of (by exact g_fa_ptr rfl rfl rfl rfl rfl))) rfl ?_
   refine DF.op 1 [0] 18 rfl rfl rfl (.free rfl (NOp.of (by exact g_load_ptr rfl rfl rfl rfl rfl))) rfl ?_
   refine DF.op 2 [0,1] 18 rfl rfl rfl (.free rfl (NOp.of (by exact g_cmp rfl rfl rfl))) rfl ?_
   refine DF.op 3 [0,1,2] 18 rfl rfl rfl (.free rfl (NOp.of (by exact mv1 rfl))) rfl ?_
   refine DF.caseD 3 rfl (fun h1 => ?_) (fun h1 => ?_)
   ·refine DF.op (ids := []) 4 [0,1,2,3] 18 rfl rfl rfl (.no rfl rfl rfl rfl rfl rfl) rfl ?_
    refine DF.op (ids := []) 5 [0,1,2,3,4] 18 rfl rfl rfl (.no rfl rfl rfl rfl rfl rfl) rfl ?_
    refine DF.op (ids := []) 6 [0,1,2,3,4,5] 18 rfl rfl rfl (.no rfl rfl rfl rfl rfl rfl) rfl ?_
    refine DF.op (ids := []) 7 [0,1,2,3,4,5,6] 18 rfl rfl rfl (.noU rfl rfl rfl rfl) rfl ?_
    refine DF.op (ids := []) 8 [0,1,2,3,4,5,6] 18 rfl rfl rfl (.noU rfl rfl rfl rfl) rfl ?_
    refine DF.op (ids := []) 9 [0,1,2,3,4,5,6,8] 18 rfl rfl rfl (.noU rfl rfl rfl rfl) rfl ?_
    refine DF.op (ids := []) 10 [0,1,2,3,4,5,6,7,8,9] 18 rfl rfl rfl (.noU rfl rfl rfl rfl) rfl ?_
    refine DF.op (ids := []) 11 [0,1,2,3,4,5,6,7,8,9,10] 18 rfl rfl rfl (.noU rfl rfl rfl rfl) rfl ?_
    refine DF.op (ids := []) 12 [0,1,2,3,4,5,6,7,8,9,10,11] 18 rfl rfl rfl (.noU rfl rfl rfl rfl) rfl ?_
    refine DF.op (ids := []) 13 [0,1,2,3,4,5,6] 18 rfl rfl rfl (.noU rfl rfl rfl rfl) rfl ?_
    refine DF.op (ids := []) 14 [0,1,2,3,4,5,6,13] 18 rfl rfl rfl (.noU rfl rfl rfl rfl) rfl ?_
    refine DF.op (ids := []) 15 [0,1,2,3,4,5,6,7,8,9,10,11,12,13,14] 18 rfl rfl rfl (.noU rfl rfl rfl rfl) rfl ?_
    refine DF.op (ids := []) 16 [0,1,2,3,4,5,6,7,8,9,10,11,12,13,14,15] 18 rfl rfl rfl (.no rfl rfl rfl rfl rfl rfl) rfl ?_
    refine DF.op 17 [0,1,2,3,4,5,6,7,8,9,10,11,12,13,14,15,16] 18 rfl rfl rfl (.free rfl (NOp.of (by exact g_pickT (r := .d _) rfl rfl))) rfl ?_
    refine DF.fin (ps := [(7,8),(7,9),(7,13),(7,14),(8,7),(8,13),(8,14),(9,7),(9,13),(9,14),(10,13),(10,14),(11,13),(11,14),(12,13),(12,14),(13,7),(13,8),(13,9),(13,10),(13,11),(13,12),(14,7),(14,8),(14,9),(14,10),(14,11),(14,12)]) 18 rfl (by decide +kernel) (by decide +kernel) (by rfl) ?_
    refine th_n ?_
    refine AC.condT rfl ?_
    refine AC.seq ?_
    refine AC.region ?_
    refine AL.p (by exact as1 rfl) rfl ?_
    refine AL.nil ?_
    refine th_n ?_
    refine AC.ret ?_
    refine ib_r ?_
    refine th_r ?_
    refine th_r ?_
    refine ib_r ?_
    refine th_r ?_
    refine bq_r ?_
    have e : timeK run k = false := timeK_no (by exact .inl h1)
    exact ret1 rfl (by unfold timesB; rw [allK_no hk1 e, Bool.false_and])
   ·refine DF.op 4 [0,1,2,3] 18 rfl rfl rfl (.yes rfl rfl rfl rfl (NOp.of (by exact mv1 rfl))) rfl ?_
    refine DF.op 5 [0,1,2,3,4] 18 rfl rfl rfl (.yes rfl rfl rfl rfl (NOp.of (by exact g_cmp rfl rfl rfl))) rfl ?_
    refine DF.op 6 [0,1,2,3,4,5] 18 rfl rfl rfl (.yes rfl rfl rfl rfl (NOp.of (by exact mv1 rfl))) rfl ?_
    refine DF.caseD 6 rfl (fun h2 => ?_) (fun h2 => ?_)
    ·refine DF.op 7 [0,1,2,3,4,5,6] 18 rfl rfl rfl (.yes rfl rfl rfl rfl (NOp.of (by exact mv1 rfl))) rfl ?_
     refine DF.op 8 [0,1,2,3,4,5,6] 18 rfl rfl rfl (.yes rfl rfl rfl rfl (NOp.of (by exact mv1 rfl))) rfl ?_
     refine DF.op 9 [0,1,2,3,4,5,6,8] 18 rfl rfl rfl (.yes rfl rfl rfl rfl (NOp.of (by exact g_arith rfl rfl rfl (by exact wrap_i64 (by omega))))) rfl ?_
     refine DF.op 10 [0,1,2,3,4,5,6,7,8,9] 18 rfl rfl rfl (.yes rfl rfl rfl rfl (NOp.of (by exact g_ia_view (i := k - 1) rfl rfl rfl rfl rfl (by omega) (hpre (by omega))))) rfl ?_
     refine DF.op 11 [0,1,2,3,4,5,6,7,8,9,10] 18 rfl rfl rfl (.yes rfl rfl rfl rfl (NOp.of (by exact g_fa_ref rfl rfl rfl rfl rfl rfl))) rfl ?_
     refine DF.op 12 [0,1,2,3,4,5,6,7,8,9,10,11] 18 rfl rfl rfl (.yes rfl rfl rfl rfl (NOp.of (by exact g_load_ref rfl rfl rfl))) rfl ?_
     refine DF.op 13 [0,1,2,3,4,5,6] 18 rfl rfl rfl (.yes rfl rfl rfl rfl (NOp.of (by exact g_fa_ptr rfl rfl rfl rfl rfl))) rfl ?_
     refine DF.op 14 [0,1,2,3,4,5,6,13] 18 rfl rfl rfl (.yes rfl rfl rfl rfl (NOp.of (by exact g_load_ptr rfl rfl rfl rfl rfl))) rfl ?_
     refine DF.op 15 [0,1,2,3,4,5,6,7,8,9,10,11,12,13,14] 18 rfl rfl rfl (.yes rfl rfl rfl rfl (NOp.of (by exact g_cmp rfl rfl rfl))) rfl ?_
     refine DF.op 16 [0,1,2,3,4,5,6,7,8,9,10,11,12,13,14,15] 18 rfl rfl rfl (.yes rfl rfl rfl rfl (NOp.of (by exact g_pickT (r := .d _) rfl rfl))) rfl ?_
     refine DF.op 17 [0,1,2,3,4,5,6,7,8,9,10,11,12,13,14,15,16] 18 rfl rfl rfl (.free rfl (NOp.of (by exact g_pickF (r := .d _) rfl rfl))) rfl ?_
     refine DF.fin (ps := [(7,8),(7,9),(7,13),(7,14),(8,7),(8,13),(8,14),(9,7),(9,13),(9,14),(10,13),(10,14),(11,13),(11,14),(12,13),(12,14),(13,7),(13,8),(13,9),(13,10),(13,11),(13,12),(14,7),(14,8),(14,9),(14,10),(14,11),(14,12)]) 18 rfl (by decide +kernel) (by decide +kernel) (by rfl) ?_
     refine th_n ?_
     refine AC.condD rfl (fun h3 => ?_) (fun h3 => ?_)
     ·refine AC.seq ?_
      refine AC.region ?_
      refine AL.p (by exact as1 rfl) rfl ?_
      refine AL.nil ?_
      refine th_n ?_
      refine AC.ret ?_
      refine ib_r ?_
      refine th_r ?_
      refine th_r ?_
      refine ib_r ?_
      refine th_r ?_
      refine bq_r ?_
      have e : timeK run k = false := timeK_no (by exact .inr ⟨by omega, h3⟩)
      exact ret1 rfl (by unfold timesB; rw [allK_no hk1 e, Bool.false_and])
     ·refine AC.skip ?_
      refine ib_n ?_
      refine th_n ?_
      refine AC.region ?_
      refine AL.p (by exact g_arith rfl rfl rfl (by exact wrap_i64 (by omega))) rfl ?_
      refine AL.p (by exact mv1 rfl) rfl ?_
      refine AL.nil ?_
      refine th_n ?_
      have e : timeK run k = true := timeK_yes h1 (fun q => by exact h3)
      exact ⟨k + 1, ⟨by omega, fun j hj2 => by rcases Nat.lt_succ_iff_lt_or_eq.1 hj2 with h | rfl; exact hall j h; exact e⟩, by omega, Weak.ren _ [] hC rfl (by repeat (first | exact True.intro | refine And.intro ?_ ?_ | exact DLead.same)) (by repeat (exact True.intro)) rfl rfl rfl⟩
    ·refine DF.op (ids := []) 7 [0,1,2,3,4,5,6] 18 rfl rfl rfl (.no rfl rfl rfl rfl rfl rfl) rfl ?_
     refine DF.op (ids := []) 8 [0,1,2,3,4,5,6] 18 rfl rfl rfl (.no rfl rfl rfl rfl rfl rfl) rfl ?_
     refine DF.op (ids := []) 9 [0,1,2,3,4,5,6,8] 18 rfl rfl rfl (.no rfl rfl rfl rfl rfl rfl) rfl ?_
     refine DF.op (ids := []) 10 [0,1,2,3,4,5,6,7,8,9] 18 rfl rfl rfl (.no rfl rfl rfl rfl rfl rfl) rfl ?_
     refine DF.op (ids := []) 11 [0,1,2,3,4,5,6,7,8,9,10] 18 rfl rfl rfl (.no rfl rfl rfl rfl rfl rfl) rfl ?_
     refine DF.op (ids := []) 12 [0,1,2,3,4,5,6,7,8,9,10,11] 18 rfl rfl rfl (.no rfl rfl rfl rfl rfl rfl) rfl ?_
     refine DF.op (ids := []) 13 [0,1,2,3,4,5,6] 18 rfl rfl rfl (.no rfl rfl rfl rfl rfl rfl) rfl ?_
     refine DF.op (ids := []) 14 [0,1,2,3,4,5,6,13] 18 rfl rfl rfl (.no rfl rfl rfl rfl rfl rfl) rfl ?_
     refine DF.op (ids := []) 15 [0,1,2,3,4,5,6,7,8,9,10,11,12,13,14] 18 rfl rfl rfl (.no rfl rfl rfl rfl rfl rfl) rfl ?_
     refine DF.op 16 [0,1,2,3,4,5,6,7,8,9,10,11,12,13,14,15] 18 rfl rfl rfl (.yes rfl rfl rfl rfl (NOp.of (by exact g_pickF (r := .d _) rfl rfl))) rfl ?_
     refine DF.op 17 [0,1,2,3,4,5,6,7,8,9,10,11,12,13,14,15,16] 18 rfl rfl rfl (.free rfl (NOp.of (by exact g_pickF (r := .d _) rfl rfl))) rfl ?_
     refine DF.fin (ps := [(7,8),(7,9),(7,13),(7,14),(8,7),(8,13),(8,14),(9,7),(9,13),(9,14),(10,13),(10,14),(11,13),(11,14),(12,13),(12,14),(13,7),(13,8),(13,9),(13,10),(13,11),(13,12),(14,7),(14,8),(14,9),(14,10),(14,11),(14,12)]) 18 rfl (by decide +kernel) (by decide +kernel) (by rfl) ?_
     refine th_n ?_
     refine AC.condF rfl ?_
     refine AC.skip ?_
     refine ib_n ?_
     refine th_n ?_
     refine AC.region ?_
     refine AL.p (by exact g_arith rfl rfl rfl (by exact wrap_i64 (by omega))) rfl ?_
     refine AL.p (by exact mv1 rfl) rfl ?_
     refine AL.nil ?_
     refine th_n ?_
     have e : timeK run k = true := timeK_yes h1 (fun q => by (exfalso; omega))
     exact ⟨k + 1, ⟨by omega, fun j hj2 => by rcases Nat.lt_succ_iff_lt_or_eq.1 hj2 with h | rfl; exact hall j h; exact e⟩, by omega, Weak.ren _ [] hC rfl (by repeat (first | exact True.intro | refine And.intro ?_ ?_ | exact DLead.same)) (by repeat (exact True.intro)) rfl rfl rfl⟩
  ·refine AC.exit ?_
   refine th_e ?_
   refine th_e ?_
   refine ib_y ?_
   refine th_n ?_
   refine AC.seq ?_
   refine AC.region ?_
   refine AL.p (by exact mv1 rfl) rfl ?_
   refine AL.p (by exact g_len_view (k := run.length) rfl rfl (tfL_len _)) rfl ?_
   refine AL.p (by exact g_cmp rfl rfl rfl) rfl ?_
   refine AL.p (by exact as1 rfl) rfl ?_
   refine AL.nil ?_
   refine th_n ?_
   refine AC.ret ?_
   refine bq_r ?_
   exact ret1 rfl (by unfold timesB; rw [allK_yes (fun j hj => hall j (by omega)), Bool.true_and])
theorem en_areTimes : Enters Tryz.prog 36 := enters_of Tryz.func36 rfl rfl
set_option maxHeartbeats 4000000 in
theorem l23Times_spec (run : List Tf) (hn : run.length ≤ 100000) : ASpec Tryz.prog 65 [.d (vTfs run)] [] (Pure1 (aT (timesB run))) := by
 refine ASpec.of Tryz.func65 rfl rfl fun C hC => ?_
 refine AC.seq ?_
 refine AC.region ?_
 refine AL.p (by exact as1 rfl) rfl ?_
 refine AL.nil ?_
 refine th_n ?_
 refine AC.seq ?_
 refine AC.seq ?_
 refine AC.region ?_
 refine AL.p (by exact mv1 rfl) rfl ?_
 refine AL.p (by exact g_len_view (k := run.length) rfl rfl (tfL_len _)) rfl ?_
 refine AL.p (by exact mv1 rfl) rfl ?_
 refine AL.nil ?_
 refine th_n ?_
 refine AC.block ?_
 refine AC.loop (ι := Nat) (fun k => ⟨34, 200, [(0, .d (vTfs run)), (5, .d (vTfs run)), (6, aI run.length), (7, aI k)], []⟩) (fun k => k ≤ run.length ∧ ∀ j, j < k → timeK run j = true) (fun k => run.length - k) (0) ?_ (⟨Nat.zero_le _, fun j hj => by omega⟩) ?_
 ·refine Weak.ren _ [] hC rfl ?_ ?_ rfl rfl rfl <;> repeat (first | exact True.intro | refine And.intro ?_ ?_ | exact DLead.same)
 ·intro k ⟨hk, hall⟩
  refine AC.seq ?_
  refine AC.region ?_
  refine AL.p (by exact g_cmp rfl rfl rfl) rfl ?_
  refine AL.nil ?_
  refine th_n ?_
  refine AC.seq ?_
  refine AC.condD rfl (fun h0 => ?_) (fun h0 => ?_)
  ·refine AC.skip ?_
   refine th_n ?_
   refine AC.seq ?_
   refine AC.block ?_
   refine AC.seq ?_
   have hk1 : k < run.length := by omega
   have hget := tfLA_get hk1
   have hpre : 0 < k → (tfL run)[k - 1]? = some [dI (fAt run (k - 1)).tm, dI (fAt run (k - 1)).t] := fun q => tfLA_get (by omega)
   refine AC.region ?_
   refine AL.p (by exact mv1 rfl) rfl ?_
   refine AL.p (by exact g_ia_view rfl rfl rfl rfl rfl (by rfl) (by assumption)) rfl ?_
   refine AL.p (by exact g_load_refN rfl rfl rfl rfl) rfl ?_
   refine AL.q (by exact h_alloc rfl) rfl ?_
   refine AL.p (by exact as1 rfl) rfl ?_
   refine AL.q (by exact h_store rfl rfl rfl rfl rfl rfl) rfl ?_
   refine AL.nil ?_
   refine th_n ?_
   refine AC.seq ?_
   refine AC.drawn' mixed_ok [[], [0], [0,1], [0,1,2], [0,1,2,3], [0,1,2,3,4], [0,1,2,3,4,5], [0,1,2,3,4,5,6], [0,1,2,3,4,5,6], [0,1,2,3,4,5,6,8], [0,1,2,3,4,5,6,7,8,9], [0,1,2,3,4,5,6,7,8,9,10], [0,1,2,3,4,5,6,7,8,9,10,11], [0,1,2,3,4,5,6], [0,1,2,3,4,5,6,13], [0,1,2,3,4,5,6,7,8,9,10,11,12,13,14], [0,1,2,3,4,5,6,7,8,9,10,11,12,13,14,15], [0,1,2,3,4,5,6,7,8,9,10,11,12,13,14,15,16]] (by decide) ?_
   refine DF.op 0 [] 18 rfl rfl rfl (.free rfl (NOp.of (by exact g_fa_ptr rfl rfl rfl rfl rfl))) rfl ?_
   refine DF.op 1 [0] 18 rfl rfl rfl (.free rfl (NOp.of (by exact g_load_ptr rfl rfl rfl rfl rfl))) rfl ?_
   refine DF.op 2 [0,1] 18 rfl rfl rfl (.free rfl (NOp.of (by exact g_cmp rfl rfl rfl))) rfl ?_
   refine DF.op 3 [0,1,2] 18 rfl rfl rfl (.free rfl (NOp.of (by exact mv1 rfl))) rfl ?_
   refine DF.caseD 3 rfl (fun h1 => ?_) (fun h1 => ?_)
   ·refine DF.op (ids := []) 4 [0,1,2,3] 18 rfl rfl rfl (.no rfl rfl rfl rfl rfl rfl) rfl ?_
    refine DF.op (ids := []) 5 [0,1,2,3,4] 18 rfl rfl rfl (.no rfl rfl rfl rfl rfl rfl) rfl ?_
    refine DF.op (ids := []) 6 [0,1,2,3,4,5] 18 rfl rfl rfl (.no rfl rfl rfl rfl rfl rfl) rfl ?_
    refine DF.op (ids := []) 7 [0,1,2,3,4,5,6] 18 rfl rfl rfl (.noU rfl rfl rfl rfl) rfl ?_
    refine DF.op (ids := []) 8 [0,1,2,3,4,5,6] 18 rfl rfl rfl (.noU rfl rfl rfl rfl) rfl ?_
    refine DF.op (ids := []) 9 [0,1,2,3,4,5,6,8] 18 rfl rfl rfl (.noU rfl rfl rfl rfl) rfl ?_
    refine DF.op (ids := []) 10 [0,1,2,3,4,5,6,7,8,9] 18 rfl rfl rfl (.noU rfl rfl rfl rfl) rfl ?_
    refine DF.op (ids := []) 11 [0,1,2,3,4,5,6,7,8,9,10] 18 rfl rfl rfl (.noU rfl rfl rfl rfl) rfl ?_
    refine DF.op (ids := []) 12 [0,1,2,3,4,5,6,7,8,9,10,11] 18 rfl rfl rfl (.noU rfl rfl rfl rfl) rfl ?_
    refine DF.op (ids := []) 13 [0,1,2,3,4,5,6] 18 rfl rfl rfl (.noU rfl rfl rfl rfl) rfl ?_
    refine DF.op (ids := []) 14 [0,1,2,3,4,5,6,13] 18 rfl rfl rfl (.noU rfl rfl rfl rfl) rfl ?_
    refine DF.op (ids := []) 15 [0,1,2,3,4,5,6,7,8,9,10,11,12,13,14] 18 rfl rfl rfl (.noU rfl rfl rfl rfl) rfl ?_
    refine DF.op (ids := []) 16 [0,1,2,3,4,5,6,7,8,9,10,11,12,13,14,15] 18 rfl rfl rfl (.no rfl rfl rfl rfl rfl rfl) rfl ?_
    refine DF.op 17 [0,1,2,3,4,5,6,7,8,9,10,11,12,13,14,15,16] 18 rfl rfl rfl (.free rfl (NOp.of (by exact g_pickT (r := .d _) rfl rfl))) rfl ?_
    refine DF.fin (ps := [(7,8),(7,9),(7,13),(7,14),(8,7),(8,13),(8,14),(9,7),(9,13),(9,14),(10,13),(10,14),(11,13),(11,14),(12,13),(12,14),(13,7),(13,8),(13,9),(13,10),(13,11),(13,12),(14,7),(14,8),(14,9),(14,10),(14,11),(14,12)]) 18 rfl (by decide +kernel) (by decide +kernel) (by rfl) ?_
    refine th_n ?_
    refine AC.condT rfl ?_
    refine AC.seq ?_
    refine AC.region ?_
    refine AL.p (by exact as1 rfl) rfl ?_
    refine AL.nil ?_
    refine th_n ?_
    refine AC.ret ?_
    refine ib_r ?_
    refine th_r ?_
    refine th_r ?_
    refine ib_r ?_
    refine th_r ?_
    refine bq_r ?_
    have e : timeK run k = false := timeK_no (by exact .inl h1)
    exact ret1 rfl (by unfold timesB; rw [allK_no hk1 e, Bool.false_and])
   ·refine DF.op 4 [0,1,2,3] 18 rfl rfl rfl (.yes rfl rfl rfl rfl (NOp.of (by exact mv1 rfl))) rfl ?_
    refine DF.op 5 [0,1,2,3,4] 18 rfl rfl rfl (.yes rfl rfl rfl rfl (NOp.of (by exact g_cmp rfl rfl rfl))) rfl ?_
    refine DF.op 6 [0,1,2,3,4,5] 18 rfl rfl rfl (.yes rfl rfl rfl rfl (NOp.of (by exact mv1 rfl))) rfl ?_
    refine DF.caseD 6 rfl (fun h2 => ?_) (fun h2 => ?_)
    ·refine DF.op 7 [0,1,2,3,4,5,6] 18 rfl rfl rfl (.yes rfl rfl rfl rfl (NOp.of (by exact mv1 rfl))) rfl ?_
     refine DF.op 8 [0,1,2,3,4,5,6] 18 rfl rfl rfl (.yes rfl rfl rfl rfl (NOp.of (by exact mv1 rfl))) rfl ?_
     refine DF.op 9 [0,1,2,3,4,5,6,8] 18 rfl rfl rfl (.yes rfl rfl rfl rfl (NOp.of (by exact g_arith rfl rfl rfl (by exact wrap_i64 (by omega))))) rfl ?_
     refine DF.op 10 [0,1,2,3,4,5,6,7,8,9] 18 rfl rfl rfl (.yes rfl rfl rfl rfl (NOp.of (by exact g_ia_view (i := k - 1) rfl rfl rfl rfl rfl (by omega) (hpre (by omega))))) rfl ?_
     refine DF.op 11 [0,1,2,3,4,5,6,7,8,9,10] 18 rfl rfl rfl (.yes rfl rfl rfl rfl (NOp.of (by exact g_fa_ref rfl rfl rfl rfl rfl rfl))) rfl ?_
     refine DF.op 12 [0,1,2,3,4,5,6,7,8,9,10,11] 18 rfl rfl rfl (.yes rfl rfl rfl rfl (NOp.of (by exact g_load_ref rfl rfl rfl))) rfl ?_
     refine DF.op 13 [0,1,2,3,4,5,6] 18 rfl rfl rfl (.yes rfl rfl rfl rfl (NOp.of (by exact g_fa_ptr rfl rfl rfl rfl rfl))) rfl ?_
     refine DF.op 14 [0,1,2,3,4,5,6,13] 18 rfl rfl rfl (.yes rfl rfl rfl rfl (NOp.of (by exact g_load_ptr rfl rfl rfl rfl rfl))) rfl ?_
     refine DF.op 15 [0,1,2,3,4,5,6,7,8,9,10,11,12,13,14] 18 rfl rfl rfl (.yes rfl rfl rfl rfl (NOp.of (by exact g_cmp rfl rfl rfl))) rfl ?_
     refine DF.op 16 [0,1,2,3,4,5,6,7,8,9,10,11,12,13,14,15] 18 rfl rfl rfl (.yes rfl rfl rfl rfl (NOp.of (by exact g_pickT (r := .d _) rfl rfl))) rfl ?_
     refine DF.op 17 [0,1,2,3,4,5,6,7,8,9,10,11,12,13,14,15,16] 18 rfl rfl rfl (.free rfl (NOp.of (by exact g_pickF (r := .d _) rfl rfl))) rfl ?_
     refine DF.fin (ps := [(7,8),(7,9),(7,13),(7,14),(8,7),(8,13),(8,14),(9,7),(9,13),(9,14),(10,13),(10,14),(11,13),(11,14),(12,13),(12,14),(13,7),(13,8),(13,9),(13,10),(13,11),(13,12),(14,7),(14,8),(14,9),(14,10),(14,11),(14,12)]) 18 rfl (by decide +kernel) (by decide +kernel) (by rfl) ?_
     refine th_n ?_
     refine AC.condD rfl (fun h3 => ?_) (fun h3 => ?_)
     ·refine AC.seq ?_
      refine AC.region ?_
      refine AL.p (by exact as1 rfl) rfl ?_
      refine AL.nil ?_
      refine th_n ?_
      refine AC.ret ?_
      refine ib_r ?_
      refine th_r ?_
      refine th_r ?_
      refine ib_r ?_
      refine th_r ?_
      refine bq_r ?_
      have e : timeK run k = false := timeK_no (by exact .inr ⟨by omega, h3⟩)
      exact ret1 rfl (by unfold timesB; rw [allK_no hk1 e, Bool.false_and])
     ·refine AC.skip ?_
      refine ib_n ?_
      refine th_n ?_
      refine AC.region ?_
      refine AL.p (by exact g_arith rfl rfl rfl (by exact wrap_i64 (by omega))) rfl ?_
      refine AL.p (by exact mv1 rfl) rfl ?_
      refine AL.nil ?_
      refine th_n ?_
      have e : timeK run k = true := timeK_yes h1 (fun q => by exact h3)
      exact ⟨k + 1, ⟨by omega, fun j hj2 => by rcases Nat.lt_succ_iff_lt_or_eq.1 hj2 with h | rfl; exact hall j h; exact e⟩, by omega, Weak.ren _ [] hC rfl (by repeat (first | exact True.intro | refine And.intro ?_ ?_ | exact DLead.same)) (by repeat (exact True.intro)) rfl rfl rfl⟩
    ·refine DF.op (ids := []) 7 [0,1,2,3,4,5,6] 18 rfl rfl rfl (.no rfl rfl rfl rfl rfl rfl) rfl ?_
     refine DF.op (ids := []) 8 [0,1,2,3,4,5,6] 18 rfl rfl rfl (.no rfl rfl rfl rfl rfl rfl) rfl ?_
     refine DF.op (ids := []) 9 [0,1,2,3,4,5,6,8] 18 rfl rfl rfl (.no rfl rfl rfl rfl rfl rfl) rfl ?_
     refine DF.op (ids := []) 10 [0,1,2,3,4,5,6,7,8,9] 18 rfl rfl rfl (.no rfl rfl rfl rfl rfl rfl) rfl ?_
     refine DF.op (ids := []) 11 [0,1,2,3,4,5,6,7,8,9,10] 18 rfl rfl rfl (.no rfl rfl rfl rfl rfl rfl) rfl ?_
     refine DF.op (ids := []) 12 [0,1,2,3,4,5,6,7,8,9,10,11] 18 rfl rfl rfl (.no rfl rfl rfl rfl rfl rfl) rfl ?_
     refine DF.op (ids := []) 13 [0,1,2,3,4,5,6] 18 rfl rfl rfl (.no rfl rfl rfl rfl rfl rfl) rfl ?_
     refine DF.op (ids := []) 14 [0,1,2,3,4,5,6,13] 18 rfl rfl rfl (.no rfl rfl rfl rfl rfl rfl) rfl ?_
     refine DF.op (ids := []) 15 [0,1,2,3,4,5,6,7,8,9,10,11,12,13,14] 18 rfl rfl rfl (.no rfl rfl rfl rfl rfl rfl) rfl ?_
     refine DF.op 16 [0,1,2,3,4,5,6,7,8,9,10,11,12,13,14,15] 18 rfl rfl rfl (.yes rfl rfl rfl rfl (NOp.of (by exact g_pickF (r := .d _) rfl rfl))) rfl ?_
     refine DF.op 17 [0,1,2,3,4,5,6,7,8,9,10,11,12,13,14,15,16] 18 rfl rfl rfl (.free rfl (NOp.of (by exact g_pickF (r := .d _) rfl rfl))) rfl ?_
     refine DF.fin (ps := [(7,8),(7,9),(7,13),(7,14),(8,7),(8,13),(8,14),(9,7),(9,13),(9,14),(10,13),(10,14),(11,13),(11,14),(12,13),(12,14),(13,7),(13,8),(13,9),(13,10),(13,11),(13,12),(14,7),(14,8),(14,9),(14,10),(14,11),(14,12)]) 18 rfl (by decide +kernel) (by decide +kernel) (by rfl) ?_
     refine th_n ?_
     refine AC.condF rfl ?_
     refine AC.skip ?_
     refine ib_n ?_
     refine th_n ?_
     refine AC.region ?_
     refine AL.p (by exact g_arith rfl rfl rfl (by exact wrap_i64 (by omega))) rfl ?_
     refine AL.p (by exact mv1 rfl) rfl ?_
     refine AL.nil ?_
     refine th_n ?_
     have e : timeK run k = true := timeK_yes h1 (fun q => by (exfalso; omega))
     exact ⟨k + 1, ⟨by omega, fun j hj2 => by rcases Nat.lt_succ_iff_lt_or_eq.1 hj2 with h | rfl; exact hall j h; exact e⟩, by omega, Weak.ren _ [] hC rfl (by repeat (first | exact True.intro | refine And.intro ?_ ?_ | exact DLead.same)) (by repeat (exact True.intro)) rfl rfl rfl⟩
  ·refine AC.exit ?_
   refine th_e ?_
   refine th_e ?_
   refine ib_y ?_
   refine th_n ?_
   refine AC.seq ?_
   refine AC.region ?_
   refine AL.p (by exact mv1 rfl) rfl ?_
   refine AL.p (by exact g_len_view (k := run.length) rfl rfl (tfL_len _)) rfl ?_
   refine AL.p (by exact g_cmp rfl rfl rfl) rfl ?_
   refine AL.p (by exact as1 rfl) rfl ?_
   refine AL.nil ?_
   refine th_n ?_
   refine AC.ret ?_
   refine bq_r ?_
   exact ret1 rfl (by unfold timesB; rw [allK_yes (fun j hj => hall j (by omega)), Bool.true_and])
theorem en_l23Times : Enters Tryz.prog 65 := enters_of Tryz.func65 rfl rfl
def okF (N : Net) (c : Ck) (x : Tf) : Bool := (decide (0 ≤ x.t) && decide (x.t ≤ (N.ts.length : Int) - 1)) && (decide (0 ≤ iAt c.since x.t.toNat) && (fireQ N c x.t.toNat x.tm).2)
def firedQ (N : Net) : List Tf → Ck → Ck × Bool
 | [], c => (c, true)
 | x :: xs, c => if okF N c x = true then firedQ N xs (fireQ N c x.t.toNat x.tm).1 else (c, false)
def entR (s : Stg) (run : List Tf) : List Int × Bool := if (goodS s && timesB run) = true then (if (firedQ s.net run (newK s)).2 = true then ((firedQ s.net run (newK s)).1.since, true) else ([], false)) else ([], false)
theorem timesB_in {run : List Tf} (h : timesB run = true) : run.length ≤ 60 ∧ ∀ k, k < run.length → 0 ≤ (fAt run k).tm := by
 simp only [timesB, Bool.and_eq_true, decide_eq_true_eq] at h
 refine ⟨by omega, fun k hk => ?_⟩
 have := allK_iff.1 h.1 k hk
 unfold timeK at this
 simp only [Bool.and_eq_true, Bool.not_eq_true', decide_eq_false_iff_not] at this
 have := this.1
 show 0 ≤ (run.getD k ⟨0, 0⟩).tm
 omega
theorem fireP_ok {N : Net} {c : Ck} {T : Int} (h : CkI N c T) (x : Tf) : (fireP N c x.t x.tm).2 = okF N c x ∧ (okF N c x = true → fireP N c x.t x.tm = fireQ N c x.t.toNat x.tm) := by
 by_cases hr : (decide (0 ≤ x.t) && decide (x.t ≤ (N.ts.length : Int) - 1)) = true
 ·have h1 : x.t = ((x.t.toNat : Nat) : Int) ∧ x.t.toNat < N.ts.length := by simp only [Bool.and_eq_true, decide_eq_true_eq] at hr; omega
  have hen := h.en _ h1.2
  by_cases he : enB N c.mark x.t.toNat = true
  ·have e := fireP_Q (c := c) h1.2 he x.tm
   rw [← h1.1] at e
   rw [e]
   refine ⟨?_, fun _ => rfl⟩
   unfold okF
   rw [hr, decide_eq_true (hen.2 he)]; rfl
  ·have e : fireI N c.mark x.t = ([], false) := by rw [h1.1, fireI_at h1.2, if_neg (by rw [← enB_nat h1.2]; exact he)]
   have e2 : okF N c x = false := by unfold okF; rw [hr, decide_eq_false (fun q => he (hen.1 q))]; rfl
   rw [e2]
   refine ⟨?_, fun q => by cases q⟩
   unfold fireP
   rw [e]; rfl
 ·have e : fireI N c.mark x.t = ([], false) := fireI_out (Bool.eq_false_iff.2 hr)
  have e2 : okF N c x = false := by unfold okF; rw [Bool.eq_false_iff.2 hr]; rfl
  rw [e2]
  refine ⟨?_, fun q => by cases q⟩
  unfold fireP
  rw [e]; rfl
theorem okF_I {N : Net} {c : Ck} {x : Tf} (h : CkI N c 1000000) (hx : 0 ≤ x.tm ∧ x.tm ≤ 1000000) (ho : okF N c x = true) : CkI N (fireQ N c x.t.toNat x.tm).1 1000000 := by
 simp only [okF, Bool.and_eq_true, decide_eq_true_eq] at ho
 exact fireQ_I h (Int.le_refl _) (by omega) hx
set_option maxHeartbeats 8000000 in
theorem iEnT_spec (s : Stg) (run : List Tf) (hB : StgB s) (hn : run.length ≤ 100000) (hr : ∀ x, x ∈ run → -1000000 ≤ x.tm ∧ x.tm ≤ 1000000 ∧ -1000000 ≤ x.t ∧ x.t ≤ 1000000) : ASpec Tryz.prog 11 [stgA s, .d (vTfs run)] [] (Pure1 (.tup [.d (vI (entR s run).1), aT (entR s run).2])) := by
 have hV := iIsValidSTG_spec s hB.L
 have hT := areTimes_spec run hn
 have hR : entR s run = if (goodS s && timesB run) = true then (if (firedQ s.net run (newK s)).2 = true then ((firedQ s.net run (newK s)).1.since, true) else ([], false)) else ([], false) := rfl
 have hN0 := newClock_spec s hB
 have hK0 := newK_I (s := s)
 have hti := timesB_in (run := run)
 obtain ⟨b1, hb1⟩ : ∃ b, b = goodS s := ⟨_, rfl⟩
 obtain ⟨b2, hb2⟩ : ∃ b, b = timesB run := ⟨_, rfl⟩
 rw [← hb1] at hV hR
 rw [← hb2] at hT hR hti
 obtain ⟨Z, hZ⟩ : ∃ Z, Z = firedQ s.net run (newK s) := ⟨_, rfl⟩
 rw [← hZ] at hR
 obtain ⟨R, hRR⟩ : ∃ R, R = entR s run := ⟨_, rfl⟩
 rw [← hRR] at hR ⊢
 clear hb2 hRR
 refine ASpec.of Tryz.func11 rfl rfl fun C hC => ?_
 refine AC.seq ?_
 refine AC.region ?_
 refine AL.q (by exact h_boxF rfl rfl) rfl ?_
 refine AL.p (by exact as1 rfl) rfl ?_
 refine AL.p (by exact as1 rfl) rfl ?_
 refine AL.nil ?_
 refine th_n ?_
 refine AC.seq ?_
 refine AC.seq ?_
 refine AC.region ?_
 refine AL.p (by exact g_load_refN rfl rfl rfl rfl) rfl ?_
 refine AL.q (by exact h_pure en_iIsValidSTG rfl rfl (by repeat (first | exact rfl | exact DLead.same | refine ⟨_, _, rfl, ?_, ?_⟩ | refine ⟨_, rfl, ?_⟩)) hV rfl) rfl ?_
 refine AL.p (by exact g_not rfl) rfl ?_
 refine AL.p (by exact mv1 rfl) rfl ?_
 refine AL.caseGB rfl rfl (fun h0 => ?_) (fun h0 => ?_)
 ·refine AL.not rfl rfl rfl rfl rfl ?_
  refine AL.not rfl rfl rfl rfl rfl ?_
  refine AL.not rfl rfl rfl rfl rfl ?_
  refine AL.p (by exact g_pickT (r := .d _) rfl rfl) rfl ?_
  refine AL.nil ?_
  refine th_n ?_
  refine AC.condT rfl ?_
  refine AC.seq ?_
  refine AC.region ?_
  refine AL.p (by exact as1 rfl) rfl ?_
  refine AL.p (by exact as1 rfl) rfl ?_
  refine AL.nil ?_
  refine th_n ?_
  refine AC.ret ?_
  refine th_r ?_
  refine bq_r ?_
  have q0 : b1 = false ∨ (b1 = true ∧ b2 = false) := by exact .inl (by simpa using h0)
  have e : R = ([], false) := by rcases q0 with q | ⟨q, q'⟩ <;> rw [hR, q]; rfl; rw [q']; rfl
  exact ret0 rfl (by rw [e]; repeat (first | exact rfl | exact DLead.same | exact DLead.nil | refine ⟨_, _, rfl, ?_, ?_⟩ | refine ⟨_, rfl, ?_⟩))
 ·refine AL.yes rfl rfl rfl ?_
  refine AL.p (by exact mv1 rfl) rfl ?_
  refine AL.yes rfl rfl rfl ?_
  refine AL.q (by exact h_pure en_areTimes rfl rfl (by repeat (first | exact rfl | exact DLead.same | refine ⟨_, _, rfl, ?_, ?_⟩)) hT rfl) rfl ?_
  refine AL.yes rfl rfl rfl ?_
  refine AL.p (by exact g_not rfl) rfl ?_
  refine AL.p (by exact g_pickF (r := .d _) rfl rfl) rfl ?_
  refine AL.nil ?_
  refine th_n ?_
  refine AC.condB rfl (fun h1 => ?_) (fun h1 => ?_)
  ·refine AC.seq ?_
   refine AC.region ?_
   refine AL.p (by exact as1 rfl) rfl ?_
   refine AL.p (by exact as1 rfl) rfl ?_
   refine AL.nil ?_
   refine th_n ?_
   refine AC.ret ?_
   refine th_r ?_
   refine bq_r ?_
   have q0 : b1 = false ∨ (b1 = true ∧ b2 = false) := by exact .inr ⟨by simpa using h0, by simpa using h1⟩
   have e : R = ([], false) := by rcases q0 with q | ⟨q, q'⟩ <;> rw [hR, q]; rfl; rw [q']; rfl
   exact ret0 rfl (by rw [e]; repeat (first | exact rfl | exact DLead.same | exact DLead.nil | refine ⟨_, _, rfl, ?_, ?_⟩ | refine ⟨_, rfl, ?_⟩))
  ·refine AC.skip ?_
   refine th_n ?_
   refine AC.seq ?_
   have q1 : b1 = true := by simpa using h0
   have q2 : b2 = true := by simpa using h1
   have hRe := hR.trans (if_pos (by rw [q1, q2]; rfl))
   have hg : goodS s = true := by rw [← hb1]; exact q1
   have hN := hN0 hg
   have hK := (hK0 hg).mono (T' := 1000000) (by omega)
   have htt := hti q2
   obtain ⟨K, hKK⟩ : ∃ K, K = newK s := ⟨_, rfl⟩
   rw [← hKK] at hK hN hZ
   clear hKK hN0 hK0 hti hR
   refine AC.region ?_
   refine AL.p (by exact g_load_refN rfl rfl rfl rfl) rfl ?_
   refine AL.q (by exact h_fun (cs := []) en_newClock rfl rfl (by repeat (first | exact rfl | exact DLead.same | refine ⟨_, _, rfl, ?_, ?_⟩ | refine ⟨_, rfl, ?_⟩)) (by repeat (exact True.intro)) hN rfl rfl rfl rfl) rfl ?_
   refine AL.p (by exact as3 rfl) rfl ?_
   refine AL.nil ?_
   refine th_n ?_
   refine AC.seq ?_
   refine AC.seq ?_
   refine AC.region ?_
   refine AL.p (by exact mv1 rfl) rfl ?_
   refine AL.p (by exact g_len_view (k := run.length) rfl rfl (tfL_len _)) rfl ?_
   refine AL.p (by exact mv1 rfl) rfl ?_
   refine AL.nil ?_
   refine th_n ?_
   refine AC.block ?_
   refine AC.loop (ι := Nat × Ck) (fun x => ⟨37, 900, [(6, .ptr 100 0), (19, .d (vTfs run)), (20, aI run.length), (21, aI x.1)], chL (ckChs s x.2 100 101)⟩) (fun x => x.1 ≤ run.length ∧ CkI s.net x.2 1000000 ∧ firedQ s.net (run.drop x.1) x.2 = Z) (fun x => run.length - x.1) ((0, K)) ?_ (⟨Nat.zero_le _, hK, hZ.symm⟩) ?_
   ·exact Weak.ren _ [(100, _), (101, _)] hC rfl (by repeat (first | exact True.intro | refine And.intro ?_ ?_ | exact DLead.same | exact rfl | refine ⟨_, rfl, ?_⟩)) (by repeat (first | exact True.intro | refine And.intro ?_ ?_ | exact DLead.same | exact rfl | refine ⟨_, _, rfl, rfl, ?_⟩ | refine ⟨_, rfl, ?_⟩ | refine ⟨_, _, rfl, ?_, ?_⟩)) rfl rfl rfl
   ·rintro ⟨k, c⟩ ⟨hk, hI, hrun⟩
    dsimp only at hk hI hrun ⊢
    refine AC.seq ?_
    refine AC.region ?_
    refine AL.p (by exact g_cmp rfl rfl rfl) rfl ?_
    refine AL.nil ?_
    refine th_n ?_
    refine AC.seq ?_
    refine AC.condD rfl (fun h2 => ?_) (fun h2 => ?_)
    ·refine AC.skip ?_
     refine th_n ?_
     refine AC.seq ?_
     refine AC.block ?_
     refine AC.seq ?_
     have hk1 : k < run.length := by omega
     have hget := tfL_get hk1
     have hxb := hr _ (List.getElem_mem hk1)
     have hx0 := htt.2 k hk1
     rw [fAt_nat hk1] at hx0
     have hdrop : run.drop k = run[k] :: run.drop (k + 1) := List.drop_eq_getElem_cons hk1
     rw [hdrop, firedQ] at hrun
     obtain ⟨x, hx⟩ : ∃ x, x = run[k] := ⟨_, rfl⟩
     rw [← hx] at hget hxb hx0 hrun
     have hFi := ckFire_spec s c x.t x.tm hB hg hI.m hI.len
     have hok := fireP_ok hI x
     have hCI := okF_I (x := x) hI ⟨hx0, hxb.2.1⟩
     obtain ⟨G, hG⟩ : ∃ G, G = fireP s.net c x.t x.tm := ⟨_, rfl⟩
     rw [← hG] at hFi hok
     clear hx hG
     refine AC.region ?_
     refine AL.p (by exact g_ia_view rfl rfl rfl rfl rfl (by rfl) (by assumption)) rfl ?_
     refine AL.p (by exact g_load_refN rfl rfl rfl rfl) rfl ?_
     refine AL.q (by exact h_alloc rfl) rfl ?_
     refine AL.q (by exact h_store rfl rfl rfl rfl rfl rfl) rfl ?_
     refine AL.nil ?_
     refine th_n ?_
     refine AC.seq ?_
     refine AC.region ?_
     refine AL.p (by exact mv3 rfl) rfl ?_
     refine AL.p (by exact g_fa_ptr rfl rfl rfl rfl rfl) rfl ?_
     refine AL.p (by exact g_load_ptr rfl rfl rfl rfl rfl) rfl ?_
     refine AL.p (by exact g_fa_ptr rfl rfl rfl rfl rfl) rfl ?_
     refine AL.p (by exact g_load_ptr rfl rfl rfl rfl rfl) rfl ?_
     refine AL.q (by exact h_fun (cs := [100, 101]) en_ckFire rfl rfl (by repeat (first | exact rfl | exact DLead.same | refine ⟨_, _, rfl, ?_, ?_⟩ | refine ⟨_, rfl, ?_⟩)) (by repeat (first | exact True.intro | refine And.intro ?_ ?_ | exact DLead.same | exact rfl | refine ⟨_, _, rfl, rfl, ?_⟩ | refine ⟨_, rfl, ?_⟩ | refine ⟨_, _, rfl, ?_, ?_⟩)) hFi rfl rfl rfl rfl) rfl ?_
     refine AL.p (by exact g_not rfl) rfl ?_
     refine AL.nil ?_
     refine th_n ?_
     refine AC.condB rfl (fun h3 => ?_) (fun h3 => ?_)
     ·refine AC.seq ?_
      refine AC.region ?_
      refine AL.p (by exact as1 rfl) rfl ?_
      refine AL.p (by exact as1 rfl) rfl ?_
      refine AL.nil ?_
      refine th_n ?_
      refine AC.ret ?_
      refine ib_r ?_
      refine th_r ?_
      refine th_r ?_
      refine ib_r ?_
      refine th_r ?_
      refine bq_r ?_
      have q3 : G.2 = false := by simpa using h3
      rw [if_neg (by rw [← hok.1, q3]; simp)] at hrun
      have e : R = ([], false) := by rw [hRe, ← hrun] <;> rfl
      exact ret0 rfl (by rw [e]; repeat (first | exact rfl | exact DLead.same | exact DLead.nil | refine ⟨_, _, rfl, ?_, ?_⟩ | refine ⟨_, rfl, ?_⟩))
     ·refine AC.skip ?_
      refine ib_n ?_
      refine th_n ?_
      refine AC.region ?_
      refine AL.p (by exact g_arith rfl rfl rfl (by exact wrap_i64 (by omega))) rfl ?_
      refine AL.p (by exact mv1 rfl) rfl ?_
      refine AL.nil ?_
      refine th_n ?_
      have q3 : okF s.net c x = true := by rw [← hok.1]; simpa using h3
      have hGQ := hok.2 q3
      rw [if_pos q3, ← hGQ] at hrun
      have hCI2 := hCI q3
      rw [← hGQ] at hCI2
      exact ⟨(k + 1, G.1), ⟨by omega, hCI2, hrun⟩, by dsimp only; omega, Weak.ren _ [(100, 100), (101, _)] hC rfl (by repeat (first | exact True.intro | refine And.intro ?_ ?_ | exact DLead.same | exact rfl | refine ⟨_, rfl, ?_⟩)) (by repeat (first | exact True.intro | refine And.intro ?_ ?_ | exact DLead.same | exact rfl | refine ⟨_, _, rfl, rfl, ?_⟩ | refine ⟨_, rfl, ?_⟩ | refine ⟨_, _, rfl, ?_, ?_⟩)) rfl rfl rfl⟩
    ·refine AC.exit ?_
     refine th_e ?_
     refine th_e ?_
     refine ib_y ?_
     refine th_n ?_
     refine AC.seq ?_
     refine AC.region ?_
     refine AL.p (by exact mv3 rfl) rfl ?_
     refine AL.p (by exact g_nilP rfl) rfl ?_
     refine AL.p (by exact g_fa_ptr rfl rfl rfl rfl rfl) rfl ?_
     refine AL.p (by exact g_load_ptr rfl rfl rfl rfl rfl) rfl ?_
     refine AL.p (by exact as2 rfl) rfl ?_
     refine AL.p (by exact as1 rfl) rfl ?_
     refine AL.nil ?_
     refine th_n ?_
     refine AC.weak (Weak.freeze (i := 4) rfl rfl (ownl _ _) (ownt _ _)) ?_
     refine AC.ret ?_
     refine bq_r ?_
     have e : k = run.length := by omega
     rw [e, List.drop_length, firedQ] at hrun
     have e2 : R = (c.since, true) := by rw [hRe, ← hrun] <;> rfl
     exact ret0 rfl (by rw [e2]; repeat (first | exact rfl | exact DLead.same | refine ⟨_, _, rfl, ?_, ?_⟩ | refine ⟨_, rfl, ?_⟩))
theorem en_iEnT : Enters Tryz.prog 11 := enters_of Tryz.func11 rfl rfl
set_option maxHeartbeats 8000000 in
theorem l23Fired_ok (s : Stg) (run : List Tf) (hB : StgB s) (hn : run.length ≤ 100000) (hr : ∀ x, x ∈ run → -1000000 ≤ x.tm ∧ x.tm ≤ 1000000 ∧ -1000000 ≤ x.t ∧ x.t ≤ 1000000) (hok : (goodS s && timesB run) = true ∧ (firedQ s.net run (newK s)).2 = true) : ASpec Tryz.prog 37 [stgA s, .d (vTfs run)] [] (Fun1 (.tup [.ptr 0 0, aT true]) (lkChs s.net (firedQ s.net run (newK s)).1 0 1)) := by
 have hV := l2Good_spec s hB.L
 have hT := l23Times_spec run hn
 have hN0 := l23New_spec s hB
 have hK0 := newK_I (s := s)
 have hti := timesB_in (run := run)
 obtain ⟨b1, hb1⟩ : ∃ b, b = goodS s := ⟨_, rfl⟩
 obtain ⟨b2, hb2⟩ : ∃ b, b = timesB run := ⟨_, rfl⟩
 rw [← hb1] at hV hok
 rw [← hb2] at hT hti hok
 obtain ⟨Z, hZ⟩ : ∃ Z, Z = firedQ s.net run (newK s) := ⟨_, rfl⟩
 rw [← hZ] at hok ⊢
 have htl : goodS s = true → s.net.ts.length ≤ 24 := fun hg => by have := goodS_few hg; have := (goodS_bits hg).2.2; omega
 clear hb2
 refine ASpec.of Tryz.func37 rfl rfl fun C hC => ?_
 refine AC.seq ?_
 refine AC.region ?_
 refine AL.q (by exact h_boxF rfl rfl) rfl ?_
 refine AL.p (by exact as1 rfl) rfl ?_
 refine AL.p (by exact as1 rfl) rfl ?_
 refine AL.nil ?_
 refine th_n ?_
 refine AC.seq ?_
 refine AC.seq ?_
 refine AC.region ?_
 refine AL.p (by exact g_load_refN rfl rfl rfl rfl) rfl ?_
 refine AL.q (by exact h_pure en_l2Good rfl rfl (by repeat (first | exact rfl | exact DLead.same | refine ⟨_, _, rfl, ?_, ?_⟩ | refine ⟨_, rfl, ?_⟩)) hV rfl) rfl ?_
 refine AL.p (by exact g_not rfl) rfl ?_
 refine AL.p (by exact mv1 rfl) rfl ?_
 refine AL.caseGB rfl rfl (fun h0 => ?_) (fun h0 => ?_)
 ·refine AL.not rfl rfl rfl rfl rfl ?_
  refine AL.not rfl rfl rfl rfl rfl ?_
  refine AL.not rfl rfl rfl rfl rfl ?_
  refine AL.p (by exact g_pickT (r := .d _) rfl rfl) rfl ?_
  refine AL.nil ?_
  refine th_n ?_
  refine AC.condT rfl ?_
  refine AC.seq ?_
  refine AC.region ?_
  refine AL.p (by exact g_build rfl rfl rfl) rfl ?_
  refine AL.q (by exact h_boxF rfl rfl) rfl ?_
  refine AL.p (by exact as1 rfl) rfl ?_
  refine AL.p (by exact as1 rfl) rfl ?_
  refine AL.nil ?_
  refine th_n ?_
  refine AC.ret ?_
  refine th_r ?_
  refine bq_r ?_
  have q0 : b1 = false ∨ (b1 = true ∧ b2 = false) := by exact .inl (by simpa using h0)
  exfalso; rcases q0 with q | ⟨q, q2⟩; (have := hok.1; rw [q] at this; cases this); (have := hok.1; rw [q, q2] at this; cases this)
 ·refine AL.yes rfl rfl rfl ?_
  refine AL.p (by exact mv1 rfl) rfl ?_
  refine AL.yes rfl rfl rfl ?_
  refine AL.q (by exact h_pure en_l23Times rfl rfl (by repeat (first | exact rfl | exact DLead.same | refine ⟨_, _, rfl, ?_, ?_⟩)) hT rfl) rfl ?_
  refine AL.yes rfl rfl rfl ?_
  refine AL.p (by exact g_not rfl) rfl ?_
  refine AL.p (by exact g_pickF (r := .d _) rfl rfl) rfl ?_
  refine AL.nil ?_
  refine th_n ?_
  refine AC.condB rfl (fun h1 => ?_) (fun h1 => ?_)
  ·refine AC.seq ?_
   refine AC.region ?_
   refine AL.p (by exact g_build rfl rfl rfl) rfl ?_
   refine AL.q (by exact h_boxF rfl rfl) rfl ?_
   refine AL.p (by exact as1 rfl) rfl ?_
   refine AL.p (by exact as1 rfl) rfl ?_
   refine AL.nil ?_
   refine th_n ?_
   refine AC.ret ?_
   refine th_r ?_
   refine bq_r ?_
   have q0 : b1 = false ∨ (b1 = true ∧ b2 = false) := by exact .inr ⟨by simpa using h0, by simpa using h1⟩
   exfalso; rcases q0 with q | ⟨q, q2⟩; (have := hok.1; rw [q] at this; cases this); (have := hok.1; rw [q, q2] at this; cases this)
  ·refine AC.skip ?_
   refine th_n ?_
   refine AC.seq ?_
   have q1 : b1 = true := by simpa using h0
   have q2 : b2 = true := by simpa using h1
   have hg : goodS s = true := by rw [← hb1]; exact q1
   have hgn := (goodS_bits hg).1
   have hN := hN0 hg
   have hK := (hK0 hg).mono (T' := 1000000) (by omega)
   have htt := hti q2
   have htl2 := htl hg
   obtain ⟨K, hKK⟩ : ∃ K, K = newK s := ⟨_, rfl⟩
   rw [← hKK] at hK hN hZ
   clear hKK hN0 hK0 hti
   refine AC.region ?_
   refine AL.p (by exact g_load_refN rfl rfl rfl rfl) rfl ?_
   refine AL.q (by exact h_fun (cs := []) en_l23New rfl rfl (by repeat (first | exact rfl | exact DLead.same | refine ⟨_, _, rfl, ?_, ?_⟩ | refine ⟨_, rfl, ?_⟩)) (by repeat (exact True.intro)) hN rfl rfl rfl rfl) rfl ?_
   refine AL.p (by exact as3 rfl) rfl ?_
   refine AL.nil ?_
   refine th_n ?_
   refine AC.seq ?_
   refine AC.seq ?_
   refine AC.region ?_
   refine AL.p (by exact mv1 rfl) rfl ?_
   refine AL.p (by exact g_len_view (k := run.length) rfl rfl (tfL_len _)) rfl ?_
   refine AL.p (by exact mv1 rfl) rfl ?_
   refine AL.nil ?_
   refine th_n ?_
   refine AC.block ?_
   refine AC.loop (ι := Nat × Ck) (fun x => ⟨60, 900, [(2, .d (.ref (stgD s))), (6, .ptr 100 0), (21, .d (vTfs run)), (22, aI run.length), (23, aI x.1)], chL (lkChs s.net x.2 100 101)⟩) (fun x => x.1 ≤ run.length ∧ CkI s.net x.2 1000000 ∧ firedQ s.net (run.drop x.1) x.2 = Z) (fun x => run.length - x.1) ((0, K)) ?_ (⟨Nat.zero_le _, hK, hZ.symm⟩) ?_
   ·exact Weak.ren _ [(100, _), (101, _)] hC rfl (by repeat (first | exact True.intro | refine And.intro ?_ ?_ | exact DLead.same | exact rfl | refine ⟨_, rfl, ?_⟩)) (by repeat (first | exact True.intro | refine And.intro ?_ ?_ | exact DLead.same | exact rfl | refine ⟨_, _, rfl, rfl, ?_⟩ | refine ⟨_, rfl, ?_⟩ | refine ⟨_, _, rfl, ?_, ?_⟩)) rfl rfl rfl
   ·rintro ⟨k, c⟩ ⟨hk, hI, hrun⟩
    dsimp only at hk hI hrun ⊢
    refine AC.seq ?_
    refine AC.region ?_
    refine AL.p (by exact g_cmp rfl rfl rfl) rfl ?_
    refine AL.nil ?_
    refine th_n ?_
    refine AC.seq ?_
    refine AC.condD rfl (fun h2 => ?_) (fun h2 => ?_)
    ·refine AC.skip ?_
     refine th_n ?_
     refine AC.seq ?_
     refine AC.block ?_
     refine AC.seq ?_
     have hk1 : k < run.length := by omega
     have hget := tfL_get hk1
     have hxb := hr _ (List.getElem_mem hk1)
     have hx0 := htt.2 k hk1
     rw [fAt_nat hk1] at hx0
     have hcl := hI.len
     have hdrop : run.drop k = run[k] :: run.drop (k + 1) := List.drop_eq_getElem_cons hk1
     rw [hdrop, firedQ] at hrun
     have hL1 := l1In_spec run[k].t 0 ((s.net.ts.length : Int) - 1)
     obtain ⟨x, hx⟩ : ∃ x, x = run[k] := ⟨_, rfl⟩
     rw [← hx] at hget hxb hx0 hrun hL1
     have hch : okF s.net c x = ((decide (0 ≤ x.t) && decide (x.t ≤ (s.net.ts.length : Int) - 1)) && (decide (0 ≤ iAt c.since x.t.toNat) && (fireQ s.net c x.t.toNat x.tm).2)) := rfl
     have hTi : (decide (0 ≤ x.t) && decide (x.t ≤ (s.net.ts.length : Int) - 1)) = true → x.t = ((x.t.toNat : Nat) : Int) ∧ x.t.toNat < s.net.ts.length := fun q => by simp only [Bool.and_eq_true, decide_eq_true_eq] at q; omega
     obtain ⟨b3, hb3⟩ : ∃ b, b = (decide (0 ≤ x.t) && decide (x.t ≤ (s.net.ts.length : Int) - 1)) := ⟨_, rfl⟩
     rw [← hb3] at hL1 hch hTi
     have hrw : b3 = true → (ints c.since)[x.t.toNat]? = some [dI (iAt c.since x.t.toNat)] := fun q => ints_iAt (by have := hTi q; omega)
     have hFi : b3 = true → ASpec Tryz.prog 59 [.ptr 0 0, aI x.t, aI x.tm] (lkChs s.net c 0 1) (Fun1 (aT (fireQ s.net c x.t.toNat x.tm).2) (lkChs s.net (fireQ s.net c x.t.toNat x.tm).1 0 1)) := fun q => by have := lkFire_spec s.net c x.t.toNat x.tm hB.n hgn hI.m hI.len (hTi q).2; rwa [← (hTi q).1] at this
     have hCI := okF_I (x := x) hI ⟨hx0, hxb.2.1⟩
     obtain ⟨F, hF⟩ : ∃ F, F = fireQ s.net c x.t.toNat x.tm := ⟨_, rfl⟩
     rw [← hF] at hFi hch hrun hCI
     clear hx hb3 hF
     refine AC.region ?_
     refine AL.p (by exact g_ia_view rfl rfl rfl rfl rfl (by rfl) (by assumption)) rfl ?_
     refine AL.p (by exact g_load_refN rfl rfl rfl rfl) rfl ?_
     refine AL.q (by exact h_alloc rfl) rfl ?_
     refine AL.q (by exact h_store rfl rfl rfl rfl rfl rfl) rfl ?_
     refine AL.nil ?_
     refine th_n ?_
     refine AC.seq ?_
     refine AC.drawn' mixed_ok [[], [0], [], [2], [2,3], [2,3,4], [2,3,4,5], [0,1,2,3,4,5,6], [0,1,2,3,4,5,6,7], [0,1,2,3,4,5,6,7,8], [0,1,2,3,4,5,6,7,8,9], [0,1,2,3,4,5,6,7,8,9,10], [0,1,2,3,4,5,6,7,8,9,10,11], [0,1,2,3,4,5,6,7,8,9,10,11,12], [0,1,2,3,4,5,6,7,8,9], [0,1,2,3,4,5,6,7,8,9,14], [0,1,2,3,4,5,6,7,8,9,10,11,12,13,14,15], [0,1,2,3,4,5,6,7,8,9,10,11,12,13,14,15,16], [0,1,2,3,4,5,6,7,8,9,10,11,12,13,14,15,16,17], [0,1,2,3,4,5,6,7,8,9,10,11,12,13,14,15,16,17,18], [0,1,2,3,4,5,6,7,8,9,10,11,12,13,14,15,16,17,18,19], [0,1,2,3,4,5,6,7,8,9,10,11,12,13,14,15,16,17,18,19,20], [0,1,2,3,4,5,6,7,8,9,10,11,12,13,14,15,16,17,18,19,20], [0,1,2,3,4,5,6,7,8,9,10,11,12,13,14,15,16,17,18,19,20,22], [0,1,2,3,4,5,6,7,8,9,10,11,12,13,14,15,16,17,18,19,20], [0,1,2,3,4,5,6,7,8,9,10,11,12,13,14,15,16,17,18,19,20,24], [0,1,2,3,4,5,6,7,8,9,10,11,12,13,14,15,16,17,18,19,20,21,22,23,24,25], [0,1,2,3,4,5,6,7,8,9,10,11,12,13,14,15,16,17,18,19,20,21,22,23,24,25,26], [0,1,2,3,4,5,6,7,8,9,10,11,12,13,14,15,16,17,18,19,20,21,22,23,24,25,26,27]] (by decide) ?_
     refine DF.op 0 [] 29 rfl rfl rfl (.free rfl (NOp.of (by exact g_fa_ptr rfl rfl rfl rfl rfl))) rfl ?_
     refine DF.op 1 [0] 29 rfl rfl rfl (.free rfl (NOp.of (by exact g_load_ptr rfl rfl rfl rfl rfl))) rfl ?_
     refine DF.op 2 [] 29 rfl rfl rfl (.free rfl (NOp.of (by exact g_fa_ref rfl rfl rfl rfl rfl rfl))) rfl ?_
     refine DF.op 3 [2] 29 rfl rfl rfl (.free rfl (NOp.of (by exact g_fa_ref rfl rfl rfl rfl rfl rfl))) rfl ?_
     refine DF.op 4 [2,3] 29 rfl rfl rfl (.free rfl (NOp.of (by exact g_load_ref rfl rfl rfl))) rfl ?_
     refine DF.op 5 [2,3,4] 29 rfl rfl rfl (.free rfl (NOp.of (by exact g_len_view (k := s.net.ts.length) rfl rfl (tsL_len _)))) rfl ?_
     refine DF.op 6 [2,3,4,5] 29 rfl rfl rfl (.free rfl (NOp.of (by exact g_arith rfl rfl rfl (by exact wrap_i64 (by omega))))) rfl ?_
     refine DF.op 7 [0,1,2,3,4,5,6] 29 rfl rfl rfl (.free rfl (by exact h_pure en_l1In rfl rfl (by repeat (first | exact rfl | exact DLead.same | refine ⟨_, _, rfl, ?_, ?_⟩)) hL1 rfl)) rfl ?_
     refine DF.op 8 [0,1,2,3,4,5,6,7] 29 rfl rfl rfl (.free rfl (NOp.of (by exact g_not rfl))) rfl ?_
     refine DF.op 9 [0,1,2,3,4,5,6,7,8] 29 rfl rfl rfl (.free rfl (NOp.of (by exact mv1 rfl))) rfl ?_
     refine DF.caseB 9 rfl (fun h3 => ?_) (fun h3 => ?_)
     ·refine DF.op (ids := []) 10 [0,1,2,3,4,5,6,7,8,9] 29 rfl rfl rfl (.no rfl rfl rfl rfl rfl rfl) rfl ?_
      refine DF.op (ids := []) 11 [0,1,2,3,4,5,6,7,8,9,10] 29 rfl rfl rfl (.no rfl rfl rfl rfl rfl rfl) rfl ?_
      refine DF.op (ids := []) 12 [0,1,2,3,4,5,6,7,8,9,10,11] 29 rfl rfl rfl (.no rfl rfl rfl rfl rfl rfl) rfl ?_
      refine DF.op (ids := []) 13 [0,1,2,3,4,5,6,7,8,9,10,11,12] 29 rfl rfl rfl (.no rfl rfl rfl rfl rfl rfl) rfl ?_
      refine DF.op (ids := []) 14 [0,1,2,3,4,5,6,7,8,9] 29 rfl rfl rfl (.no rfl rfl rfl rfl rfl rfl) rfl ?_
      refine DF.op (ids := []) 15 [0,1,2,3,4,5,6,7,8,9,14] 29 rfl rfl rfl (.no rfl rfl rfl rfl rfl rfl) rfl ?_
      refine DF.op (ids := []) 16 [0,1,2,3,4,5,6,7,8,9,10,11,12,13,14,15] 29 rfl rfl rfl (.no rfl rfl rfl rfl rfl rfl) rfl ?_
      refine DF.op (ids := []) 17 [0,1,2,3,4,5,6,7,8,9,10,11,12,13,14,15,16] 29 rfl rfl rfl (.no rfl rfl rfl rfl rfl rfl) rfl ?_
      refine DF.op (ids := []) 18 [0,1,2,3,4,5,6,7,8,9,10,11,12,13,14,15,16,17] 29 rfl rfl rfl (.no rfl rfl rfl rfl rfl rfl) rfl ?_
      refine DF.op 19 [0,1,2,3,4,5,6,7,8,9,10,11,12,13,14,15,16,17,18] 29 rfl rfl rfl (.free rfl (NOp.of (by exact g_pickT (r := .d _) rfl rfl))) rfl ?_
      refine DF.op 20 [0,1,2,3,4,5,6,7,8,9,10,11,12,13,14,15,16,17,18,19] 29 rfl rfl rfl (.free rfl (NOp.of (by exact mv1 rfl))) rfl ?_
      refine DF.op (ids := []) 21 [0,1,2,3,4,5,6,7,8,9,10,11,12,13,14,15,16,17,18,19,20] 29 rfl rfl rfl (.no rfl rfl rfl rfl rfl rfl) rfl ?_
      refine DF.op (ids := []) 22 [0,1,2,3,4,5,6,7,8,9,10,11,12,13,14,15,16,17,18,19,20] 29 rfl rfl rfl (.no rfl rfl rfl rfl rfl rfl) rfl ?_
      refine DF.op (ids := []) 23 [0,1,2,3,4,5,6,7,8,9,10,11,12,13,14,15,16,17,18,19,20,22] 29 rfl rfl rfl (.no rfl rfl rfl rfl rfl rfl) rfl ?_
      refine DF.op (ids := []) 24 [0,1,2,3,4,5,6,7,8,9,10,11,12,13,14,15,16,17,18,19,20] 29 rfl rfl rfl (.no rfl rfl rfl rfl rfl rfl) rfl ?_
      refine DF.op (ids := []) 25 [0,1,2,3,4,5,6,7,8,9,10,11,12,13,14,15,16,17,18,19,20,24] 29 rfl rfl rfl (.no rfl rfl rfl rfl rfl rfl) rfl ?_
      refine DF.op (ids := []) 26 [0,1,2,3,4,5,6,7,8,9,10,11,12,13,14,15,16,17,18,19,20,21,22,23,24,25] 29 rfl rfl rfl (.no rfl rfl rfl rfl rfl rfl) rfl ?_
      refine DF.op (ids := []) 27 [0,1,2,3,4,5,6,7,8,9,10,11,12,13,14,15,16,17,18,19,20,21,22,23,24,25,26] 29 rfl rfl rfl (.no rfl rfl rfl rfl rfl rfl) rfl ?_
      refine DF.op 28 [0,1,2,3,4,5,6,7,8,9,10,11,12,13,14,15,16,17,18,19,20,21,22,23,24,25,26,27] 29 rfl rfl rfl (.free rfl (NOp.of (by exact g_pickT (r := .d _) rfl rfl))) rfl ?_
      refine DF.fin (ps := [(0,2),(0,3),(0,4),(0,5),(0,6),(1,2),(1,3),(1,4),(1,5),(1,6),(2,0),(2,1),(3,0),(3,1),(4,0),(4,1),(5,0),(5,1),(6,0),(6,1),(10,14),(10,15),(11,14),(11,15),(12,14),(12,15),(13,14),(13,15),(14,10),(14,11),(14,12),(14,13),(15,10),(15,11),(15,12),(15,13),(21,22),(21,23),(21,24),(21,25),(22,21),(22,24),(22,25),(23,21),(23,24),(23,25),(24,21),(24,22),(24,23),(25,21),(25,22),(25,23)]) 29 rfl (by decide +kernel) (by decide +kernel) (by rfl) ?_
      refine th_n ?_
      refine AC.condT rfl ?_
      refine AC.seq ?_
      refine AC.region ?_
      refine AL.p (by exact g_build rfl rfl rfl) rfl ?_
      refine AL.q (by exact h_boxF rfl rfl) rfl ?_
      refine AL.p (by exact as1 rfl) rfl ?_
      refine AL.p (by exact as1 rfl) rfl ?_
      refine AL.nil ?_
      refine th_n ?_
      refine AC.ret ?_
      refine ib_r ?_
      refine th_r ?_
      refine th_r ?_
      refine ib_r ?_
      refine th_r ?_
      refine bq_r ?_
      have e : okF s.net c x = false := by (rw [hch, show b3 = false by simpa using h3]; rfl)
      rw [if_neg (by rw [e]; simp)] at hrun
      exfalso; have := hok.2; rw [← hrun] at this; cases this
     ·refine DF.op 10 [0,1,2,3,4,5,6,7,8,9] 29 rfl rfl rfl (.yes rfl rfl rfl rfl (NOp.of (by exact mv3 rfl))) rfl ?_
      refine DF.op 11 [0,1,2,3,4,5,6,7,8,9,10] 29 rfl rfl rfl (.yes rfl rfl rfl rfl (NOp.of (by exact g_nilP rfl))) rfl ?_
      refine DF.op 12 [0,1,2,3,4,5,6,7,8,9,10,11] 29 rfl rfl rfl (.yes rfl rfl rfl rfl (NOp.of (by exact g_fa_ptr rfl rfl rfl rfl rfl))) rfl ?_
      refine DF.op 13 [0,1,2,3,4,5,6,7,8,9,10,11,12] 29 rfl rfl rfl (.yes rfl rfl rfl rfl (NOp.of (by exact g_load_ptr rfl rfl rfl rfl rfl))) rfl ?_
      refine DF.op 14 [0,1,2,3,4,5,6,7,8,9] 29 rfl rfl rfl (.yes rfl rfl rfl rfl (NOp.of (by exact g_fa_ptr rfl rfl rfl rfl rfl))) rfl ?_
      refine DF.op 15 [0,1,2,3,4,5,6,7,8,9,14] 29 rfl rfl rfl (.yes rfl rfl rfl rfl (NOp.of (by exact g_load_ptr rfl rfl rfl rfl rfl))) rfl ?_
      refine DF.op 16 [0,1,2,3,4,5,6,7,8,9,10,11,12,13,14,15] 29 rfl rfl rfl (.yes rfl rfl rfl rfl (NOp.of (by exact g_ia_own (i := x.t.toNat) (l := c.since.length) rfl rfl rfl rfl rfl (hTi (by simpa using h3)).1 (by have := (hTi (by simpa using h3)).2; omega) (Nat.mul_one _)))) rfl ?_
      refine DF.op 17 [0,1,2,3,4,5,6,7,8,9,10,11,12,13,14,15,16] 29 rfl rfl rfl (.yes rfl rfl rfl rfl (NOp.of (by exact g_load_arr1 rfl rfl rfl rfl (hrw (by simpa using h3))))) rfl ?_
      refine DF.op 18 [0,1,2,3,4,5,6,7,8,9,10,11,12,13,14,15,16,17] 29 rfl rfl rfl (.yes rfl rfl rfl rfl (NOp.of (by exact g_cmp rfl rfl rfl))) rfl ?_
      refine DF.op 19 [0,1,2,3,4,5,6,7,8,9,10,11,12,13,14,15,16,17,18] 29 rfl rfl rfl (.free rfl (NOp.of (by exact g_pickF (r := .d _) rfl rfl))) rfl ?_
      refine DF.op 20 [0,1,2,3,4,5,6,7,8,9,10,11,12,13,14,15,16,17,18,19] 29 rfl rfl rfl (.free rfl (NOp.of (by exact mv1 rfl))) rfl ?_
      refine DF.caseD 20 rfl (fun h4 => ?_) (fun h4 => ?_)
      ·refine DF.op (ids := []) 21 [0,1,2,3,4,5,6,7,8,9,10,11,12,13,14,15,16,17,18,19,20] 29 rfl rfl rfl (.no rfl rfl rfl rfl rfl rfl) rfl ?_
       refine DF.op (ids := []) 22 [0,1,2,3,4,5,6,7,8,9,10,11,12,13,14,15,16,17,18,19,20] 29 rfl rfl rfl (.no rfl rfl rfl rfl rfl rfl) rfl ?_
       refine DF.op (ids := []) 23 [0,1,2,3,4,5,6,7,8,9,10,11,12,13,14,15,16,17,18,19,20,22] 29 rfl rfl rfl (.no rfl rfl rfl rfl rfl rfl) rfl ?_
       refine DF.op (ids := []) 24 [0,1,2,3,4,5,6,7,8,9,10,11,12,13,14,15,16,17,18,19,20] 29 rfl rfl rfl (.no rfl rfl rfl rfl rfl rfl) rfl ?_
       refine DF.op (ids := []) 25 [0,1,2,3,4,5,6,7,8,9,10,11,12,13,14,15,16,17,18,19,20,24] 29 rfl rfl rfl (.no rfl rfl rfl rfl rfl rfl) rfl ?_
       refine DF.op (ids := []) 26 [0,1,2,3,4,5,6,7,8,9,10,11,12,13,14,15,16,17,18,19,20,21,22,23,24,25] 29 rfl rfl rfl (.no rfl rfl rfl rfl rfl rfl) rfl ?_
       refine DF.op (ids := []) 27 [0,1,2,3,4,5,6,7,8,9,10,11,12,13,14,15,16,17,18,19,20,21,22,23,24,25,26] 29 rfl rfl rfl (.no rfl rfl rfl rfl rfl rfl) rfl ?_
       refine DF.op 28 [0,1,2,3,4,5,6,7,8,9,10,11,12,13,14,15,16,17,18,19,20,21,22,23,24,25,26,27] 29 rfl rfl rfl (.free rfl (NOp.of (by exact g_pickT (r := .d _) rfl rfl))) rfl ?_
       refine DF.fin (ps := [(0,2),(0,3),(0,4),(0,5),(0,6),(1,2),(1,3),(1,4),(1,5),(1,6),(2,0),(2,1),(3,0),(3,1),(4,0),(4,1),(5,0),(5,1),(6,0),(6,1),(10,14),(10,15),(11,14),(11,15),(12,14),(12,15),(13,14),(13,15),(14,10),(14,11),(14,12),(14,13),(15,10),(15,11),(15,12),(15,13),(21,22),(21,23),(21,24),(21,25),(22,21),(22,24),(22,25),(23,21),(23,24),(23,25),(24,21),(24,22),(24,23),(25,21),(25,22),(25,23)]) 29 rfl (by decide +kernel) (by decide +kernel) (by rfl) ?_
       refine th_n ?_
       refine AC.condT rfl ?_
       refine AC.seq ?_
       refine AC.region ?_
       refine AL.p (by exact g_build rfl rfl rfl) rfl ?_
       refine AL.q (by exact h_boxF rfl rfl) rfl ?_
       refine AL.p (by exact as1 rfl) rfl ?_
       refine AL.p (by exact as1 rfl) rfl ?_
       refine AL.nil ?_
       refine th_n ?_
       refine AC.ret ?_
       refine ib_r ?_
       refine th_r ?_
       refine th_r ?_
       refine ib_r ?_
       refine th_r ?_
       refine bq_r ?_
       have e : okF s.net c x = false := by (rw [hch, decide_eq_false (show ¬ 0 ≤ iAt c.since x.t.toNat by omega)]; simp)
       rw [if_neg (by rw [e]; simp)] at hrun
       exfalso; have := hok.2; rw [← hrun] at this; cases this
      ·refine DF.op 21 [0,1,2,3,4,5,6,7,8,9,10,11,12,13,14,15,16,17,18,19,20] 29 rfl rfl rfl (.yes rfl rfl rfl rfl (NOp.of (by exact mv3 rfl))) rfl ?_
       refine DF.op 22 [0,1,2,3,4,5,6,7,8,9,10,11,12,13,14,15,16,17,18,19,20] 29 rfl rfl rfl (.yes rfl rfl rfl rfl (NOp.of (by exact g_fa_ptr rfl rfl rfl rfl rfl))) rfl ?_
       refine DF.op 23 [0,1,2,3,4,5,6,7,8,9,10,11,12,13,14,15,16,17,18,19,20,22] 29 rfl rfl rfl (.yes rfl rfl rfl rfl (NOp.of (by exact g_load_ptr rfl rfl rfl rfl rfl))) rfl ?_
       refine DF.op 24 [0,1,2,3,4,5,6,7,8,9,10,11,12,13,14,15,16,17,18,19,20] 29 rfl rfl rfl (.yes rfl rfl rfl rfl (NOp.of (by exact g_fa_ptr rfl rfl rfl rfl rfl))) rfl ?_
       refine DF.op 25 [0,1,2,3,4,5,6,7,8,9,10,11,12,13,14,15,16,17,18,19,20,24] 29 rfl rfl rfl (.yes rfl rfl rfl rfl (NOp.of (by exact g_load_ptr rfl rfl rfl rfl rfl))) rfl ?_
       refine DF.op 26 [0,1,2,3,4,5,6,7,8,9,10,11,12,13,14,15,16,17,18,19,20,21,22,23,24,25] 29 rfl rfl rfl (.yes rfl rfl rfl rfl (by exact h_fun (cs := [100, 101]) en_lkFire rfl rfl (by repeat (first | exact rfl | exact DLead.same | refine ⟨_, _, rfl, ?_, ?_⟩ | refine ⟨_, rfl, ?_⟩)) (by repeat (first | exact True.intro | refine And.intro ?_ ?_ | exact DLead.same | exact rfl | refine ⟨_, _, rfl, rfl, ?_⟩ | refine ⟨_, rfl, ?_⟩ | refine ⟨_, _, rfl, ?_, ?_⟩)) (hFi (by simpa using h3)) rfl rfl rfl rfl)) rfl ?_
       refine DF.op 27 [0,1,2,3,4,5,6,7,8,9,10,11,12,13,14,15,16,17,18,19,20,21,22,23,24,25,26] 29 rfl rfl rfl (.yes rfl rfl rfl rfl (NOp.of (by exact g_not rfl))) rfl ?_
       refine DF.op 28 [0,1,2,3,4,5,6,7,8,9,10,11,12,13,14,15,16,17,18,19,20,21,22,23,24,25,26,27] 29 rfl rfl rfl (.free rfl (NOp.of (by exact g_pickF (r := .d _) rfl rfl))) rfl ?_
       refine DF.fin (ps := [(0,2),(0,3),(0,4),(0,5),(0,6),(1,2),(1,3),(1,4),(1,5),(1,6),(2,0),(2,1),(3,0),(3,1),(4,0),(4,1),(5,0),(5,1),(6,0),(6,1),(10,14),(10,15),(11,14),(11,15),(12,14),(12,15),(13,14),(13,15),(14,10),(14,11),(14,12),(14,13),(15,10),(15,11),(15,12),(15,13),(21,22),(21,23),(21,24),(21,25),(22,21),(22,24),(22,25),(23,21),(23,24),(23,25),(24,21),(24,22),(24,23),(25,21),(25,22),(25,23)]) 29 rfl (by decide +kernel) (by decide +kernel) (by rfl) ?_
       refine th_n ?_
       refine AC.condB rfl (fun h5 => ?_) (fun h5 => ?_)
       ·refine AC.seq ?_
        refine AC.region ?_
        refine AL.p (by exact g_build rfl rfl rfl) rfl ?_
        refine AL.q (by exact h_boxF rfl rfl) rfl ?_
        refine AL.p (by exact as1 rfl) rfl ?_
        refine AL.p (by exact as1 rfl) rfl ?_
        refine AL.nil ?_
        refine th_n ?_
        refine AC.ret ?_
        refine ib_r ?_
        refine th_r ?_
        refine th_r ?_
        refine ib_r ?_
        refine th_r ?_
        refine bq_r ?_
        have e : okF s.net c x = false := by (rw [hch, show F.2 = false by simpa using h5]; simp)
        rw [if_neg (by rw [e]; simp)] at hrun
        exfalso; have := hok.2; rw [← hrun] at this; cases this
       ·refine AC.skip ?_
        refine ib_n ?_
        refine th_n ?_
        refine AC.region ?_
        refine AL.p (by exact g_arith rfl rfl rfl (by exact wrap_i64 (by omega))) rfl ?_
        refine AL.p (by exact mv1 rfl) rfl ?_
        refine AL.nil ?_
        refine th_n ?_
        have e : okF s.net c x = true := by rw [hch, show b3 = true by simpa using h3, decide_eq_true (show 0 ≤ iAt c.since x.t.toNat by omega), show F.2 = true by simpa using h5]; rfl
        rw [if_pos e] at hrun
        exact ⟨(k + 1, F.1), ⟨by omega, hCI e, hrun⟩, by dsimp only; omega, Weak.ren _ [(100, 100), (101, 101)] hC rfl (by repeat (first | exact True.intro | refine And.intro ?_ ?_ | exact DLead.same | exact rfl | refine ⟨_, rfl, ?_⟩)) (by repeat (first | exact True.intro | refine And.intro ?_ ?_ | exact DLead.same | exact rfl | refine ⟨_, _, rfl, rfl, ?_⟩ | refine ⟨_, rfl, ?_⟩ | refine ⟨_, _, rfl, ?_, ?_⟩)) rfl rfl rfl⟩
    ·refine AC.exit ?_
     refine th_e ?_
     refine th_e ?_
     refine ib_y ?_
     refine th_n ?_
     refine AC.seq ?_
     refine AC.region ?_
     refine AL.p (by exact mv3 rfl) rfl ?_
     refine AL.p (by exact as3 rfl) rfl ?_
     refine AL.p (by exact as1 rfl) rfl ?_
     refine AL.nil ?_
     refine th_n ?_
     refine AC.ret ?_
     refine bq_r ?_
     have e : k = run.length := by omega
     rw [e, List.drop_length, firedQ] at hrun
     exact retN [(0, 100), (1, 101)] rfl (by repeat (first | exact rfl | exact DLead.same | refine ⟨_, _, rfl, ?_, ?_⟩ | refine ⟨_, rfl, ?_⟩)) (by rw [← hrun]; repeat (first | exact True.intro | refine And.intro ?_ ?_ | exact DLead.same | exact rfl | refine ⟨_, _, rfl, rfl, ?_⟩ | refine ⟨_, rfl, ?_⟩ | refine ⟨_, _, rfl, ?_, ?_⟩)) rfl rfl
theorem en_l23Fired : Enters Tryz.prog 37 := enters_of Tryz.func37 rfl rfl
set_option maxHeartbeats 8000000 in
theorem l23Fired_no (s : Stg) (run : List Tf) (hB : StgB s) (hn : run.length ≤ 100000) (hr : ∀ x, x ∈ run → -1000000 ≤ x.tm ∧ x.tm ≤ 1000000 ∧ -1000000 ≤ x.t ∧ x.t ≤ 1000000) (hok : ¬ ((goodS s && timesB run) = true ∧ (firedQ s.net run (newK s)).2 = true)) : ASpec Tryz.prog 37 [stgA s, .d (vTfs run)] [] (Pure1 (.tup [.dead, aT false])) := by
 have hV := l2Good_spec s hB.L
 have hT := l23Times_spec run hn
 have hN0 := l23New_spec s hB
 have hK0 := newK_I (s := s)
 have hti := timesB_in (run := run)
 obtain ⟨b1, hb1⟩ : ∃ b, b = goodS s := ⟨_, rfl⟩
 obtain ⟨b2, hb2⟩ : ∃ b, b = timesB run := ⟨_, rfl⟩
 rw [← hb1] at hV hok
 rw [← hb2] at hT hti hok
 obtain ⟨Z, hZ⟩ : ∃ Z, Z = firedQ s.net run (newK s) := ⟨_, rfl⟩
 rw [← hZ] at hok
 have htl : goodS s = true → s.net.ts.length ≤ 24 := fun hg => by have := goodS_few hg; have := (goodS_bits hg).2.2; omega
 clear hb2
 refine ASpec.of Tryz.func37 rfl rfl fun C hC => ?_
 refine AC.seq ?_
 refine AC.region ?_
 refine AL.q (by exact h_boxF rfl rfl) rfl ?_
 refine AL.p (by exact as1 rfl) rfl ?_
 refine AL.p (by exact as1 rfl) rfl ?_
 refine AL.nil ?_
 refine th_n ?_
 refine AC.seq ?_
 refine AC.seq ?_
 refine AC.region ?_
 refine AL.p (by exact g_load_refN rfl rfl rfl rfl) rfl ?_
 refine AL.q (by exact h_pure en_l2Good rfl rfl (by repeat (first | exact rfl | exact DLead.same | refine ⟨_, _, rfl, ?_, ?_⟩ | refine ⟨_, rfl, ?_⟩)) hV rfl) rfl ?_
 refine AL.p (by exact g_not rfl) rfl ?_
 refine AL.p (by exact mv1 rfl) rfl ?_
 refine AL.caseGB rfl rfl (fun h0 => ?_) (fun h0 => ?_)
 ·refine AL.not rfl rfl rfl rfl rfl ?_
  refine AL.not rfl rfl rfl rfl rfl ?_
  refine AL.not rfl rfl rfl rfl rfl ?_
  refine AL.p (by exact g_pickT (r := .d _) rfl rfl) rfl ?_
  refine AL.nil ?_
  refine th_n ?_
  refine AC.condT rfl ?_
  refine AC.seq ?_
  refine AC.region ?_
  refine AL.p (by exact g_build rfl rfl rfl) rfl ?_
  refine AL.q (by exact h_boxF rfl rfl) rfl ?_
  refine AL.p (by exact as1 rfl) rfl ?_
  refine AL.p (by exact as1 rfl) rfl ?_
  refine AL.nil ?_
  refine th_n ?_
  refine AC.ret ?_
  refine th_r ?_
  refine bq_r ?_
  have q0 : b1 = false ∨ (b1 = true ∧ b2 = false) := by exact .inl (by simpa using h0)
  exact ret0 rfl (by repeat (first | exact True.intro | exact DLead.same | exact rfl | refine ⟨_, rfl, ?_⟩ | refine ⟨_, _, rfl, ?_, ?_⟩))
 ·refine AL.yes rfl rfl rfl ?_
  refine AL.p (by exact mv1 rfl) rfl ?_
  refine AL.yes rfl rfl rfl ?_
  refine AL.q (by exact h_pure en_l23Times rfl rfl (by repeat (first | exact rfl | exact DLead.same | refine ⟨_, _, rfl, ?_, ?_⟩)) hT rfl) rfl ?_
  refine AL.yes rfl rfl rfl ?_
  refine AL.p (by exact g_not rfl) rfl ?_
  refine AL.p (by exact g_pickF (r := .d _) rfl rfl) rfl ?_
  refine AL.nil ?_
  refine th_n ?_
  refine AC.condB rfl (fun h1 => ?_) (fun h1 => ?_)
  ·refine AC.seq ?_
   refine AC.region ?_
   refine AL.p (by exact g_build rfl rfl rfl) rfl ?_
   refine AL.q (by exact h_boxF rfl rfl) rfl ?_
   refine AL.p (by exact as1 rfl) rfl ?_
   refine AL.p (by exact as1 rfl) rfl ?_
   refine AL.nil ?_
   refine th_n ?_
   refine AC.ret ?_
   refine th_r ?_
   refine bq_r ?_
   have q0 : b1 = false ∨ (b1 = true ∧ b2 = false) := by exact .inr ⟨by simpa using h0, by simpa using h1⟩
   exact ret0 rfl (by repeat (first | exact True.intro | exact DLead.same | exact rfl | refine ⟨_, rfl, ?_⟩ | refine ⟨_, _, rfl, ?_, ?_⟩))
  ·refine AC.skip ?_
   refine th_n ?_
   refine AC.seq ?_
   have q1 : b1 = true := by simpa using h0
   have q2 : b2 = true := by simpa using h1
   have hg : goodS s = true := by rw [← hb1]; exact q1
   have hgn := (goodS_bits hg).1
   have hN := hN0 hg
   have hK := (hK0 hg).mono (T' := 1000000) (by omega)
   have htt := hti q2
   have htl2 := htl hg
   obtain ⟨K, hKK⟩ : ∃ K, K = newK s := ⟨_, rfl⟩
   rw [← hKK] at hK hN hZ
   clear hKK hN0 hK0 hti
   refine AC.region ?_
   refine AL.p (by exact g_load_refN rfl rfl rfl rfl) rfl ?_
   refine AL.q (by exact h_fun (cs := []) en_l23New rfl rfl (by repeat (first | exact rfl | exact DLead.same | refine ⟨_, _, rfl, ?_, ?_⟩ | refine ⟨_, rfl, ?_⟩)) (by repeat (exact True.intro)) hN rfl rfl rfl rfl) rfl ?_
   refine AL.p (by exact as3 rfl) rfl ?_
   refine AL.nil ?_
   refine th_n ?_
   refine AC.seq ?_
   refine AC.seq ?_
   refine AC.region ?_
   refine AL.p (by exact mv1 rfl) rfl ?_
   refine AL.p (by exact g_len_view (k := run.length) rfl rfl (tfL_len _)) rfl ?_
   refine AL.p (by exact mv1 rfl) rfl ?_
   refine AL.nil ?_
   refine th_n ?_
   refine AC.block ?_
   refine AC.loop (ι := Nat × Ck) (fun x => ⟨60, 900, [(2, .d (.ref (stgD s))), (6, .ptr 100 0), (21, .d (vTfs run)), (22, aI run.length), (23, aI x.1)], chL (lkChs s.net x.2 100 101)⟩) (fun x => x.1 ≤ run.length ∧ CkI s.net x.2 1000000 ∧ firedQ s.net (run.drop x.1) x.2 = Z) (fun x => run.length - x.1) ((0, K)) ?_ (⟨Nat.zero_le _, hK, hZ.symm⟩) ?_
   ·exact Weak.ren _ [(100, _), (101, _)] hC rfl (by repeat (first | exact True.intro | refine And.intro ?_ ?_ | exact DLead.same | exact rfl | refine ⟨_, rfl, ?_⟩)) (by repeat (first | exact True.intro | refine And.intro ?_ ?_ | exact DLead.same | exact rfl | refine ⟨_, _, rfl, rfl, ?_⟩ | refine ⟨_, rfl, ?_⟩ | refine ⟨_, _, rfl, ?_, ?_⟩)) rfl rfl rfl
   ·rintro ⟨k, c⟩ ⟨hk, hI, hrun⟩
    dsimp only at hk hI hrun ⊢
    refine AC.seq ?_
    refine AC.region ?_
    refine AL.p (by exact g_cmp rfl rfl rfl) rfl ?_
    refine AL.nil ?_
    refine th_n ?_
    refine AC.seq ?_
    refine AC.condD rfl (fun h2 => ?_) (fun h2 => ?_)
    ·refine AC.skip ?_
     refine th_n ?_
     refine AC.seq ?_
     refine AC.block ?_
     refine AC.seq ?_
     have hk1 : k < run.length := by omega
     have hget := tfL_get hk1
     have hxb := hr _ (List.getElem_mem hk1)
     have hx0 := htt.2 k hk1
     rw [fAt_nat hk1] at hx0
     have hcl := hI.len
     have hdrop : run.drop k = run[k] :: run.drop (k + 1) := List.drop_eq_getElem_cons hk1
     rw [hdrop, firedQ] at hrun
     have hL1 := l1In_spec run[k].t 0 ((s.net.ts.length : Int) - 1)
     obtain ⟨x, hx⟩ : ∃ x, x = run[k] := ⟨_, rfl⟩
     rw [← hx] at hget hxb hx0 hrun hL1
     have hch : okF s.net c x = ((decide (0 ≤ x.t) && decide (x.t ≤ (s.net.ts.length : Int) - 1)) && (decide (0 ≤ iAt c.since x.t.toNat) && (fireQ s.net c x.t.toNat x.tm).2)) := rfl
     have hTi : (decide (0 ≤ x.t) && decide (x.t ≤ (s.net.ts.length : Int) - 1)) = true → x.t = ((x.t.toNat : Nat) : Int) ∧ x.t.toNat < s.net.ts.length := fun q => by simp only [Bool.and_eq_true, decide_eq_true_eq] at q; omega
     obtain ⟨b3, hb3⟩ : ∃ b, b = (decide (0 ≤ x.t) && decide (x.t ≤ (s.net.ts.length : Int) - 1)) := ⟨_, rfl⟩
     rw [← hb3] at hL1 hch hTi
     have hrw : b3 = true → (ints c.since)[x.t.toNat]? = some [dI (iAt c.since x.t.toNat)] := fun q => ints_iAt (by have := hTi q; omega)
     have hFi : b3 = true → ASpec Tryz.prog 59 [.ptr 0 0, aI x.t, aI x.tm] (lkChs s.net c 0 1) (Fun1 (aT (fireQ s.net c x.t.toNat x.tm).2) (lkChs s.net (fireQ s.net c x.t.toNat x.tm).1 0 1)) := fun q => by have := lkFire_spec s.net c x.t.toNat x.tm hB.n hgn hI.m hI.len (hTi q).2; rwa [← (hTi q).1] at this
     have hCI := okF_I (x := x) hI ⟨hx0, hxb.2.1⟩
     obtain ⟨F, hF⟩ : ∃ F, F = fireQ s.net c x.t.toNat x.tm := ⟨_, rfl⟩
     rw [← hF] at hFi hch hrun hCI
     clear hx hb3 hF
     refine AC.region ?_
     refine AL.p (by exact g_ia_view rfl rfl rfl rfl rfl (by rfl) (by assumption)) rfl ?_
     refine AL.p (by exact g_load_refN rfl rfl rfl rfl) rfl ?_
     refine AL.q (by exact h_alloc rfl) rfl ?_
     refine AL.q (by exact h_store rfl rfl rfl rfl rfl rfl) rfl ?_
     refine AL.nil ?_
     refine th_n ?_
     refine AC.seq ?_
     refine AC.drawn' mixed_ok [[], [0], [], [2], [2,3], [2,3,4], [2,3,4,5], [0,1,2,3,4,5,6], [0,1,2,3,4,5,6,7], [0,1,2,3,4,5,6,7,8], [0,1,2,3,4,5,6,7,8,9], [0,1,2,3,4,5,6,7,8,9,10], [0,1,2,3,4,5,6,7,8,9,10,11], [0,1,2,3,4,5,6,7,8,9,10,11,12], [0,1,2,3,4,5,6,7,8,9], [0,1,2,3,4,5,6,7,8,9,14], [0,1,2,3,4,5,6,7,8,9,10,11,12,13,14,15], [0,1,2,3,4,5,6,7,8,9,10,11,12,13,14,15,16], [0,1,2,3,4,5,6,7,8,9,10,11,12,13,14,15,16,17], [0,1,2,3,4,5,6,7,8,9,10,11,12,13,14,15,16,17,18], [0,1,2,3,4,5,6,7,8,9,10,11,12,13,14,15,16,17,18,19], [0,1,2,3,4,5,6,7,8,9,10,11,12,13,14,15,16,17,18,19,20], [0,1,2,3,4,5,6,7,8,9,10,11,12,13,14,15,16,17,18,19,20], [0,1,2,3,4,5,6,7,8,9,10,11,12,13,14,15,16,17,18,19,20,22], [0,1,2,3,4,5,6,7,8,9,10,11,12,13,14,15,16,17,18,19,20], [0,1,2,3,4,5,6,7,8,9,10,11,12,13,14,15,16,17,18,19,20,24], [0,1,2,3,4,5,6,7,8,9,10,11,12,13,14,15,16,17,18,19,20,21,22,23,24,25], [0,1,2,3,4,5,6,7,8,9,10,11,12,13,14,15,16,17,18,19,20,21,22,23,24,25,26], [0,1,2,3,4,5,6,7,8,9,10,11,12,13,14,15,16,17,18,19,20,21,22,23,24,25,26,27]] (by decide) ?_
     refine DF.op 0 [] 29 rfl rfl rfl (.free rfl (NOp.of (by exact g_fa_ptr rfl rfl rfl rfl rfl))) rfl ?_
     refine DF.op 1 [0] 29 rfl rfl rfl (.free rfl (NOp.of (by exact g_load_ptr rfl rfl rfl rfl rfl))) rfl ?_
     refine DF.op 2 [] 29 rfl rfl rfl (.free rfl (NOp.of (by exact g_fa_ref rfl rfl rfl rfl rfl rfl))) rfl ?_
     refine DF.op 3 [2] 29 rfl rfl rfl (.free rfl (NOp.of (by exact g_fa_ref rfl rfl rfl rfl rfl rfl))) rfl ?_
     refine DF.op 4 [2,3] 29 rfl rfl rfl (.free rfl (NOp.of (by exact g_load_ref rfl rfl rfl))) rfl ?_
     refine DF.op 5 [2,3,4] 29 rfl rfl rfl (.free rfl (NOp.of (by exact g_len_view (k := s.net.ts.length) rfl rfl (tsL_len _)))) rfl ?_
     refine DF.op 6 [2,3,4,5] 29 rfl rfl rfl (.free rfl (NOp.of (by exact g_arith rfl rfl rfl (by exact wrap_i64 (by omega))))) rfl ?_
     refine DF.op 7 [0,1,2,3,4,5,6] 29 rfl rfl rfl (.free rfl (by exact h_pure en_l1In rfl rfl (by repeat (first | exact rfl | exact DLead.same | refine ⟨_, _, rfl, ?_, ?_⟩)) hL1 rfl)) rfl ?_
     refine DF.op 8 [0,1,2,3,4,5,6,7] 29 rfl rfl rfl (.free rfl (NOp.of (by exact g_not rfl))) rfl ?_
     refine DF.op 9 [0,1,2,3,4,5,6,7,8] 29 rfl rfl rfl (.free rfl (NOp.of (by exact mv1 rfl))) rfl ?_
     refine DF.caseB 9 rfl (fun h3 => ?_) (fun h3 => ?_)
     ·refine DF.op (ids := []) 10 [0,1,2,3,4,5,6,7,8,9] 29 rfl rfl rfl (.no rfl rfl rfl rfl rfl rfl) rfl ?_
      refine DF.op (ids := []) 11 [0,1,2,3,4,5,6,7,8,9,10] 29 rfl rfl rfl (.no rfl rfl rfl rfl rfl rfl) rfl ?_
      refine DF.op (ids := []) 12 [0,1,2,3,4,5,6,7,8,9,10,11] 29 rfl rfl rfl (.no rfl rfl rfl rfl rfl rfl) rfl ?_
      refine DF.op (ids := []) 13 [0,1,2,3,4,5,6,7,8,9,10,11,12] 29 rfl rfl rfl (.no rfl rfl rfl rfl rfl rfl) rfl ?_
      refine DF.op (ids := []) 14 [0,1,2,3,4,5,6,7,8,9] 29 rfl rfl rfl (.no rfl rfl rfl rfl rfl rfl) rfl ?_
      refine DF.op (ids := []) 15 [0,1,2,3,4,5,6,7,8,9,14] 29 rfl rfl rfl (.no rfl rfl rfl rfl rfl rfl) rfl ?_
      refine DF.op (ids := []) 16 [0,1,2,3,4,5,6,7,8,9,10,11,12,13,14,15] 29 rfl rfl rfl (.no rfl rfl rfl rfl rfl rfl) rfl ?_
      refine DF.op (ids := []) 17 [0,1,2,3,4,5,6,7,8,9,10,11,12,13,14,15,16] 29 rfl rfl rfl (.no rfl rfl rfl rfl rfl rfl) rfl ?_
      refine DF.op (ids := []) 18 [0,1,2,3,4,5,6,7,8,9,10,11,12,13,14,15,16,17] 29 rfl rfl rfl (.no rfl rfl rfl rfl rfl rfl) rfl ?_
      refine DF.op 19 [0,1,2,3,4,5,6,7,8,9,10,11,12,13,14,15,16,17,18] 29 rfl rfl rfl (.free rfl (NOp.of (by exact g_pickT (r := .d _) rfl rfl))) rfl ?_
      refine DF.op 20 [0,1,2,3,4,5,6,7,8,9,10,11,12,13,14,15,16,17,18,19] 29 rfl rfl rfl (.free rfl (NOp.of (by exact mv1 rfl))) rfl ?_
      refine DF.op (ids := []) 21 [0,1,2,3,4,5,6,7,8,9,10,11,12,13,14,15,16,17,18,19,20] 29 rfl rfl rfl (.no rfl rfl rfl rfl rfl rfl) rfl ?_
      refine DF.op (ids := []) 22 [0,1,2,3,4,5,6,7,8,9,10,11,12,13,14,15,16,17,18,19,20] 29 rfl rfl rfl (.no rfl rfl rfl rfl rfl rfl) rfl ?_
      refine DF.op (ids := []) 23 [0,1,2,3,4,5,6,7,8,9,10,11,12,13,14,15,16,17,18,19,20,22] 29 rfl rfl rfl (.no rfl rfl rfl rfl rfl rfl) rfl ?_
      refine DF.op (ids := []) 24 [0,1,2,3,4,5,6,7,8,9,10,11,12,13,14,15,16,17,18,19,20] 29 rfl rfl rfl (.no rfl rfl rfl rfl rfl rfl) rfl ?_
      refine DF.op (ids := []) 25 [0,1,2,3,4,5,6,7,8,9,10,11,12,13,14,15,16,17,18,19,20,24] 29 rfl rfl rfl (.no rfl rfl rfl rfl rfl rfl) rfl ?_
      refine DF.op (ids := []) 26 [0,1,2,3,4,5,6,7,8,9,10,11,12,13,14,15,16,17,18,19,20,21,22,23,24,25] 29 rfl rfl rfl (.no rfl rfl rfl rfl rfl rfl) rfl ?_
      refine DF.op (ids := []) 27 [0,1,2,3,4,5,6,7,8,9,10,11,12,13,14,15,16,17,18,19,20,21,22,23,24,25,26] 29 rfl rfl rfl (.no rfl rfl rfl rfl rfl rfl) rfl ?_
      refine DF.op 28 [0,1,2,3,4,5,6,7,8,9,10,11,12,13,14,15,16,17,18,19,20,21,22,23,24,25,26,27] 29 rfl rfl rfl (.free rfl (NOp.of (by exact g_pickT (r := .d _) rfl rfl))) rfl ?_
      refine DF.fin (ps := [(0,2),(0,3),(0,4),(0,5),(0,6),(1,2),(1,3),(1,4),(1,5),(1,6),(2,0),(2,1),(3,0),(3,1),(4,0),(4,1),(5,0),(5,1),(6,0),(6,1),(10,14),(10,15),(11,14),(11,15),(12,14),(12,15),(13,14),(13,15),(14,10),(14,11),(14,12),(14,13),(15,10),(15,11),(15,12),(15,13),(21,22),(21,23),(21,24),(21,25),(22,21),(22,24),(22,25),(23,21),(23,24),(23,25),(24,21),(24,22),(24,23),(25,21),(25,22),(25,23)]) 29 rfl (by decide +kernel) (by decide +kernel) (by rfl) ?_
      refine th_n ?_
      refine AC.condT rfl ?_
      refine AC.seq ?_
      refine AC.region ?_
      refine AL.p (by exact g_build rfl rfl rfl) rfl ?_
      refine AL.q (by exact h_boxF rfl rfl) rfl ?_
      refine AL.p (by exact as1 rfl) rfl ?_
      refine AL.p (by exact as1 rfl) rfl ?_
      refine AL.nil ?_
      refine th_n ?_
      refine AC.ret ?_
      refine ib_r ?_
      refine th_r ?_
      refine th_r ?_
      refine ib_r ?_
      refine th_r ?_
      refine bq_r ?_
      have e : okF s.net c x = false := by (rw [hch, show b3 = false by simpa using h3]; rfl)
      rw [if_neg (by rw [e]; simp)] at hrun
      exact ret0 rfl (by repeat (first | exact True.intro | exact DLead.same | exact rfl | refine ⟨_, rfl, ?_⟩ | refine ⟨_, _, rfl, ?_, ?_⟩))
     ·refine DF.op 10 [0,1,2,3,4,5,6,7,8,9] 29 rfl rfl rfl (.yes rfl rfl rfl rfl (NOp.of (by exact mv3 rfl))) rfl ?_
      refine DF.op 11 [0,1,2,3,4,5,6,7,8,9,10] 29 rfl rfl rfl (.yes rfl rfl rfl rfl (NOp.of (by exact g_nilP rfl))) rfl ?_
      refine DF.op 12 [0,1,2,3,4,5,6,7,8,9,10,11] 29 rfl rfl rfl (.yes rfl rfl rfl rfl (NOp.of (by exact g_fa_ptr rfl rfl rfl rfl rfl))) rfl ?_
      refine DF.op 13 [0,1,2,3,4,5,6,7,8,9,10,11,12] 29 rfl rfl rfl (.yes rfl rfl rfl rfl (NOp.of (by exact g_load_ptr rfl rfl rfl rfl rfl))) rfl ?_
      refine DF.op 14 [0,1,2,3,4,5,6,7,8,9] 29 rfl rfl rfl (.yes rfl rfl rfl rfl (NOp.of (by exact g_fa_ptr rfl rfl rfl rfl rfl))) rfl ?_
      refine DF.op 15 [0,1,2,3,4,5,6,7,8,9,14] 29 rfl rfl rfl (.yes rfl rfl rfl rfl (NOp.of (by exact g_load_ptr rfl rfl rfl rfl rfl))) rfl ?_
      refine DF.op 16 [0,1,2,3,4,5,6,7,8,9,10,11,12,13,14,15] 29 rfl rfl rfl (.yes rfl rfl rfl rfl (NOp.of (by exact g_ia_own (i := x.t.toNat) (l := c.since.length) rfl rfl rfl rfl rfl (hTi (by simpa using h3)).1 (by have := (hTi (by simpa using h3)).2; omega) (Nat.mul_one _)))) rfl ?_
      refine DF.op 17 [0,1,2,3,4,5,6,7,8,9,10,11,12,13,14,15,16] 29 rfl rfl rfl (.yes rfl rfl rfl rfl (NOp.of (by exact g_load_arr1 rfl rfl rfl rfl (hrw (by simpa using h3))))) rfl ?_
      refine DF.op 18 [0,1,2,3,4,5,6,7,8,9,10,11,12,13,14,15,16,17] 29 rfl rfl rfl (.yes rfl rfl rfl rfl (NOp.of (by exact g_cmp rfl rfl rfl))) rfl ?_
      refine DF.op 19 [0,1,2,3,4,5,6,7,8,9,10,11,12,13,14,15,16,17,18] 29 rfl rfl rfl (.free rfl (NOp.of (by exact g_pickF (r := .d _) rfl rfl))) rfl ?_
      refine DF.op 20 [0,1,2,3,4,5,6,7,8,9,10,11,12,13,14,15,16,17,18,19] 29 rfl rfl rfl (.free rfl (NOp.of (by exact mv1 rfl))) rfl ?_
      refine DF.caseD 20 rfl (fun h4 => ?_) (fun h4 => ?_)
      ·refine DF.op (ids := []) 21 [0,1,2,3,4,5,6,7,8,9,10,11,12,13,14,15,16,17,18,19,20] 29 rfl rfl rfl (.no rfl rfl rfl rfl rfl rfl) rfl ?_
       refine DF.op (ids := []) 22 [0,1,2,3,4,5,6,7,8,9,10,11,12,13,14,15,16,17,18,19,20] 29 rfl rfl rfl (.no rfl rfl rfl rfl rfl rfl) rfl ?_
       refine DF.op (ids := []) 23 [0,1,2,3,4,5,6,7,8,9,10,11,12,13,14,15,16,17,18,19,20,22] 29 rfl rfl rfl (.no rfl rfl rfl rfl rfl rfl) rfl ?_
       refine DF.op (ids := []) 24 [0,1,2,3,4,5,6,7,8,9,10,11,12,13,14,15,16,17,18,19,20] 29 rfl rfl rfl (.no rfl rfl rfl rfl rfl rfl) rfl ?_
       refine DF.op (ids := []) 25 [0,1,2,3,4,5,6,7,8,9,10,11,12,13,14,15,16,17,18,19,20,24] 29 rfl rfl rfl (.no rfl rfl rfl rfl rfl rfl) rfl ?_
       refine DF.op (ids := []) 26 [0,1,2,3,4,5,6,7,8,9,10,11,12,13,14,15,16,17,18,19,20,21,22,23,24,25] 29 rfl rfl rfl (.no rfl rfl rfl rfl rfl rfl) rfl ?_
       refine DF.op (ids := []) 27 [0,1,2,3,4,5,6,7,8,9,10,11,12,13,14,15,16,17,18,19,20,21,22,23,24,25,26] 29 rfl rfl rfl (.no rfl rfl rfl rfl rfl rfl) rfl ?_
       refine DF.op 28 [0,1,2,3,4,5,6,7,8,9,10,11,12,13,14,15,16,17,18,19,20,21,22,23,24,25,26,27] 29 rfl rfl rfl (.free rfl (NOp.of (by exact g_pickT (r := .d _) rfl rfl))) rfl ?_
       refine DF.fin (ps := [(0,2),(0,3),(0,4),(0,5),(0,6),(1,2),(1,3),(1,4),(1,5),(1,6),(2,0),(2,1),(3,0),(3,1),(4,0),(4,1),(5,0),(5,1),(6,0),(6,1),(10,14),(10,15),(11,14),(11,15),(12,14),(12,15),(13,14),(13,15),(14,10),(14,11),(14,12),(14,13),(15,10),(15,11),(15,12),(15,13),(21,22),(21,23),(21,24),(21,25),(22,21),(22,24),(22,25),(23,21),(23,24),(23,25),(24,21),(24,22),(24,23),(25,21),(25,22),(25,23)]) 29 rfl (by decide +kernel) (by decide +kernel) (by rfl) ?_
       refine th_n ?_
       refine AC.condT rfl ?_
       refine AC.seq ?_
       refine AC.region ?_
       refine AL.p (by exact g_build rfl rfl rfl) rfl ?_
       refine AL.q (by exact h_boxF rfl rfl) rfl ?_
       refine AL.p (by exact as1 rfl) rfl ?_
       refine AL.p (by exact as1 rfl) rfl ?_
       refine AL.nil ?_
       refine th_n ?_
       refine AC.ret ?_
       refine ib_r ?_
       refine th_r ?_
       refine th_r ?_
       refine ib_r ?_
       refine th_r ?_
       refine bq_r ?_
       have e : okF s.net c x = false := by (rw [hch, decide_eq_false (show ¬ 0 ≤ iAt c.since x.t.toNat by omega)]; simp)
       rw [if_neg (by rw [e]; simp)] at hrun
       exact ret0 rfl (by repeat (first | exact True.intro | exact DLead.same | exact rfl | refine ⟨_, rfl, ?_⟩ | refine ⟨_, _, rfl, ?_, ?_⟩))
      ·refine DF.op 21 [0,1,2,3,4,5,6,7,8,9,10,11,12,13,14,15,16,17,18,19,20] 29 rfl rfl rfl (.yes rfl rfl rfl rfl (NOp.of (by exact mv3 rfl))) rfl ?_
       refine DF.op 22 [0,1,2,3,4,5,6,7,8,9,10,11,12,13,14,15,16,17,18,19,20] 29 rfl rfl rfl (.yes rfl rfl rfl rfl (NOp.of (by exact g_fa_ptr rfl rfl rfl rfl rfl))) rfl ?_
       refine DF.op 23 [0,1,2,3,4,5,6,7,8,9,10,11,12,13,14,15,16,17,18,19,20,22] 29 rfl rfl rfl (.yes rfl rfl rfl rfl (NOp.of (by exact g_load_ptr rfl rfl rfl rfl rfl))) rfl ?_
       refine DF.op 24 [0,1,2,3,4,5,6,7,8,9,10,11,12,13,14,15,16,17,18,19,20] 29 rfl rfl rfl (.yes rfl rfl rfl rfl (NOp.of (by exact g_fa_ptr rfl rfl rfl rfl rfl))) rfl ?_
       refine DF.op 25 [0,1,2,3,4,5,6,7,8,9,10,11,12,13,14,15,16,17,18,19,20,24] 29 rfl rfl rfl (.yes rfl rfl rfl rfl (NOp.of (by exact g_load_ptr rfl rfl rfl rfl rfl))) rfl ?_
       refine DF.op 26 [0,1,2,3,4,5,6,7,8,9,10,11,12,13,14,15,16,17,18,19,20,21,22,23,24,25] 29 rfl rfl rfl (.yes rfl rfl rfl rfl (by exact h_fun (cs := [100, 101]) en_lkFire rfl rfl (by repeat (first | exact rfl | exact DLead.same | refine ⟨_, _, rfl, ?_, ?_⟩ | refine ⟨_, rfl, ?_⟩)) (by repeat (first | exact True.intro | refine And.intro ?_ ?_ | exact DLead.same | exact rfl | refine ⟨_, _, rfl, rfl, ?_⟩ | refine ⟨_, rfl, ?_⟩ | refine ⟨_, _, rfl, ?_, ?_⟩)) (hFi (by simpa using h3)) rfl rfl rfl rfl)) rfl ?_
       refine DF.op 27 [0,1,2,3,4,5,6,7,8,9,10,11,12,13,14,15,16,17,18,19,20,21,22,23,24,25,26] 29 rfl rfl rfl (.yes rfl rfl rfl rfl (NOp.of (by exact g_not rfl))) rfl ?_
       refine DF.op 28 [0,1,2,3,4,5,6,7,8,9,10,11,12,13,14,15,16,17,18,19,20,21,22,23,24,25,26,27] 29 rfl rfl rfl (.free rfl (NOp.of (by exact g_pickF (r := .d _) rfl rfl))) rfl ?_
       refine DF.fin (ps := [(0,2),(0,3),(0,4),(0,5),(0,6),(1,2),(1,3),(1,4),(1,5),(1,6),(2,0),(2,1),(3,0),(3,1),(4,0),(4,1),(5,0),(5,1),(6,0),(6,1),(10,14),(10,15),(11,14),(11,15),(12,14),(12,15),(13,14),(13,15),(14,10),(14,11),(14,12),(14,13),(15,10),(15,11),(15,12),(15,13),(21,22),(21,23),(21,24),(21,25),(22,21),(22,24),(22,25),(23,21),(23,24),(23,25),(24,21),(24,22),(24,23),(25,21),(25,22),(25,23)]) 29 rfl (by decide +kernel) (by decide +kernel) (by rfl) ?_
       refine th_n ?_
       refine AC.condB rfl (fun h5 => ?_) (fun h5 => ?_)
       ·refine AC.seq ?_
        refine AC.region ?_
        refine AL.p (by exact g_build rfl rfl rfl) rfl ?_
        refine AL.q (by exact h_boxF rfl rfl) rfl ?_
        refine AL.p (by exact as1 rfl) rfl ?_
        refine AL.p (by exact as1 rfl) rfl ?_
        refine AL.nil ?_
        refine th_n ?_
        refine AC.ret ?_
        refine ib_r ?_
        refine th_r ?_
        refine th_r ?_
        refine ib_r ?_
        refine th_r ?_
        refine bq_r ?_
        have e : okF s.net c x = false := by (rw [hch, show F.2 = false by simpa using h5]; simp)
        rw [if_neg (by rw [e]; simp)] at hrun
        exact ret0 rfl (by repeat (first | exact True.intro | exact DLead.same | exact rfl | refine ⟨_, rfl, ?_⟩ | refine ⟨_, _, rfl, ?_, ?_⟩))
       ·refine AC.skip ?_
        refine ib_n ?_
        refine th_n ?_
        refine AC.region ?_
        refine AL.p (by exact g_arith rfl rfl rfl (by exact wrap_i64 (by omega))) rfl ?_
        refine AL.p (by exact mv1 rfl) rfl ?_
        refine AL.nil ?_
        refine th_n ?_
        have e : okF s.net c x = true := by rw [hch, show b3 = true by simpa using h3, decide_eq_true (show 0 ≤ iAt c.since x.t.toNat by omega), show F.2 = true by simpa using h5]; rfl
        rw [if_pos e] at hrun
        exact ⟨(k + 1, F.1), ⟨by omega, hCI e, hrun⟩, by dsimp only; omega, Weak.ren _ [(100, 100), (101, 101)] hC rfl (by repeat (first | exact True.intro | refine And.intro ?_ ?_ | exact DLead.same | exact rfl | refine ⟨_, rfl, ?_⟩)) (by repeat (first | exact True.intro | refine And.intro ?_ ?_ | exact DLead.same | exact rfl | refine ⟨_, _, rfl, rfl, ?_⟩ | refine ⟨_, rfl, ?_⟩ | refine ⟨_, _, rfl, ?_, ?_⟩)) rfl rfl rfl⟩
    ·refine AC.exit ?_
     refine th_e ?_
     refine th_e ?_
     refine ib_y ?_
     refine th_n ?_
     refine AC.seq ?_
     refine AC.region ?_
     refine AL.p (by exact mv3 rfl) rfl ?_
     refine AL.p (by exact as3 rfl) rfl ?_
     refine AL.p (by exact as1 rfl) rfl ?_
     refine AL.nil ?_
     refine th_n ?_
     refine AC.ret ?_
     refine bq_r ?_
     have e : k = run.length := by omega
     rw [e, List.drop_length, firedQ] at hrun
     exfalso; exact hok ⟨by rw [q1, q2]; rfl, by rw [← hrun]⟩
set_option maxHeartbeats 2000000 in
theorem sEnT_ok (s : Stg) (run : List Tf) (hB : StgB s) (hn : run.length ≤ 100000) (hr : ∀ x, x ∈ run → -1000000 ≤ x.tm ∧ x.tm ≤ 1000000 ∧ -1000000 ≤ x.t ∧ x.t ≤ 1000000) (hok : (goodS s && timesB run) = true ∧ (firedQ s.net run (newK s)).2 = true) : ASpec Tryz.prog 12 [stgA s, .d (vTfs run)] [] (Pure1 (.tup [.d (vI (entR s run).1), aT (entR s run).2])) := by
 have hF := l23Fired_ok s run hB hn hr hok
 have e : entR s run = ((firedQ s.net run (newK s)).1.since, true) := by unfold entR; rw [if_pos hok.1, if_pos hok.2]
 refine ASpec.of Tryz.func12 rfl rfl fun C hC => ?_
 refine AC.seq ?_
 refine AC.region ?_
 refine AL.q (by exact h_boxF rfl rfl) rfl ?_
 refine AL.p (by exact as1 rfl) rfl ?_
 refine AL.p (by exact as1 rfl) rfl ?_
 refine AL.nil ?_
 refine th_n ?_
 refine AC.seq ?_
 refine AC.region ?_
 refine AL.p (by exact g_load_refN rfl rfl rfl rfl) rfl ?_
 refine AL.p (by exact mv1 rfl) rfl ?_
 refine AL.q (by exact h_fun (cs := []) en_l23Fired rfl rfl (by repeat (first | exact rfl | exact DLead.same | refine ⟨_, _, rfl, ?_, ?_⟩ | refine ⟨_, rfl, ?_⟩)) (by repeat (exact True.intro)) hF rfl rfl rfl rfl) rfl ?_
 refine AL.p (by exact mv5 rfl) rfl ?_
 refine AL.p (by exact g_extract (r := .ptr _ _) rfl rfl) rfl ?_
 refine AL.p (by exact g_extract (r := .d _) rfl rfl) rfl ?_
 refine AL.p (by exact as3 rfl) rfl ?_
 refine AL.p (by exact as1 rfl) rfl ?_
 refine AL.nil ?_
 refine th_n ?_
 refine AC.seq ?_
 refine AC.seq ?_
 refine AC.region ?_
 refine AL.p (by exact mv1 rfl) rfl ?_
 refine AL.p (by exact g_not rfl) rfl ?_
 refine AL.nil ?_
 refine th_n ?_
 refine AC.condB rfl (fun h0 => ?_) (fun h0 => ?_)
 ·refine AC.seq ?_
  exact absurd ‹(!true) = true› (by decide)
 ·refine AC.skip ?_
  refine th_n ?_
  refine AC.seq ?_
  refine AC.region ?_
  refine AL.p (by exact mv3 rfl) rfl ?_
  refine AL.p (by exact g_nilP rfl) rfl ?_
  refine AL.p (by exact g_fa_ptr rfl rfl rfl rfl rfl) rfl ?_
  refine AL.p (by exact g_load_ptr rfl rfl rfl rfl rfl) rfl ?_
  refine AL.p (by exact as2 rfl) rfl ?_
  refine AL.p (by exact as1 rfl) rfl ?_
  refine AL.nil ?_
  refine th_n ?_
  refine AC.weak (Weak.freeze (i := 4) rfl rfl (ownl _ _) (ownt _ _)) ?_
  refine AC.ret ?_
  refine bq_r ?_
  exact ret0 rfl (by rw [e]; repeat (first | exact rfl | exact DLead.same | refine ⟨_, _, rfl, ?_, ?_⟩ | refine ⟨_, rfl, ?_⟩))
theorem en_sEnT : Enters Tryz.prog 12 := enters_of Tryz.func12 rfl rfl
set_option maxHeartbeats 2000000 in
theorem sEnT_no (s : Stg) (run : List Tf) (hB : StgB s) (hn : run.length ≤ 100000) (hr : ∀ x, x ∈ run → -1000000 ≤ x.tm ∧ x.tm ≤ 1000000 ∧ -1000000 ≤ x.t ∧ x.t ≤ 1000000) (hok : ¬ ((goodS s && timesB run) = true ∧ (firedQ s.net run (newK s)).2 = true)) : ASpec Tryz.prog 12 [stgA s, .d (vTfs run)] [] (Pure1 (.tup [.d (vI (entR s run).1), aT (entR s run).2])) := by
 have hF := l23Fired_no s run hB hn hr hok
 have e : entR s run = ([], false) := by unfold entR; by_cases h : (goodS s && timesB run) = true; (rw [if_pos h, if_neg (fun q => hok ⟨h, q⟩)]); (rw [if_neg h])
 refine ASpec.of Tryz.func12 rfl rfl fun C hC => ?_
 refine AC.seq ?_
 refine AC.region ?_
 refine AL.q (by exact h_boxF rfl rfl) rfl ?_
 refine AL.p (by exact as1 rfl) rfl ?_
 refine AL.p (by exact as1 rfl) rfl ?_
 refine AL.nil ?_
 refine th_n ?_
 refine AC.seq ?_
 refine AC.region ?_
 refine AL.p (by exact g_load_refN rfl rfl rfl rfl) rfl ?_
 refine AL.p (by exact mv1 rfl) rfl ?_
 refine AL.q (by exact h_pure en_l23Fired rfl rfl (by repeat (first | exact rfl | exact DLead.same | refine ⟨_, _, rfl, ?_, ?_⟩ | refine ⟨_, rfl, ?_⟩)) hF rfl) rfl ?_
 refine AL.p (by exact mv5 rfl) rfl ?_
 refine AL.p (by exact g_extract (r := .dead) rfl rfl) rfl ?_
 refine AL.p (by exact g_extract (r := .d _) rfl rfl) rfl ?_
 refine AL.p (by exact as9 rfl) rfl ?_
 refine AL.p (by exact as1 rfl) rfl ?_
 refine AL.nil ?_
 refine th_n ?_
 refine AC.seq ?_
 refine AC.seq ?_
 refine AC.region ?_
 refine AL.p (by exact mv1 rfl) rfl ?_
 refine AL.p (by exact g_not rfl) rfl ?_
 refine AL.nil ?_
 refine th_n ?_
 refine AC.condB rfl (fun h0 => ?_) (fun h0 => ?_)
 ·refine AC.seq ?_
  refine AC.region ?_
  refine AL.p (by exact as1 rfl) rfl ?_
  refine AL.p (by exact as1 rfl) rfl ?_
  refine AL.nil ?_
  refine th_n ?_
  refine AC.ret ?_
  refine th_r ?_
  refine bq_r ?_
  exact ret0 rfl (by rw [e]; repeat (first | exact rfl | exact DLead.same | exact DLead.nil | refine ⟨_, _, rfl, ?_, ?_⟩ | refine ⟨_, rfl, ?_⟩))
 ·refine AC.skip ?_
  refine th_n ?_
  refine AC.seq ?_
  exact absurd ‹(!false) = false› (by decide)
theorem sEnT_spec (s : Stg) (run : List Tf) (hB : StgB s) (hn : run.length ≤ 100000) (hr : ∀ x, x ∈ run → -1000000 ≤ x.tm ∧ x.tm ≤ 1000000 ∧ -1000000 ≤ x.t ∧ x.t ≤ 1000000) : ASpec Tryz.prog 12 [stgA s, .d (vTfs run)] [] (Pure1 (.tup [.d (vI (entR s run).1), aT (entR s run).2])) := by
 by_cases hok : (goodS s && timesB run) = true ∧ (firedQ s.net run (newK s)).2 = true
 ·exact sEnT_ok s run hB hn hr hok
 ·exact sEnT_no s run hB hn hr hok
section
variable {P : Program} [PT P] {C : Ctx} {s : ASt}
theorem Weak.freezeA {i id k n e sz : Nat} {cs : List AV} {els els' : List (List DV)} (hs : s.get i = .agg cs) (hk : cs[k]? = some (.own id n)) (hc : s.chunk id = some (.arr e sz els)) (hn : n ≤ els.length) (he : els.take n = els') : Weak C s { n := s.n, nx := s.nx, sl := (i, .agg (cs.set k (.d (.view e sz els')))) :: s.sl, ch := (id, none) :: s.ch } := by
 subst he
 refine ⟨?_⟩
 rintro a w ⟨m, hR⟩
 have hch : ∀ j c, (getL j ((id, none) :: s.ch)).getD none = some c → j ≠ id ∧ s.chunk j = some c := by
  intro j c h
  rw [getL_cons] at h
  split at h
  ·simp at h
  ·rename_i e; exact ⟨e, h⟩
 have hF : ∀ q, Fz C m s w q → Fz C m { n := s.n, nx := s.nx, sl := (i, .agg (cs.set k (.d (.view e sz (els.take n))))) :: s.sl, ch := (id, none) :: s.ch } w q := fun q hq => ⟨hq.1, hq.2.1, fun j c p h1 h2 => hq.2.2 j c p (hch j c h1).2 h2⟩
 obtain ⟨q, hq, hCq, hloc⟩ := hR.ch id _ hc
 have hFb : ∀ b, q.1 = some b → Fz C m { n := s.n, nx := s.nx, sl := (i, .agg (cs.set k (.d (.view e sz (els.take n))))) :: s.sl, ch := (id, none) :: s.ch } w b := by
  intro b hb
  refine ⟨.inr (hloc b (.inl hb)), hCq.lt (.inl hb), fun j c p h1 h2 h3 => ?_⟩
  obtain ⟨hne, h4⟩ := hch j c h1
  exact hne (hR.inj j id c _ p q h4 hc h2 hq b h3 (.inl hb))
 refine ⟨m, hR.fr, hR.fin, hR.sz, fun j => ?_, fun j c h1 => ?_, fun j j' c c' p p' h1 h2 hp hp' b hb hb' => hR.inj j j' c c' p p' (hch j c h1).2 (hch j' c' h2).2 hp hp' b hb hb', hR.un, hR.defers, hR.m0, hR.m0k⟩
 ·show ARep _ _ _ ((getL j ((i, .agg (cs.set k (.d (.view e sz (els.take n))))) :: s.sl)).getD .dead) _
  rw [getL_cons]
  by_cases hj : j = i
  ·subst hj
   rw [if_pos rfl]
   have hv := hR.sl j
   rw [hs] at hv
   generalize a.tmps.getD j undef = v at hv
   simp only [Option.getD_some]
   cases hv with
   | agg g1 g2 g3 =>
    refine .agg (by rw [List.length_set]; exact g1) (fun i' c hc' => ?_) g3
    by_cases hik : k = i'
    ·subst hik
     rw [List.getElem?_set_self (List.getElem?_eq_some_iff.1 hk).1] at hc'
     simp only [Option.some.injEq] at hc'
     subst hc'
     exact .d (own_view (g2 k _ hk) hq (hR.chunkAt hc hq) hn hF hFb)
    ·rw [List.getElem?_set_ne hik] at hc'
     exact (g2 i' c hc').turn (MLe.refl m) (fun k hk _ => ⟨hF k hk, rfl⟩)
  ·rw [if_neg hj]
   exact (hR.sl j).turn (MLe.refl m) (fun k hk _ => ⟨hF k hk, rfl⟩)
 ·obtain ⟨hne, h4⟩ := hch j c h1
  obtain ⟨p, hp, hr, hl⟩ := hR.ch j c h4
  exact ⟨p, hp, hr.turn (MLe.refl m) (fun k hk _ => ⟨hF k hk, rfl⟩) (fun _ _ => rfl), hl⟩
theorem Weak.freezeA3 (i : Nat) {id1 id2 id3 n1 n2 n3 e1 e2 e3 z1 z2 z3 : Nat} {x y : AV} {els1 els2 els3 els1' els2' els3' : List (List DV)} (hs : s.get i = .agg [x, .own id1 n1, .own id2 n2, .own id3 n3, y]) (hc1 : s.chunk id1 = some (.arr e1 z1 els1)) (hc2 : s.chunk id2 = some (.arr e2 z2 els2)) (hc3 : s.chunk id3 = some (.arr e3 z3 els3))
  (h12 : Nat.beq id2 id1 = false) (h13 : Nat.beq id3 id1 = false) (h23 : Nat.beq id3 id2 = false) (hn1 : n1 ≤ els1.length) (hn2 : n2 ≤ els2.length) (hn3 : n3 ≤ els3.length) (he1 : els1.take n1 = els1') (he2 : els2.take n2 = els2') (he3 : els3.take n3 = els3') :
  Weak C s { n := s.n, nx := s.nx, sl := (i, .agg [x, .d (.view e1 z1 els1'), .d (.view e2 z2 els2'), .d (.view e3 z3 els3'), y]) :: s.sl, ch := (id3, none) :: (id2, none) :: (id1, none) :: s.ch } := by
 have a1 := Weak.freezeA (C := C) (k := 1) hs rfl hc1 hn1 he1
 have g : ∀ (z : AV) (l : List (Nat × AV)) (c : List (Nat × Option Chunk)), ({ n := s.n, nx := s.nx, sl := (i, z) :: l, ch := c } : ASt).get i = z := fun z l c => by show (getL i ((i, z) :: l)).getD .dead = z; rw [getL_cons, if_pos rfl]; rfl
 have k2 : ∀ (l : List (Nat × AV)), ({ n := s.n, nx := s.nx, sl := l, ch := (id1, none) :: s.ch } : ASt).chunk id2 = some (.arr e2 z2 els2) := fun l => by show (getL id2 ((id1, none) :: s.ch)).getD none = _; rw [getL_cons, if_neg (Nat.ne_of_beq_eq_false h12)]; exact hc2
 have k3 : ∀ (l : List (Nat × AV)), ({ n := s.n, nx := s.nx, sl := l, ch := (id2, none) :: (id1, none) :: s.ch } : ASt).chunk id3 = some (.arr e3 z3 els3) := fun l => by show (getL id3 ((id2, none) :: (id1, none) :: s.ch)).getD none = _; rw [getL_cons, if_neg (Nat.ne_of_beq_eq_false h23), getL_cons, if_neg (Nat.ne_of_beq_eq_false h13)]; exact hc3
 have a2 := Weak.freezeA (C := C) (k := 2) (cs := [x, .d (.view e1 z1 els1'), .own id2 n2, .own id3 n3, y]) (g _ s.sl ((id1, none) :: s.ch)) rfl (k2 _) hn2 he2
 have a3 := Weak.freezeA (C := C) (k := 3) (cs := [x, .d (.view e1 z1 els1'), .d (.view e2 z2 els2'), .own id3 n3, y]) (g _ ((i, .agg [x, .d (.view e1 z1 els1'), .own id2 n2, .own id3 n3, y]) :: s.sl) ((id2, none) :: (id1, none) :: s.ch)) rfl (k3 _) hn3 he3
 refine ((a1.trans a2).trans a3).trans ⟨fun a w h => h.weak rfl (Nat.le_refl _) (fun j => .inr ?_) (fun j c h => h)⟩
 show (getL j (_ :: _)).getD AV.dead = (getL j (_ :: _ :: _ :: _)).getD AV.dead
 rw [getL_cons, getL_cons]
 split
 ·rfl
 ·rename_i hne; rw [getL_cons, if_neg hne, getL_cons, if_neg hne]
end
end Go.Proofs.YtijnganhpnmhaaaGreat
