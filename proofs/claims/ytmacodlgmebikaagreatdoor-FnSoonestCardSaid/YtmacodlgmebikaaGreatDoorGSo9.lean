/- Contracts of the functions of the program and of the reference, each proved by a walk through its code. -/
import Derived.Lib.SliceRun
import Derived.Laws.RangeString
import Derived.Lib.LaidTab
import Derived.ChangeSame
import Derived.ChangeVars
import Derived.JoinedOf
import Derived.RowKit
import Derived.RowKitTokens
import Derived.LaidLaws
import Derived.LaidHandle
import Derived.Stop.Joined
import Derived.MakeChecks
import Derived.SevenTiedAt
import Derived.Stop.LaidErr
import Derived.WalkKit
import Derived.WalkSpells
import Derived.WalkLawsBesides
import Derived.Deep.Draws
import Derived.Lib.Hide
import Derived.Maps.AppendAt
import Derived.OwnWalk
import Derived.Deep.MidRow
import Derived.Laws.ResultCell
import Derived.Deep.Upon
import Derived.Great.FillDense
import Derived.Laws.Tables
import Derived.Laws.BytesArg
import Derived.Laws.MakeOwn
import Derived.Great.BuildSlice
import Derived.ArgAppend
import Derived.Deep.AppendSrc
import Derived.Test.YtmacodlgmebikaaGreatDoorProg
import Derived.KernelRfl
import Derived.Orders
import Derived.Laws.IdiomStrings
import Derived.Lib.AppendZerosOnto
import Derived.ProofKit
import Derived.OpenShut
import Derived.Laws.StructEq
import Derived.ChangeKeysEq
import Derived.Laws.IdiomCopy
import Derived.Shelf.Strings.Builder1
import Derived.Shelf.Strings.Builder2
import Derived.Shelf.Strings.OnBuilder
import Derived.Shelf.Strconv.Itoa0
import Derived.Shelf.Strconv.Itoa1
import Derived.Shelf.LaysM
import Derived.Shelf.Strconv.Itoa2
import Derived.Shelf.Strconv.Itoa3
import Derived.Shelf.Bits.Mul64
import Derived.Test.YtmacodlgmebikaaGreatDoorRows
import Derived.Sort.Grow
import Derived.Below
import Derived.Laws.Small
import Derived.Test.YtmacodlgmebikaaGreatDoorGSo8
set_option linter.all false
set_option maxRecDepth 20000
namespace Go.Proofs.YtmacodlgmebikaaGreatDoor
open Go.RowKit
def okF (N : Net) (c : Ck) (x : Tf) : Bool := (decide (0 ≤ x.t) && decide (x.t ≤ (N.ts.length : Int) - 1)) && (decide (0 ≤ iAt c.since x.t.toNat) && (fireQ N c x.t.toNat x.tm).2)
def firedQ (N : Net) : List Tf → Ck → Ck × Bool
 | [], c => (c, true)
 | x :: xs, c => if okF N c x = true then firedQ N xs (fireQ N c x.t.toNat x.tm).1 else (c, false)
def entR (s : Stg) (run : List Tf) : List Int × Bool := if (goodS s && timesB run) = true then (if (firedQ s.net run (newK s)).2 = true then ((firedQ s.net run (newK s)).1.since, true) else ([], false)) else ([], false)
theorem timesB_in {run : List Tf} (h : timesB run = true) : run.length ≤ 60 ∧ ∀ k, k < run.length → 0 ≤ (fAt run k).tm := by
 simp only [timesB, Bool.and_eq_true, decide_eq_true_eq] at h
 refine ⟨by omega, fun k hk => ?_⟩
 have := allK_iff.1 h.1 k hk
 unfold timeK at this
 simp only [Bool.and_eq_true, Bool.not_eq_true', decide_eq_false_iff_not] at this
 have := this.1
 show 0 ≤ (run.getD k ⟨0, 0⟩).tm
 omega
theorem fireP_ok {N : Net} {c : Ck} {T : Int} (h : CkI N c T) (x : Tf) : (fireP N c x.t x.tm).2 = okF N c x ∧ (okF N c x = true → fireP N c x.t x.tm = fireQ N c x.t.toNat x.tm) := by
 by_cases hr : (decide (0 ≤ x.t) && decide (x.t ≤ (N.ts.length : Int) - 1)) = true
 ·have h1 : x.t = ((x.t.toNat : Nat) : Int) ∧ x.t.toNat < N.ts.length := by simp only [Bool.and_eq_true, decide_eq_true_eq] at hr; omega
  have hen := h.en _ h1.2
  by_cases he : enB N c.mark x.t.toNat = true
  ·have e := fireP_Q (c := c) h1.2 he x.tm
   rw [← h1.1] at e
   rw [e]
   refine ⟨?_, fun _ => rfl⟩
   unfold okF
   rw [hr, decide_eq_true (hen.2 he)]; rfl
  ·have e : fireI N c.mark x.t = ([], false) := by rw [h1.1, fireI_at h1.2, if_neg (by rw [← enB_nat h1.2]; exact he)]
   have e2 : okF N c x = false := by unfold okF; rw [hr, decide_eq_false (fun q => he (hen.1 q))]; rfl
   rw [e2]
   refine ⟨?_, fun q => by cases q⟩
   unfold fireP
   rw [e]; rfl
 ·have e : fireI N c.mark x.t = ([], false) := fireI_out (Bool.eq_false_iff.2 hr)
  have e2 : okF N c x = false := by unfold okF; rw [Bool.eq_false_iff.2 hr]; rfl
  rw [e2]
  refine ⟨?_, fun q => by cases q⟩
  unfold fireP
  rw [e]; rfl
theorem okF_I {N : Net} {c : Ck} {x : Tf} (h : CkI N c 1000000) (hx : 0 ≤ x.tm ∧ x.tm ≤ 1000000) (ho : okF N c x = true) : CkI N (fireQ N c x.t.toNat x.tm).1 1000000 := by
 simp only [okF, Bool.and_eq_true, decide_eq_true_eq] at ho
 exact fireQ_I h (Int.le_refl _) (by omega) hx
set_option maxHeartbeats 8000000 in
theorem iEnT_spec (s : Stg) (run : List Tf) (hB : StgB s) (hn : run.length ≤ 100000) (hr : ∀ x, x ∈ run → -1000000 ≤ x.tm ∧ x.tm ≤ 1000000 ∧ -1000000 ≤ x.t ∧ x.t ≤ 1000000) : ASpec Tryz.prog 25 [stgA s, .d (vTfs run)] [] (Pure1 (.tup [.d (vI (entR s run).1), aT (entR s run).2])) := by
 have hV := iIsValidSTG_spec s hB.L
 have hT := areTimes_spec run hn
 have hR : entR s run = if (goodS s && timesB run) = true then (if (firedQ s.net run (newK s)).2 = true then ((firedQ s.net run (newK s)).1.since, true) else ([], false)) else ([], false) := rfl
 have hN0 := newClock_spec s hB
 have hK0 := newK_I (s := s)
 have hti := timesB_in (run := run)
 obtain ⟨b1, hb1⟩ : ∃ b, b = goodS s := ⟨_, rfl⟩
 obtain ⟨b2, hb2⟩ : ∃ b, b = timesB run := ⟨_, rfl⟩
 rw [← hb1] at hV hR
 rw [← hb2] at hT hR hti
 obtain ⟨Z, hZ⟩ : ∃ Z, Z = firedQ s.net run (newK s) := ⟨_, rfl⟩
 rw [← hZ] at hR
 obtain ⟨R, hRR⟩ : ∃ R, R = entR s run := ⟨_, rfl⟩
 rw [← hRR] at hR ⊢
 clear hb2 hRR
 refine ASpec.of Tryz.func25 rfl rfl fun C hC => ?_
 refine AC.seq (AC.region ?_)
 refine AL.q (by exact h_boxF rfl rfl) rfl ?_
 refine AL.p (by exact as1 rfl) rfl ?_
 refine AL.p (by exact as1 rfl) rfl ?_
 refine AL.nil (th_n (AC.seq (AC.seq (AC.region ?_))))
 refine AL.p (by exact g_load_refN rfl rfl rfl rfl) rfl ?_
 refine AL.q (by exact h_pure en_iIsValidSTG rfl rfl (by repeat (first | exact rfl | exact DLead.same | refine ⟨_, _, rfl, ?_, ?_⟩ | refine ⟨_, rfl, ?_⟩)) hV rfl) rfl ?_
 refine AL.p (by exact g_not rfl) rfl ?_
 refine AL.p (by exact mv1 rfl) rfl ?_
 refine AL.caseGB rfl rfl (fun h0 => ?_) (fun h0 => ?_)
 ·refine AL.not rfl rfl rfl rfl rfl ?_
  refine AL.not rfl rfl rfl rfl rfl ?_
  refine AL.not rfl rfl rfl rfl rfl ?_
  refine AL.p (by exact g_pickT (r := .d _) rfl rfl) rfl ?_
  refine AL.nil (th_n ?_)
  refine AC.condT rfl ?_
  refine AC.seq (AC.region ?_)
  refine AL.p (by exact as1 rfl) rfl ?_
  refine AL.p (by exact as1 rfl) rfl ?_
  refine AL.nil (th_n (AC.ret (th_r (bq_r ?_))))
  have q0 : b1 = false ∨ (b1 = true ∧ b2 = false) := by exact .inl (by simpa using h0)
  have e : R = ([], false) := by rcases q0 with q | ⟨q, q'⟩ <;> rw [hR, q]; rfl; rw [q']; rfl
  exact ret0 rfl (by rw [e]; repeat (first | exact rfl | exact DLead.same | exact DLead.nil | refine ⟨_, _, rfl, ?_, ?_⟩ | refine ⟨_, rfl, ?_⟩))
 ·refine AL.yes rfl rfl rfl ?_
  refine AL.p (by exact mv1 rfl) rfl ?_
  refine AL.yes rfl rfl rfl ?_
  refine AL.q (by exact h_pure en_areTimes rfl rfl (by repeat (first | exact rfl | exact DLead.same | refine ⟨_, _, rfl, ?_, ?_⟩)) hT rfl) rfl ?_
  refine AL.yes rfl rfl rfl ?_
  refine AL.p (by exact g_not rfl) rfl ?_
  refine AL.p (by exact g_pickF (r := .d _) rfl rfl) rfl ?_
  refine AL.nil (th_n ?_)
  refine AC.condB rfl (fun h1 => ?_) (fun h1 => ?_)
  ·refine AC.seq (AC.region ?_)
   refine AL.p (by exact as1 rfl) rfl ?_
   refine AL.p (by exact as1 rfl) rfl ?_
   refine AL.nil (th_n (AC.ret (th_r (bq_r ?_))))
   have q0 : b1 = false ∨ (b1 = true ∧ b2 = false) := by exact .inr ⟨by simpa using h0, by simpa using h1⟩
   have e : R = ([], false) := by rcases q0 with q | ⟨q, q'⟩ <;> rw [hR, q]; rfl; rw [q']; rfl
   exact ret0 rfl (by rw [e]; repeat (first | exact rfl | exact DLead.same | exact DLead.nil | refine ⟨_, _, rfl, ?_, ?_⟩ | refine ⟨_, rfl, ?_⟩))
  ·refine AC.skip (th_n (AC.seq ?_))
   have q1 : b1 = true := by simpa using h0
   have q2 : b2 = true := by simpa using h1
   have hRe := hR.trans (if_pos (by rw [q1, q2]; rfl))
   have hg : goodS s = true := by rw [← hb1]; exact q1
   have hN := hN0 hg
   have hK := (hK0 hg).mono (T' := 1000000) (by omega)
   have htt := hti q2
   obtain ⟨K, hKK⟩ : ∃ K, K = newK s := ⟨_, rfl⟩
   rw [← hKK] at hK hN hZ
   clear hKK hN0 hK0 hti hR
   refine AC.region ?_
   refine AL.p (by exact g_load_refN rfl rfl rfl rfl) rfl ?_
   refine AL.q (by exact h_fun (cs := []) en_newClock rfl rfl (by repeat (first | exact rfl | exact DLead.same | refine ⟨_, _, rfl, ?_, ?_⟩ | refine ⟨_, rfl, ?_⟩)) (by repeat (exact True.intro)) hN rfl rfl rfl rfl) rfl ?_
   refine AL.p (by exact as3 rfl) rfl ?_
   refine AL.nil (th_n (AC.seq (AC.seq (AC.region ?_))))
   refine AL.p (by exact mv1 rfl) rfl ?_
   refine AL.p (by exact g_len_view (k := run.length) rfl rfl (tfL_len _)) rfl ?_
   refine AL.p (by exact mv1 rfl) rfl ?_
   refine AL.nil (th_n (AC.block ?_))
   refine AC.loop (ι := Nat × Ck) (fun x => ⟨37, 900, [(6, .ptr 100 0), (19, .d (vTfs run)), (20, aI run.length), (21, aI x.1)], chL (ckChs s x.2 100 101)⟩) (fun x => x.1 ≤ run.length ∧ CkI s.net x.2 1000000 ∧ firedQ s.net (run.drop x.1) x.2 = Z) (fun x => run.length - x.1) ((0, K)) ?_ (⟨Nat.zero_le _, hK, hZ.symm⟩) ?_
   ·exact Weak.ren _ [(100, _), (101, _)] hC rfl (by repeat (first | exact True.intro | refine And.intro ?_ ?_ | exact DLead.same | exact rfl | refine ⟨_, rfl, ?_⟩)) (by repeat (first | exact True.intro | refine And.intro ?_ ?_ | exact DLead.same | exact rfl | refine ⟨_, _, rfl, rfl, ?_⟩ | refine ⟨_, rfl, ?_⟩ | refine ⟨_, _, rfl, ?_, ?_⟩)) rfl rfl rfl
   ·rintro ⟨k, c⟩ ⟨hk, hI, hrun⟩
    dsimp only at hk hI hrun ⊢
    refine AC.seq (AC.region ?_)
    refine AL.p (by exact g_cmp rfl rfl rfl) rfl ?_
    refine AL.nil (th_n (AC.seq ?_))
    refine AC.condD rfl (fun h2 => ?_) (fun h2 => ?_)
    ·refine AC.skip (th_n (AC.seq (AC.block (AC.seq ?_))))
     have hk1 : k < run.length := by omega
     have hget := tfL_get hk1
     have hxb := hr _ (List.getElem_mem hk1)
     have hx0 := htt.2 k hk1
     rw [fAt_nat hk1] at hx0
     have hdrop : run.drop k = run[k] :: run.drop (k + 1) := List.drop_eq_getElem_cons hk1
     rw [hdrop, firedQ] at hrun
     obtain ⟨x, hx⟩ : ∃ x, x = run[k] := ⟨_, rfl⟩
     rw [← hx] at hget hxb hx0 hrun
     have hFi := ckFire_spec s c x.t x.tm hB hg hI.m hI.len
     have hok := fireP_ok hI x
     have hCI := okF_I (x := x) hI ⟨hx0, hxb.2.1⟩
     obtain ⟨G, hG⟩ : ∃ G, G = fireP s.net c x.t x.tm := ⟨_, rfl⟩
     rw [← hG] at hFi hok
     clear hx hG
     refine AC.region ?_
     refine AL.p (by exact g_ia_view rfl rfl rfl rfl rfl (by rfl) (by assumption)) rfl ?_
     refine AL.p (by exact g_load_refN rfl rfl rfl rfl) rfl ?_
     refine AL.q (by exact h_alloc rfl) rfl ?_
     refine AL.q (by exact h_store rfl rfl rfl rfl rfl rfl) rfl ?_
     refine AL.nil (th_n (AC.seq (AC.region ?_)))
     refine AL.p (by exact mv3 rfl) rfl ?_
     refine AL.p (by exact g_fa_ptr rfl rfl rfl rfl rfl) rfl ?_
     refine AL.p (by exact g_load_ptr rfl rfl rfl rfl rfl) rfl ?_
     refine AL.p (by exact g_fa_ptr rfl rfl rfl rfl rfl) rfl ?_
     refine AL.p (by exact g_load_ptr rfl rfl rfl rfl rfl) rfl ?_
     refine AL.q (by exact h_fun (cs := [100, 101]) en_ckFire rfl rfl (by repeat (first | exact rfl | exact DLead.same | refine ⟨_, _, rfl, ?_, ?_⟩ | refine ⟨_, rfl, ?_⟩)) (by repeat (first | exact True.intro | refine And.intro ?_ ?_ | exact DLead.same | exact rfl | refine ⟨_, _, rfl, rfl, ?_⟩ | refine ⟨_, rfl, ?_⟩ | refine ⟨_, _, rfl, ?_, ?_⟩)) hFi rfl rfl rfl rfl) rfl ?_
     refine AL.p (by exact g_not rfl) rfl ?_
     refine AL.nil (th_n ?_)
     refine AC.condB rfl (fun h3 => ?_) (fun h3 => ?_)
     ·refine AC.seq (AC.region ?_)
      refine AL.p (by exact as1 rfl) rfl ?_
      refine AL.p (by exact as1 rfl) rfl ?_
      refine AL.nil (th_n (AC.ret (ib_r (th_r (th_r (ib_r (th_r (bq_r ?_))))))))
      have q3 : G.2 = false := by simpa using h3
      rw [if_neg (by rw [← hok.1, q3]; simp)] at hrun
      have e : R = ([], false) := by rw [hRe, ← hrun] <;> rfl
      exact ret0 rfl (by rw [e]; repeat (first | exact rfl | exact DLead.same | exact DLead.nil | refine ⟨_, _, rfl, ?_, ?_⟩ | refine ⟨_, rfl, ?_⟩))
     ·refine AC.skip (ib_n (th_n (AC.region ?_)))
      refine AL.p (by exact g_arith rfl rfl rfl (by exact wrap_i64 (by omega))) rfl ?_
      refine AL.p (by exact mv1 rfl) rfl ?_
      refine AL.nil (th_n ?_)
      have q3 : okF s.net c x = true := by rw [← hok.1]; simpa using h3
      have hGQ := hok.2 q3
      rw [if_pos q3, ← hGQ] at hrun
      have hCI2 := hCI q3
      rw [← hGQ] at hCI2
      exact ⟨(k + 1, G.1), ⟨by omega, hCI2, hrun⟩, by dsimp only; omega, Weak.ren _ [(100, 100), (101, _)] hC rfl (by repeat (first | exact True.intro | refine And.intro ?_ ?_ | exact DLead.same | exact rfl | refine ⟨_, rfl, ?_⟩)) (by repeat (first | exact True.intro | refine And.intro ?_ ?_ | exact DLead.same | exact rfl | refine ⟨_, _, rfl, rfl, ?_⟩ | refine ⟨_, rfl, ?_⟩ | refine ⟨_, _, rfl, ?_, ?_⟩)) rfl rfl rfl⟩
    ·refine AC.exit (th_e (th_e (ib_y (th_n (AC.seq (AC.region ?_))))))
     refine AL.p (by exact mv3 rfl) rfl ?_
     refine AL.p (by exact g_nilP rfl) rfl ?_
     refine AL.p (by exact g_fa_ptr rfl rfl rfl rfl rfl) rfl ?_
     refine AL.p (by exact g_load_ptr rfl rfl rfl rfl rfl) rfl ?_
     refine AL.p (by exact as2 rfl) rfl ?_
     refine AL.p (by exact as1 rfl) rfl ?_
     refine AL.nil (th_n ?_)
     refine AC.weak (Weak.freeze (i := 4) rfl rfl (ownl _ _) (ownt _ _)) ?_
     refine AC.ret (bq_r ?_)
     have e : k = run.length := by omega
     rw [e, List.drop_length, firedQ] at hrun
     have e2 : R = (c.since, true) := by rw [hRe, ← hrun] <;> rfl
     exact ret0 rfl (by rw [e2]; repeat (first | exact rfl | exact DLead.same | refine ⟨_, _, rfl, ?_, ?_⟩ | refine ⟨_, rfl, ?_⟩))
theorem en_iEnT : Enters Tryz.prog 25 := enters_of Tryz.func25 rfl rfl
set_option maxHeartbeats 8000000 in
theorem l23Fired_ok (s : Stg) (run : List Tf) (hB : StgB s) (hn : run.length ≤ 100000) (hr : ∀ x, x ∈ run → -1000000 ≤ x.tm ∧ x.tm ≤ 1000000 ∧ -1000000 ≤ x.t ∧ x.t ≤ 1000000) (hok : (goodS s && timesB run) = true ∧ (firedQ s.net run (newK s)).2 = true) : ASpec Tryz.prog 27 [stgA s, .d (vTfs run)] [] (Fun1 (.tup [.ptr 0 0, aT true]) (lkChs s.net (firedQ s.net run (newK s)).1 0 1)) := by
 have hV := l2Good_spec s hB.L
 have hT := l23Times_spec run hn
 have hN0 := l23New_spec s hB
 have hK0 := newK_I (s := s)
 have hti := timesB_in (run := run)
 obtain ⟨b1, hb1⟩ : ∃ b, b = goodS s := ⟨_, rfl⟩
 obtain ⟨b2, hb2⟩ : ∃ b, b = timesB run := ⟨_, rfl⟩
 rw [← hb1] at hV hok
 rw [← hb2] at hT hti hok
 obtain ⟨Z, hZ⟩ : ∃ Z, Z = firedQ s.net run (newK s) := ⟨_, rfl⟩
 rw [← hZ] at hok ⊢
 have htl : goodS s = true → s.net.ts.length ≤ 24 := fun hg => by have := goodS_few hg; have := (goodS_bits hg).2.2; omega
 clear hb2
 refine ASpec.of Tryz.func27 rfl rfl fun C hC => ?_
 refine AC.seq (AC.region ?_)
 refine AL.q (by exact h_boxF rfl rfl) rfl ?_
 refine AL.p (by exact as1 rfl) rfl ?_
 refine AL.p (by exact as1 rfl) rfl ?_
 refine AL.nil (th_n (AC.seq (AC.seq (AC.region ?_))))
 refine AL.p (by exact g_load_refN rfl rfl rfl rfl) rfl ?_
 refine AL.q (by exact h_pure en_l2Good rfl rfl (by repeat (first | exact rfl | exact DLead.same | refine ⟨_, _, rfl, ?_, ?_⟩ | refine ⟨_, rfl, ?_⟩)) hV rfl) rfl ?_
 refine AL.p (by exact g_not rfl) rfl ?_
 refine AL.p (by exact mv1 rfl) rfl ?_
 refine AL.caseGB rfl rfl (fun h0 => ?_) (fun h0 => ?_)
 ·refine AL.not rfl rfl rfl rfl rfl ?_
  refine AL.not rfl rfl rfl rfl rfl ?_
  refine AL.not rfl rfl rfl rfl rfl ?_
  refine AL.p (by exact g_pickT (r := .d _) rfl rfl) rfl ?_
  refine AL.nil (th_n ?_)
  refine AC.condT rfl ?_
  refine AC.seq (AC.region ?_)
  refine AL.p (by exact g_build rfl rfl rfl) rfl ?_
  refine AL.q (by exact h_boxF rfl rfl) rfl ?_
  refine AL.p (by exact as1 rfl) rfl ?_
  refine AL.p (by exact as1 rfl) rfl ?_
  refine AL.nil (th_n (AC.ret (th_r (bq_r ?_))))
  have q0 : b1 = false ∨ (b1 = true ∧ b2 = false) := by exact .inl (by simpa using h0)
  exfalso; rcases q0 with q | ⟨q, q2⟩; (have := hok.1; rw [q] at this; cases this); (have := hok.1; rw [q, q2] at this; cases this)
 ·refine AL.yes rfl rfl rfl ?_
  refine AL.p (by exact mv1 rfl) rfl ?_
  refine AL.yes rfl rfl rfl ?_
  refine AL.q (by exact h_pure en_l23Times rfl rfl (by repeat (first | exact rfl | exact DLead.same | refine ⟨_, _, rfl, ?_, ?_⟩)) hT rfl) rfl ?_
  refine AL.yes rfl rfl rfl ?_
  refine AL.p (by exact g_not rfl) rfl ?_
  refine AL.p (by exact g_pickF (r := .d _) rfl rfl) rfl ?_
  refine AL.nil (th_n ?_)
  refine AC.condB rfl (fun h1 => ?_) (fun h1 => ?_)
  ·refine AC.seq (AC.region ?_)
   refine AL.p (by exact g_build rfl rfl rfl) rfl ?_
   refine AL.q (by exact h_boxF rfl rfl) rfl ?_
   refine AL.p (by exact as1 rfl) rfl ?_
   refine AL.p (by exact as1 rfl) rfl ?_
   refine AL.nil (th_n (AC.ret (th_r (bq_r ?_))))
   have q0 : b1 = false ∨ (b1 = true ∧ b2 = false) := by exact .inr ⟨by simpa using h0, by simpa using h1⟩
   exfalso; rcases q0 with q | ⟨q, q2⟩; (have := hok.1; rw [q] at this; cases this); (have := hok.1; rw [q, q2] at this; cases this)
  ·refine AC.skip (th_n (AC.seq ?_))
   have q1 : b1 = true := by simpa using h0
   have q2 : b2 = true := by simpa using h1
   have hg : goodS s = true := by rw [← hb1]; exact q1
   have hgn := (goodS_bits hg).1
   have hN := hN0 hg
   have hK := (hK0 hg).mono (T' := 1000000) (by omega)
   have htt := hti q2
   have htl2 := htl hg
   obtain ⟨K, hKK⟩ : ∃ K, K = newK s := ⟨_, rfl⟩
   rw [← hKK] at hK hN hZ
   clear hKK hN0 hK0 hti
   refine AC.region ?_
   refine AL.p (by exact g_load_refN rfl rfl rfl rfl) rfl ?_
   refine AL.q (by exact h_fun (cs := []) en_l23New rfl rfl (by repeat (first | exact rfl | exact DLead.same | refine ⟨_, _, rfl, ?_, ?_⟩ | refine ⟨_, rfl, ?_⟩)) (by repeat (exact True.intro)) hN rfl rfl rfl rfl) rfl ?_
   refine AL.p (by exact as3 rfl) rfl ?_
   refine AL.nil (th_n (AC.seq (AC.seq (AC.region ?_))))
   refine AL.p (by exact mv1 rfl) rfl ?_
   refine AL.p (by exact g_len_view (k := run.length) rfl rfl (tfL_len _)) rfl ?_
   refine AL.p (by exact mv1 rfl) rfl ?_
   refine AL.nil (th_n (AC.block ?_))
   refine AC.loop (ι := Nat × Ck) (fun x => ⟨60, 900, [(2, .d (.ref (stgD s))), (6, .ptr 100 0), (21, .d (vTfs run)), (22, aI run.length), (23, aI x.1)], chL (lkChs s.net x.2 100 101)⟩) (fun x => x.1 ≤ run.length ∧ CkI s.net x.2 1000000 ∧ firedQ s.net (run.drop x.1) x.2 = Z) (fun x => run.length - x.1) ((0, K)) ?_ (⟨Nat.zero_le _, hK, hZ.symm⟩) ?_
   ·exact Weak.ren _ [(100, _), (101, _)] hC rfl (by repeat (first | exact True.intro | refine And.intro ?_ ?_ | exact DLead.same | exact rfl | refine ⟨_, rfl, ?_⟩)) (by repeat (first | exact True.intro | refine And.intro ?_ ?_ | exact DLead.same | exact rfl | refine ⟨_, _, rfl, rfl, ?_⟩ | refine ⟨_, rfl, ?_⟩ | refine ⟨_, _, rfl, ?_, ?_⟩)) rfl rfl rfl
   ·rintro ⟨k, c⟩ ⟨hk, hI, hrun⟩
    dsimp only at hk hI hrun ⊢
    refine AC.seq (AC.region ?_)
    refine AL.p (by exact g_cmp rfl rfl rfl) rfl ?_
    refine AL.nil (th_n (AC.seq ?_))
    refine AC.condD rfl (fun h2 => ?_) (fun h2 => ?_)
    ·refine AC.skip (th_n (AC.seq (AC.block (AC.seq ?_))))
     have hk1 : k < run.length := by omega
     have hget := tfL_get hk1
     have hxb := hr _ (List.getElem_mem hk1)
     have hx0 := htt.2 k hk1
     rw [fAt_nat hk1] at hx0
     have hcl := hI.len
     have hdrop : run.drop k = run[k] :: run.drop (k + 1) := List.drop_eq_getElem_cons hk1
     rw [hdrop, firedQ] at hrun
     have hL1 := l1In_spec run[k].t 0 ((s.net.ts.length : Int) - 1)
     obtain ⟨x, hx⟩ : ∃ x, x = run[k] := ⟨_, rfl⟩
     rw [← hx] at hget hxb hx0 hrun hL1
     have hch : okF s.net c x = ((decide (0 ≤ x.t) && decide (x.t ≤ (s.net.ts.length : Int) - 1)) && (decide (0 ≤ iAt c.since x.t.toNat) && (fireQ s.net c x.t.toNat x.tm).2)) := rfl
     have hTi : (decide (0 ≤ x.t) && decide (x.t ≤ (s.net.ts.length : Int) - 1)) = true → x.t = ((x.t.toNat : Nat) : Int) ∧ x.t.toNat < s.net.ts.length := fun q => by simp only [Bool.and_eq_true, decide_eq_true_eq] at q; omega
     obtain ⟨b3, hb3⟩ : ∃ b, b = (decide (0 ≤ x.t) && decide (x.t ≤ (s.net.ts.length : Int) - 1)) := ⟨_, rfl⟩
     rw [← hb3] at hL1 hch hTi
     have hrw : b3 = true → (ints c.since)[x.t.toNat]? = some [dI (iAt c.since x.t.toNat)] := fun q => ints_iAt (by have := hTi q; omega)
     have hFi : b3 = true → ASpec Tryz.prog 53 [.ptr 0 0, aI x.t, aI x.tm] (lkChs s.net c 0 1) (Fun1 (aT (fireQ s.net c x.t.toNat x.tm).2) (lkChs s.net (fireQ s.net c x.t.toNat x.tm).1 0 1)) := fun q => by have := lkFire_spec s.net c x.t.toNat x.tm hB.n hgn hI.m hI.len (hTi q).2; rwa [← (hTi q).1] at this
     have hCI := okF_I (x := x) hI ⟨hx0, hxb.2.1⟩
     obtain ⟨F, hF⟩ : ∃ F, F = fireQ s.net c x.t.toNat x.tm := ⟨_, rfl⟩
     rw [← hF] at hFi hch hrun hCI
     clear hx hb3 hF
     refine AC.region ?_
     refine AL.p (by exact g_ia_view rfl rfl rfl rfl rfl (by rfl) (by assumption)) rfl ?_
     refine AL.p (by exact g_load_refN rfl rfl rfl rfl) rfl ?_
     refine AL.q (by exact h_alloc rfl) rfl ?_
     refine AL.q (by exact h_store rfl rfl rfl rfl rfl rfl) rfl ?_
     refine AL.nil (th_n (AC.seq ?_))
     refine AC.drawn' mixed_ok [[], [0], [], [2], [2,3], [2,3,4], [2,3,4,5], [0,1,2,3,4,5,6], [0,1,2,3,4,5,6,7], [0,1,2,3,4,5,6,7,8], [0,1,2,3,4,5,6,7,8,9], [0,1,2,3,4,5,6,7,8,9,10], [0,1,2,3,4,5,6,7,8,9,10,11], [0,1,2,3,4,5,6,7,8,9,10,11,12], [0,1,2,3,4,5,6,7,8,9], [0,1,2,3,4,5,6,7,8,9,14], [0,1,2,3,4,5,6,7,8,9,10,11,12,13,14,15], [0,1,2,3,4,5,6,7,8,9,10,11,12,13,14,15,16], [0,1,2,3,4,5,6,7,8,9,10,11,12,13,14,15,16,17], [0,1,2,3,4,5,6,7,8,9,10,11,12,13,14,15,16,17,18], [0,1,2,3,4,5,6,7,8,9,10,11,12,13,14,15,16,17,18,19], [0,1,2,3,4,5,6,7,8,9,10,11,12,13,14,15,16,17,18,19,20], [0,1,2,3,4,5,6,7,8,9,10,11,12,13,14,15,16,17,18,19,20], [0,1,2,3,4,5,6,7,8,9,10,11,12,13,14,15,16,17,18,19,20,22], [0,1,2,3,4,5,6,7,8,9,10,11,12,13,14,15,16,17,18,19,20], [0,1,2,3,4,5,6,7,8,9,10,11,12,13,14,15,16,17,18,19,20,24], [0,1,2,3,4,5,6,7,8,9,10,11,12,13,14,15,16,17,18,19,20,21,22,23,24,25], [0,1,2,3,4,5,6,7,8,9,10,11,12,13,14,15,16,17,18,19,20,21,22,23,24,25,26], [0,1,2,3,4,5,6,7,8,9,10,11,12,13,14,15,16,17,18,19,20,21,22,23,24,25,26,27]] (by decide) ?_
     refine DF.op 0 [] 29 rfl rfl rfl (.free rfl (NOp.of (by exact g_fa_ptr rfl rfl rfl rfl rfl))) rfl ?_
     refine DF.op 1 [0] 29 rfl rfl rfl (.free rfl (NOp.of (by exact g_load_ptr rfl rfl rfl rfl rfl))) rfl ?_
     refine DF.op 2 [] 29 rfl rfl rfl (.free rfl (NOp.of (by exact g_fa_ref rfl rfl rfl rfl rfl rfl))) rfl ?_
     refine DF.op 3 [2] 29 rfl rfl rfl (.free rfl (NOp.of (by exact g_fa_ref rfl rfl rfl rfl rfl rfl))) rfl ?_
     refine DF.op 4 [2,3] 29 rfl rfl rfl (.free rfl (NOp.of (by exact g_load_ref rfl rfl rfl))) rfl ?_
     refine DF.op 5 [2,3,4] 29 rfl rfl rfl (.free rfl (NOp.of (by exact g_len_view (k := s.net.ts.length) rfl rfl (tsL_len _)))) rfl ?_
     refine DF.op 6 [2,3,4,5] 29 rfl rfl rfl (.free rfl (NOp.of (by exact g_arith rfl rfl rfl (by exact wrap_i64 (by omega))))) rfl ?_
     refine DF.op 7 [0,1,2,3,4,5,6] 29 rfl rfl rfl (.free rfl (by exact h_pure en_l1In rfl rfl (by repeat (first | exact rfl | exact DLead.same | refine ⟨_, _, rfl, ?_, ?_⟩)) hL1 rfl)) rfl ?_
     refine DF.op 8 [0,1,2,3,4,5,6,7] 29 rfl rfl rfl (.free rfl (NOp.of (by exact g_not rfl))) rfl ?_
     refine DF.op 9 (List.range 9) 29 rfl rfl rfl (.free rfl (NOp.of (by exact mv1 rfl))) rfl ?_
     refine DF.caseB 9 rfl (fun h3 => ?_) (fun h3 => ?_)
     ·refine DF.op (ids := []) 10 (List.range 10) 29 rfl rfl rfl (.no rfl rfl rfl rfl rfl rfl) rfl ?_
      refine DF.op (ids := []) 11 (List.range 11) 29 rfl rfl rfl (.no rfl rfl rfl rfl rfl rfl) rfl ?_
      refine DF.op (ids := []) 12 (List.range 12) 29 rfl rfl rfl (.no rfl rfl rfl rfl rfl rfl) rfl ?_
      refine DF.op (ids := []) 13 (List.range 13) 29 rfl rfl rfl (.no rfl rfl rfl rfl rfl rfl) rfl ?_
      refine DF.op (ids := []) 14 (List.range 10) 29 rfl rfl rfl (.no rfl rfl rfl rfl rfl rfl) rfl ?_
      refine DF.op (ids := []) 15 [0,1,2,3,4,5,6,7,8,9,14] 29 rfl rfl rfl (.no rfl rfl rfl rfl rfl rfl) rfl ?_
      refine DF.op (ids := []) 16 (List.range 16) 29 rfl rfl rfl (.no rfl rfl rfl rfl rfl rfl) rfl ?_
      refine DF.op (ids := []) 17 (List.range 17) 29 rfl rfl rfl (.no rfl rfl rfl rfl rfl rfl) rfl ?_
      refine DF.op (ids := []) 18 (List.range 18) 29 rfl rfl rfl (.no rfl rfl rfl rfl rfl rfl) rfl ?_
      refine DF.op 19 (List.range 19) 29 rfl rfl rfl (.free rfl (NOp.of (by exact g_pickT (r := .d _) rfl rfl))) rfl ?_
      refine DF.op 20 (List.range 20) 29 rfl rfl rfl (.free rfl (NOp.of (by exact mv1 rfl))) rfl ?_
      refine DF.op (ids := []) 21 (List.range 21) 29 rfl rfl rfl (.no rfl rfl rfl rfl rfl rfl) rfl ?_
      refine DF.op (ids := []) 22 (List.range 21) 29 rfl rfl rfl (.no rfl rfl rfl rfl rfl rfl) rfl ?_
      refine DF.op (ids := []) 23 [0,1,2,3,4,5,6,7,8,9,10,11,12,13,14,15,16,17,18,19,20,22] 29 rfl rfl rfl (.no rfl rfl rfl rfl rfl rfl) rfl ?_
      refine DF.op (ids := []) 24 (List.range 21) 29 rfl rfl rfl (.no rfl rfl rfl rfl rfl rfl) rfl ?_
      refine DF.op (ids := []) 25 [0,1,2,3,4,5,6,7,8,9,10,11,12,13,14,15,16,17,18,19,20,24] 29 rfl rfl rfl (.no rfl rfl rfl rfl rfl rfl) rfl ?_
      refine DF.op (ids := []) 26 (List.range 26) 29 rfl rfl rfl (.no rfl rfl rfl rfl rfl rfl) rfl ?_
      refine DF.op (ids := []) 27 (List.range 27) 29 rfl rfl rfl (.no rfl rfl rfl rfl rfl rfl) rfl ?_
      refine DF.op 28 (List.range 28) 29 rfl rfl rfl (.free rfl (NOp.of (by exact g_pickT (r := .d _) rfl rfl))) rfl ?_
      refine DF.fin (ps := [(0,2),(0,3),(0,4),(0,5),(0,6),(1,2),(1,3),(1,4),(1,5),(1,6),(2,0),(2,1),(3,0),(3,1),(4,0),(4,1),(5,0),(5,1),(6,0),(6,1),(10,14),(10,15),(11,14),(11,15),(12,14),(12,15),(13,14),(13,15),(14,10),(14,11),(14,12),(14,13),(15,10),(15,11),(15,12),(15,13),(21,22),(21,23),(21,24),(21,25),(22,21),(22,24),(22,25),(23,21),(23,24),(23,25),(24,21),(24,22),(24,23),(25,21),(25,22),(25,23)]) 29 rfl (by decide +kernel) (by decide +kernel) (by rfl) ?_
      refine th_n ?_
      refine AC.condT rfl ?_
      refine AC.seq (AC.region ?_)
      refine AL.p (by exact g_build rfl rfl rfl) rfl ?_
      refine AL.q (by exact h_boxF rfl rfl) rfl ?_
      refine AL.p (by exact as1 rfl) rfl ?_
      refine AL.p (by exact as1 rfl) rfl ?_
      refine AL.nil (th_n (AC.ret (ib_r (th_r (th_r (ib_r (th_r (bq_r ?_))))))))
      have e : okF s.net c x = false := by (rw [hch, show b3 = false by simpa using h3]; rfl)
      rw [if_neg (by rw [e]; simp)] at hrun
      exfalso; have := hok.2; rw [← hrun] at this; cases this
     ·refine DF.op 10 (List.range 10) 29 rfl rfl rfl (.yes rfl rfl rfl rfl (NOp.of (by exact mv3 rfl))) rfl ?_
      refine DF.op 11 (List.range 11) 29 rfl rfl rfl (.yes rfl rfl rfl rfl (NOp.of (by exact g_nilP rfl))) rfl ?_
      refine DF.op 12 (List.range 12) 29 rfl rfl rfl (.yes rfl rfl rfl rfl (NOp.of (by exact g_fa_ptr rfl rfl rfl rfl rfl))) rfl ?_
      refine DF.op 13 (List.range 13) 29 rfl rfl rfl (.yes rfl rfl rfl rfl (NOp.of (by exact g_load_ptr rfl rfl rfl rfl rfl))) rfl ?_
      refine DF.op 14 (List.range 10) 29 rfl rfl rfl (.yes rfl rfl rfl rfl (NOp.of (by exact g_fa_ptr rfl rfl rfl rfl rfl))) rfl ?_
      refine DF.op 15 [0,1,2,3,4,5,6,7,8,9,14] 29 rfl rfl rfl (.yes rfl rfl rfl rfl (NOp.of (by exact g_load_ptr rfl rfl rfl rfl rfl))) rfl ?_
      refine DF.op 16 (List.range 16) 29 rfl rfl rfl (.yes rfl rfl rfl rfl (NOp.of (by exact g_ia_own (i := x.t.toNat) (l := c.since.length) rfl rfl rfl rfl rfl (hTi (by simpa using h3)).1 (by have := (hTi (by simpa using h3)).2; omega) (Nat.mul_one _)))) rfl ?_
      refine DF.op 17 (List.range 17) 29 rfl rfl rfl (.yes rfl rfl rfl rfl (NOp.of (by exact g_load_arr1 rfl rfl rfl rfl (hrw (by simpa using h3))))) rfl ?_
      refine DF.op 18 (List.range 18) 29 rfl rfl rfl (.yes rfl rfl rfl rfl (NOp.of (by exact g_cmp rfl rfl rfl))) rfl ?_
      refine DF.op 19 (List.range 19) 29 rfl rfl rfl (.free rfl (NOp.of (by exact g_pickF (r := .d _) rfl rfl))) rfl ?_
      refine DF.op 20 (List.range 20) 29 rfl rfl rfl (.free rfl (NOp.of (by exact mv1 rfl))) rfl ?_
      refine DF.caseD 20 rfl (fun h4 => ?_) (fun h4 => ?_)
      ·refine DF.op (ids := []) 21 (List.range 21) 29 rfl rfl rfl (.no rfl rfl rfl rfl rfl rfl) rfl ?_
       refine DF.op (ids := []) 22 (List.range 21) 29 rfl rfl rfl (.no rfl rfl rfl rfl rfl rfl) rfl ?_
       refine DF.op (ids := []) 23 [0,1,2,3,4,5,6,7,8,9,10,11,12,13,14,15,16,17,18,19,20,22] 29 rfl rfl rfl (.no rfl rfl rfl rfl rfl rfl) rfl ?_
       refine DF.op (ids := []) 24 (List.range 21) 29 rfl rfl rfl (.no rfl rfl rfl rfl rfl rfl) rfl ?_
       refine DF.op (ids := []) 25 [0,1,2,3,4,5,6,7,8,9,10,11,12,13,14,15,16,17,18,19,20,24] 29 rfl rfl rfl (.no rfl rfl rfl rfl rfl rfl) rfl ?_
       refine DF.op (ids := []) 26 (List.range 26) 29 rfl rfl rfl (.no rfl rfl rfl rfl rfl rfl) rfl ?_
       refine DF.op (ids := []) 27 (List.range 27) 29 rfl rfl rfl (.no rfl rfl rfl rfl rfl rfl) rfl ?_
       refine DF.op 28 (List.range 28) 29 rfl rfl rfl (.free rfl (NOp.of (by exact g_pickT (r := .d _) rfl rfl))) rfl ?_
       refine DF.fin (ps := [(0,2),(0,3),(0,4),(0,5),(0,6),(1,2),(1,3),(1,4),(1,5),(1,6),(2,0),(2,1),(3,0),(3,1),(4,0),(4,1),(5,0),(5,1),(6,0),(6,1),(10,14),(10,15),(11,14),(11,15),(12,14),(12,15),(13,14),(13,15),(14,10),(14,11),(14,12),(14,13),(15,10),(15,11),(15,12),(15,13),(21,22),(21,23),(21,24),(21,25),(22,21),(22,24),(22,25),(23,21),(23,24),(23,25),(24,21),(24,22),(24,23),(25,21),(25,22),(25,23)]) 29 rfl (by decide +kernel) (by decide +kernel) (by rfl) ?_
       refine th_n ?_
       refine AC.condT rfl ?_
       refine AC.seq (AC.region ?_)
       refine AL.p (by exact g_build rfl rfl rfl) rfl ?_
       refine AL.q (by exact h_boxF rfl rfl) rfl ?_
       refine AL.p (by exact as1 rfl) rfl ?_
       refine AL.p (by exact as1 rfl) rfl ?_
       refine AL.nil (th_n (AC.ret (ib_r (th_r (th_r (ib_r (th_r (bq_r ?_))))))))
       have e : okF s.net c x = false := by (rw [hch, decide_eq_false (show ¬ 0 ≤ iAt c.since x.t.toNat by omega)]; simp)
       rw [if_neg (by rw [e]; simp)] at hrun
       exfalso; have := hok.2; rw [← hrun] at this; cases this
      ·refine DF.op 21 (List.range 21) 29 rfl rfl rfl (.yes rfl rfl rfl rfl (NOp.of (by exact mv3 rfl))) rfl ?_
       refine DF.op 22 (List.range 21) 29 rfl rfl rfl (.yes rfl rfl rfl rfl (NOp.of (by exact g_fa_ptr rfl rfl rfl rfl rfl))) rfl ?_
       refine DF.op 23 [0,1,2,3,4,5,6,7,8,9,10,11,12,13,14,15,16,17,18,19,20,22] 29 rfl rfl rfl (.yes rfl rfl rfl rfl (NOp.of (by exact g_load_ptr rfl rfl rfl rfl rfl))) rfl ?_
       refine DF.op 24 (List.range 21) 29 rfl rfl rfl (.yes rfl rfl rfl rfl (NOp.of (by exact g_fa_ptr rfl rfl rfl rfl rfl))) rfl ?_
       refine DF.op 25 [0,1,2,3,4,5,6,7,8,9,10,11,12,13,14,15,16,17,18,19,20,24] 29 rfl rfl rfl (.yes rfl rfl rfl rfl (NOp.of (by exact g_load_ptr rfl rfl rfl rfl rfl))) rfl ?_
       refine DF.op 26 (List.range 26) 29 rfl rfl rfl (.yes rfl rfl rfl rfl (by exact h_fun (cs := [100, 101]) en_lkFire rfl rfl (by repeat (first | exact rfl | exact DLead.same | refine ⟨_, _, rfl, ?_, ?_⟩ | refine ⟨_, rfl, ?_⟩)) (by repeat (first | exact True.intro | refine And.intro ?_ ?_ | exact DLead.same | exact rfl | refine ⟨_, _, rfl, rfl, ?_⟩ | refine ⟨_, rfl, ?_⟩ | refine ⟨_, _, rfl, ?_, ?_⟩)) (hFi (by simpa using h3)) rfl rfl rfl rfl)) rfl ?_
       refine DF.op 27 (List.range 27) 29 rfl rfl rfl (.yes rfl rfl rfl rfl (NOp.of (by exact g_not rfl))) rfl ?_
       refine DF.op 28 (List.range 28) 29 rfl rfl rfl (.free rfl (NOp.of (by exact g_pickF (r := .d _) rfl rfl))) rfl ?_
       refine DF.fin (ps := [(0,2),(0,3),(0,4),(0,5),(0,6),(1,2),(1,3),(1,4),(1,5),(1,6),(2,0),(2,1),(3,0),(3,1),(4,0),(4,1),(5,0),(5,1),(6,0),(6,1),(10,14),(10,15),(11,14),(11,15),(12,14),(12,15),(13,14),(13,15),(14,10),(14,11),(14,12),(14,13),(15,10),(15,11),(15,12),(15,13),(21,22),(21,23),(21,24),(21,25),(22,21),(22,24),(22,25),(23,21),(23,24),(23,25),(24,21),(24,22),(24,23),(25,21),(25,22),(25,23)]) 29 rfl (by decide +kernel) (by decide +kernel) (by rfl) ?_
       refine th_n ?_
       refine AC.condB rfl (fun h5 => ?_) (fun h5 => ?_)
       ·refine AC.seq (AC.region ?_)
        refine AL.p (by exact g_build rfl rfl rfl) rfl ?_
        refine AL.q (by exact h_boxF rfl rfl) rfl ?_
        refine AL.p (by exact as1 rfl) rfl ?_
        refine AL.p (by exact as1 rfl) rfl ?_
        refine AL.nil (th_n (AC.ret (ib_r (th_r (th_r (ib_r (th_r (bq_r ?_))))))))
        have e : okF s.net c x = false := by (rw [hch, show F.2 = false by simpa using h5]; simp)
        rw [if_neg (by rw [e]; simp)] at hrun
        exfalso; have := hok.2; rw [← hrun] at this; cases this
       ·refine AC.skip (ib_n (th_n (AC.region ?_)))
        refine AL.p (by exact g_arith rfl rfl rfl (by exact wrap_i64 (by omega))) rfl ?_
        refine AL.p (by exact mv1 rfl) rfl ?_
        refine AL.nil (th_n ?_)
        have e : okF s.net c x = true := by rw [hch, show b3 = true by simpa using h3, decide_eq_true (show 0 ≤ iAt c.since x.t.toNat by omega), show F.2 = true by simpa using h5]; rfl
        rw [if_pos e] at hrun
        exact ⟨(k + 1, F.1), ⟨by omega, hCI e, hrun⟩, by dsimp only; omega, Weak.ren _ [(100, 100), (101, 101)] hC rfl (by repeat (first | exact True.intro | refine And.intro ?_ ?_ | exact DLead.same | exact rfl | refine ⟨_, rfl, ?_⟩)) (by repeat (first | exact True.intro | refine And.intro ?_ ?_ | exact DLead.same | exact rfl | refine ⟨_, _, rfl, rfl, ?_⟩ | refine ⟨_, rfl, ?_⟩ | refine ⟨_, _, rfl, ?_, ?_⟩)) rfl rfl rfl⟩
    ·refine AC.exit (th_e (th_e (ib_y (th_n (AC.seq (AC.region ?_))))))
     refine AL.p (by exact mv3 rfl) rfl ?_
     refine AL.p (by exact as3 rfl) rfl ?_
     refine AL.p (by exact as1 rfl) rfl ?_
     refine AL.nil (th_n (AC.ret (bq_r ?_)))
     have e : k = run.length := by omega
     rw [e, List.drop_length, firedQ] at hrun
     exact retN [(0, 100), (1, 101)] rfl (by repeat (first | exact rfl | exact DLead.same | refine ⟨_, _, rfl, ?_, ?_⟩ | refine ⟨_, rfl, ?_⟩)) (by rw [← hrun]; repeat (first | exact True.intro | refine And.intro ?_ ?_ | exact DLead.same | exact rfl | refine ⟨_, _, rfl, rfl, ?_⟩ | refine ⟨_, rfl, ?_⟩ | refine ⟨_, _, rfl, ?_, ?_⟩)) rfl rfl
theorem en_l23Fired : Enters Tryz.prog 27 := enters_of Tryz.func27 rfl rfl
set_option maxHeartbeats 8000000 in
theorem l23Fired_no (s : Stg) (run : List Tf) (hB : StgB s) (hn : run.length ≤ 100000) (hr : ∀ x, x ∈ run → -1000000 ≤ x.tm ∧ x.tm ≤ 1000000 ∧ -1000000 ≤ x.t ∧ x.t ≤ 1000000) (hok : ¬ ((goodS s && timesB run) = true ∧ (firedQ s.net run (newK s)).2 = true)) : ASpec Tryz.prog 27 [stgA s, .d (vTfs run)] [] (Pure1 (.tup [.dead, aT false])) := by
 have hV := l2Good_spec s hB.L
 have hT := l23Times_spec run hn
 have hN0 := l23New_spec s hB
 have hK0 := newK_I (s := s)
 have hti := timesB_in (run := run)
 obtain ⟨b1, hb1⟩ : ∃ b, b = goodS s := ⟨_, rfl⟩
 obtain ⟨b2, hb2⟩ : ∃ b, b = timesB run := ⟨_, rfl⟩
 rw [← hb1] at hV hok
 rw [← hb2] at hT hti hok
 obtain ⟨Z, hZ⟩ : ∃ Z, Z = firedQ s.net run (newK s) := ⟨_, rfl⟩
 rw [← hZ] at hok
 have htl : goodS s = true → s.net.ts.length ≤ 24 := fun hg => by have := goodS_few hg; have := (goodS_bits hg).2.2; omega
 clear hb2
 refine ASpec.of Tryz.func27 rfl rfl fun C hC => ?_
 refine AC.seq (AC.region ?_)
 refine AL.q (by exact h_boxF rfl rfl) rfl ?_
 refine AL.p (by exact as1 rfl) rfl ?_
 refine AL.p (by exact as1 rfl) rfl ?_
 refine AL.nil (th_n (AC.seq (AC.seq (AC.region ?_))))
 refine AL.p (by exact g_load_refN rfl rfl rfl rfl) rfl ?_
 refine AL.q (by exact h_pure en_l2Good rfl rfl (by repeat (first | exact rfl | exact DLead.same | refine ⟨_, _, rfl, ?_, ?_⟩ | refine ⟨_, rfl, ?_⟩)) hV rfl) rfl ?_
 refine AL.p (by exact g_not rfl) rfl ?_
 refine AL.p (by exact mv1 rfl) rfl ?_
 refine AL.caseGB rfl rfl (fun h0 => ?_) (fun h0 => ?_)
 ·refine AL.not rfl rfl rfl rfl rfl ?_
  refine AL.not rfl rfl rfl rfl rfl ?_
  refine AL.not rfl rfl rfl rfl rfl ?_
  refine AL.p (by exact g_pickT (r := .d _) rfl rfl) rfl ?_
  refine AL.nil (th_n ?_)
  refine AC.condT rfl ?_
  refine AC.seq (AC.region ?_)
  refine AL.p (by exact g_build rfl rfl rfl) rfl ?_
  refine AL.q (by exact h_boxF rfl rfl) rfl ?_
  refine AL.p (by exact as1 rfl) rfl ?_
  refine AL.p (by exact as1 rfl) rfl ?_
  refine AL.nil (th_n (AC.ret (th_r (bq_r ?_))))
  have q0 : b1 = false ∨ (b1 = true ∧ b2 = false) := by exact .inl (by simpa using h0)
  exact ret0 rfl (by repeat (first | exact True.intro | exact DLead.same | exact rfl | refine ⟨_, rfl, ?_⟩ | refine ⟨_, _, rfl, ?_, ?_⟩))
 ·refine AL.yes rfl rfl rfl ?_
  refine AL.p (by exact mv1 rfl) rfl ?_
  refine AL.yes rfl rfl rfl ?_
  refine AL.q (by exact h_pure en_l23Times rfl rfl (by repeat (first | exact rfl | exact DLead.same | refine ⟨_, _, rfl, ?_, ?_⟩)) hT rfl) rfl ?_
  refine AL.yes rfl rfl rfl ?_
  refine AL.p (by exact g_not rfl) rfl ?_
  refine AL.p (by exact g_pickF (r := .d _) rfl rfl) rfl ?_
  refine AL.nil (th_n ?_)
  refine AC.condB rfl (fun h1 => ?_) (fun h1 => ?_)
  ·refine AC.seq (AC.region ?_)
   refine AL.p (by exact g_build rfl rfl rfl) rfl ?_
   refine AL.q (by exact h_boxF rfl rfl) rfl ?_
   refine AL.p (by exact as1 rfl) rfl ?_
   refine AL.p (by exact as1 rfl) rfl ?_
   refine AL.nil (th_n (AC.ret (th_r (bq_r ?_))))
   have q0 : b1 = false ∨ (b1 = true ∧ b2 = false) := by exact .inr ⟨by simpa using h0, by simpa using h1⟩
   exact ret0 rfl (by repeat (first | exact True.intro | exact DLead.same | exact rfl | refine ⟨_, rfl, ?_⟩ | refine ⟨_, _, rfl, ?_, ?_⟩))
  ·refine AC.skip (th_n (AC.seq ?_))
   have q1 : b1 = true := by simpa using h0
   have q2 : b2 = true := by simpa using h1
   have hg : goodS s = true := by rw [← hb1]; exact q1
   have hgn := (goodS_bits hg).1
   have hN := hN0 hg
   have hK := (hK0 hg).mono (T' := 1000000) (by omega)
   have htt := hti q2
   have htl2 := htl hg
   obtain ⟨K, hKK⟩ : ∃ K, K = newK s := ⟨_, rfl⟩
   rw [← hKK] at hK hN hZ
   clear hKK hN0 hK0 hti
   refine AC.region ?_
   refine AL.p (by exact g_load_refN rfl rfl rfl rfl) rfl ?_
   refine AL.q (by exact h_fun (cs := []) en_l23New rfl rfl (by repeat (first | exact rfl | exact DLead.same | refine ⟨_, _, rfl, ?_, ?_⟩ | refine ⟨_, rfl, ?_⟩)) (by repeat (exact True.intro)) hN rfl rfl rfl rfl) rfl ?_
   refine AL.p (by exact as3 rfl) rfl ?_
   refine AL.nil (th_n (AC.seq (AC.seq (AC.region ?_))))
   refine AL.p (by exact mv1 rfl) rfl ?_
   refine AL.p (by exact g_len_view (k := run.length) rfl rfl (tfL_len _)) rfl ?_
   refine AL.p (by exact mv1 rfl) rfl ?_
   refine AL.nil (th_n (AC.block ?_))
   refine AC.loop (ι := Nat × Ck) (fun x => ⟨60, 900, [(2, .d (.ref (stgD s))), (6, .ptr 100 0), (21, .d (vTfs run)), (22, aI run.length), (23, aI x.1)], chL (lkChs s.net x.2 100 101)⟩) (fun x => x.1 ≤ run.length ∧ CkI s.net x.2 1000000 ∧ firedQ s.net (run.drop x.1) x.2 = Z) (fun x => run.length - x.1) ((0, K)) ?_ (⟨Nat.zero_le _, hK, hZ.symm⟩) ?_
   ·exact Weak.ren _ [(100, _), (101, _)] hC rfl (by repeat (first | exact True.intro | refine And.intro ?_ ?_ | exact DLead.same | exact rfl | refine ⟨_, rfl, ?_⟩)) (by repeat (first | exact True.intro | refine And.intro ?_ ?_ | exact DLead.same | exact rfl | refine ⟨_, _, rfl, rfl, ?_⟩ | refine ⟨_, rfl, ?_⟩ | refine ⟨_, _, rfl, ?_, ?_⟩)) rfl rfl rfl
   ·rintro ⟨k, c⟩ ⟨hk, hI, hrun⟩
    dsimp only at hk hI hrun ⊢
    refine AC.seq (AC.region ?_)
    refine AL.p (by exact g_cmp rfl rfl rfl) rfl ?_
    refine AL.nil (th_n (AC.seq ?_))
    refine AC.condD rfl (fun h2 => ?_) (fun h2 => ?_)
    ·refine AC.skip (th_n (AC.seq (AC.block (AC.seq ?_))))
     have hk1 : k < run.length := by omega
     have hget := tfL_get hk1
     have hxb := hr _ (List.getElem_mem hk1)
     have hx0 := htt.2 k hk1
     rw [fAt_nat hk1] at hx0
     have hcl := hI.len
     have hdrop : run.drop k = run[k] :: run.drop (k + 1) := List.drop_eq_getElem_cons hk1
     rw [hdrop, firedQ] at hrun
     have hL1 := l1In_spec run[k].t 0 ((s.net.ts.length : Int) - 1)
     obtain ⟨x, hx⟩ : ∃ x, x = run[k] := ⟨_, rfl⟩
     rw [← hx] at hget hxb hx0 hrun hL1
     have hch : okF s.net c x = ((decide (0 ≤ x.t) && decide (x.t ≤ (s.net.ts.length : Int) - 1)) && (decide (0 ≤ iAt c.since x.t.toNat) && (fireQ s.net c x.t.toNat x.tm).2)) := rfl
     have hTi : (decide (0 ≤ x.t) && decide (x.t ≤ (s.net.ts.length : Int) - 1)) = true → x.t = ((x.t.toNat : Nat) : Int) ∧ x.t.toNat < s.net.ts.length := fun q => by simp only [Bool.and_eq_true, decide_eq_true_eq] at q; omega
     obtain ⟨b3, hb3⟩ : ∃ b, b = (decide (0 ≤ x.t) && decide (x.t ≤ (s.net.ts.length : Int) - 1)) := ⟨_, rfl⟩
     rw [← hb3] at hL1 hch hTi
     have hrw : b3 = true → (ints c.since)[x.t.toNat]? = some [dI (iAt c.since x.t.toNat)] := fun q => ints_iAt (by have := hTi q; omega)
     have hFi : b3 = true → ASpec Tryz.prog 53 [.ptr 0 0, aI x.t, aI x.tm] (lkChs s.net c 0 1) (Fun1 (aT (fireQ s.net c x.t.toNat x.tm).2) (lkChs s.net (fireQ s.net c x.t.toNat x.tm).1 0 1)) := fun q => by have := lkFire_spec s.net c x.t.toNat x.tm hB.n hgn hI.m hI.len (hTi q).2; rwa [← (hTi q).1] at this
     have hCI := okF_I (x := x) hI ⟨hx0, hxb.2.1⟩
     obtain ⟨F, hF⟩ : ∃ F, F = fireQ s.net c x.t.toNat x.tm := ⟨_, rfl⟩
     rw [← hF] at hFi hch hrun hCI
     clear hx hb3 hF
     refine AC.region ?_
     refine AL.p (by exact g_ia_view rfl rfl rfl rfl rfl (by rfl) (by assumption)) rfl ?_
     refine AL.p (by exact g_load_refN rfl rfl rfl rfl) rfl ?_
     refine AL.q (by exact h_alloc rfl) rfl ?_
     refine AL.q (by exact h_store rfl rfl rfl rfl rfl rfl) rfl ?_
     refine AL.nil (th_n (AC.seq ?_))
     refine AC.drawn' mixed_ok [[], [0], [], [2], [2,3], [2,3,4], [2,3,4,5], [0,1,2,3,4,5,6], [0,1,2,3,4,5,6,7], [0,1,2,3,4,5,6,7,8], [0,1,2,3,4,5,6,7,8,9], [0,1,2,3,4,5,6,7,8,9,10], [0,1,2,3,4,5,6,7,8,9,10,11], [0,1,2,3,4,5,6,7,8,9,10,11,12], [0,1,2,3,4,5,6,7,8,9], [0,1,2,3,4,5,6,7,8,9,14], [0,1,2,3,4,5,6,7,8,9,10,11,12,13,14,15], [0,1,2,3,4,5,6,7,8,9,10,11,12,13,14,15,16], [0,1,2,3,4,5,6,7,8,9,10,11,12,13,14,15,16,17], [0,1,2,3,4,5,6,7,8,9,10,11,12,13,14,15,16,17,18], [0,1,2,3,4,5,6,7,8,9,10,11,12,13,14,15,16,17,18,19], [0,1,2,3,4,5,6,7,8,9,10,11,12,13,14,15,16,17,18,19,20], [0,1,2,3,4,5,6,7,8,9,10,11,12,13,14,15,16,17,18,19,20], [0,1,2,3,4,5,6,7,8,9,10,11,12,13,14,15,16,17,18,19,20,22], [0,1,2,3,4,5,6,7,8,9,10,11,12,13,14,15,16,17,18,19,20], [0,1,2,3,4,5,6,7,8,9,10,11,12,13,14,15,16,17,18,19,20,24], [0,1,2,3,4,5,6,7,8,9,10,11,12,13,14,15,16,17,18,19,20,21,22,23,24,25], [0,1,2,3,4,5,6,7,8,9,10,11,12,13,14,15,16,17,18,19,20,21,22,23,24,25,26], [0,1,2,3,4,5,6,7,8,9,10,11,12,13,14,15,16,17,18,19,20,21,22,23,24,25,26,27]] (by decide) ?_
     refine DF.op 0 [] 29 rfl rfl rfl (.free rfl (NOp.of (by exact g_fa_ptr rfl rfl rfl rfl rfl))) rfl ?_
     refine DF.op 1 [0] 29 rfl rfl rfl (.free rfl (NOp.of (by exact g_load_ptr rfl rfl rfl rfl rfl))) rfl ?_
     refine DF.op 2 [] 29 rfl rfl rfl (.free rfl (NOp.of (by exact g_fa_ref rfl rfl rfl rfl rfl rfl))) rfl ?_
     refine DF.op 3 [2] 29 rfl rfl rfl (.free rfl (NOp.of (by exact g_fa_ref rfl rfl rfl rfl rfl rfl))) rfl ?_
     refine DF.op 4 [2,3] 29 rfl rfl rfl (.free rfl (NOp.of (by exact g_load_ref rfl rfl rfl))) rfl ?_
     refine DF.op 5 [2,3,4] 29 rfl rfl rfl (.free rfl (NOp.of (by exact g_len_view (k := s.net.ts.length) rfl rfl (tsL_len _)))) rfl ?_
     refine DF.op 6 [2,3,4,5] 29 rfl rfl rfl (.free rfl (NOp.of (by exact g_arith rfl rfl rfl (by exact wrap_i64 (by omega))))) rfl ?_
     refine DF.op 7 [0,1,2,3,4,5,6] 29 rfl rfl rfl (.free rfl (by exact h_pure en_l1In rfl rfl (by repeat (first | exact rfl | exact DLead.same | refine ⟨_, _, rfl, ?_, ?_⟩)) hL1 rfl)) rfl ?_
     refine DF.op 8 [0,1,2,3,4,5,6,7] 29 rfl rfl rfl (.free rfl (NOp.of (by exact g_not rfl))) rfl ?_
     refine DF.op 9 (List.range 9) 29 rfl rfl rfl (.free rfl (NOp.of (by exact mv1 rfl))) rfl ?_
     refine DF.caseB 9 rfl (fun h3 => ?_) (fun h3 => ?_)
     ·refine DF.op (ids := []) 10 (List.range 10) 29 rfl rfl rfl (.no rfl rfl rfl rfl rfl rfl) rfl ?_
      refine DF.op (ids := []) 11 (List.range 11) 29 rfl rfl rfl (.no rfl rfl rfl rfl rfl rfl) rfl ?_
      refine DF.op (ids := []) 12 (List.range 12) 29 rfl rfl rfl (.no rfl rfl rfl rfl rfl rfl) rfl ?_
      refine DF.op (ids := []) 13 (List.range 13) 29 rfl rfl rfl (.no rfl rfl rfl rfl rfl rfl) rfl ?_
      refine DF.op (ids := []) 14 (List.range 10) 29 rfl rfl rfl (.no rfl rfl rfl rfl rfl rfl) rfl ?_
      refine DF.op (ids := []) 15 [0,1,2,3,4,5,6,7,8,9,14] 29 rfl rfl rfl (.no rfl rfl rfl rfl rfl rfl) rfl ?_
      refine DF.op (ids := []) 16 (List.range 16) 29 rfl rfl rfl (.no rfl rfl rfl rfl rfl rfl) rfl ?_
      refine DF.op (ids := []) 17 (List.range 17) 29 rfl rfl rfl (.no rfl rfl rfl rfl rfl rfl) rfl ?_
      refine DF.op (ids := []) 18 (List.range 18) 29 rfl rfl rfl (.no rfl rfl rfl rfl rfl rfl) rfl ?_
      refine DF.op 19 (List.range 19) 29 rfl rfl rfl (.free rfl (NOp.of (by exact g_pickT (r := .d _) rfl rfl))) rfl ?_
      refine DF.op 20 (List.range 20) 29 rfl rfl rfl (.free rfl (NOp.of (by exact mv1 rfl))) rfl ?_
      refine DF.op (ids := []) 21 (List.range 21) 29 rfl rfl rfl (.no rfl rfl rfl rfl rfl rfl) rfl ?_
      refine DF.op (ids := []) 22 (List.range 21) 29 rfl rfl rfl (.no rfl rfl rfl rfl rfl rfl) rfl ?_
      refine DF.op (ids := []) 23 [0,1,2,3,4,5,6,7,8,9,10,11,12,13,14,15,16,17,18,19,20,22] 29 rfl rfl rfl (.no rfl rfl rfl rfl rfl rfl) rfl ?_
      refine DF.op (ids := []) 24 (List.range 21) 29 rfl rfl rfl (.no rfl rfl rfl rfl rfl rfl) rfl ?_
      refine DF.op (ids := []) 25 [0,1,2,3,4,5,6,7,8,9,10,11,12,13,14,15,16,17,18,19,20,24] 29 rfl rfl rfl (.no rfl rfl rfl rfl rfl rfl) rfl ?_
      refine DF.op (ids := []) 26 (List.range 26) 29 rfl rfl rfl (.no rfl rfl rfl rfl rfl rfl) rfl ?_
      refine DF.op (ids := []) 27 (List.range 27) 29 rfl rfl rfl (.no rfl rfl rfl rfl rfl rfl) rfl ?_
      refine DF.op 28 (List.range 28) 29 rfl rfl rfl (.free rfl (NOp.of (by exact g_pickT (r := .d _) rfl rfl))) rfl ?_
      refine DF.fin (ps := [(0,2),(0,3),(0,4),(0,5),(0,6),(1,2),(1,3),(1,4),(1,5),(1,6),(2,0),(2,1),(3,0),(3,1),(4,0),(4,1),(5,0),(5,1),(6,0),(6,1),(10,14),(10,15),(11,14),(11,15),(12,14),(12,15),(13,14),(13,15),(14,10),(14,11),(14,12),(14,13),(15,10),(15,11),(15,12),(15,13),(21,22),(21,23),(21,24),(21,25),(22,21),(22,24),(22,25),(23,21),(23,24),(23,25),(24,21),(24,22),(24,23),(25,21),(25,22),(25,23)]) 29 rfl (by decide +kernel) (by decide +kernel) (by rfl) ?_
      refine th_n ?_
      refine AC.condT rfl ?_
      refine AC.seq (AC.region ?_)
      refine AL.p (by exact g_build rfl rfl rfl) rfl ?_
      refine AL.q (by exact h_boxF rfl rfl) rfl ?_
      refine AL.p (by exact as1 rfl) rfl ?_
      refine AL.p (by exact as1 rfl) rfl ?_
      refine AL.nil (th_n (AC.ret (ib_r (th_r (th_r (ib_r (th_r (bq_r ?_))))))))
      have e : okF s.net c x = false := by (rw [hch, show b3 = false by simpa using h3]; rfl)
      rw [if_neg (by rw [e]; simp)] at hrun
      exact ret0 rfl (by repeat (first | exact True.intro | exact DLead.same | exact rfl | refine ⟨_, rfl, ?_⟩ | refine ⟨_, _, rfl, ?_, ?_⟩))
     ·refine DF.op 10 (List.range 10) 29 rfl rfl rfl (.yes rfl rfl rfl rfl (NOp.of (by exact mv3 rfl))) rfl ?_
      refine DF.op 11 (List.range 11) 29 rfl rfl rfl (.yes rfl rfl rfl rfl (NOp.of (by exact g_nilP rfl))) rfl ?_
      refine DF.op 12 (List.range 12) 29 rfl rfl rfl (.yes rfl rfl rfl rfl (NOp.of (by exact g_fa_ptr rfl rfl rfl rfl rfl))) rfl ?_
      refine DF.op 13 (List.range 13) 29 rfl rfl rfl (.yes rfl rfl rfl rfl (NOp.of (by exact g_load_ptr rfl rfl rfl rfl rfl))) rfl ?_
      refine DF.op 14 (List.range 10) 29 rfl rfl rfl (.yes rfl rfl rfl rfl (NOp.of (by exact g_fa_ptr rfl rfl rfl rfl rfl))) rfl ?_
      refine DF.op 15 [0,1,2,3,4,5,6,7,8,9,14] 29 rfl rfl rfl (.yes rfl rfl rfl rfl (NOp.of (by exact g_load_ptr rfl rfl rfl rfl rfl))) rfl ?_
      refine DF.op 16 (List.range 16) 29 rfl rfl rfl (.yes rfl rfl rfl rfl (NOp.of (by exact g_ia_own (i := x.t.toNat) (l := c.since.length) rfl rfl rfl rfl rfl (hTi (by simpa using h3)).1 (by have := (hTi (by simpa using h3)).2; omega) (Nat.mul_one _)))) rfl ?_
      refine DF.op 17 (List.range 17) 29 rfl rfl rfl (.yes rfl rfl rfl rfl (NOp.of (by exact g_load_arr1 rfl rfl rfl rfl (hrw (by simpa using h3))))) rfl ?_
      refine DF.op 18 (List.range 18) 29 rfl rfl rfl (.yes rfl rfl rfl rfl (NOp.of (by exact g_cmp rfl rfl rfl))) rfl ?_
      refine DF.op 19 (List.range 19) 29 rfl rfl rfl (.free rfl (NOp.of (by exact g_pickF (r := .d _) rfl rfl))) rfl ?_
      refine DF.op 20 (List.range 20) 29 rfl rfl rfl (.free rfl (NOp.of (by exact mv1 rfl))) rfl ?_
      refine DF.caseD 20 rfl (fun h4 => ?_) (fun h4 => ?_)
      ·refine DF.op (ids := []) 21 (List.range 21) 29 rfl rfl rfl (.no rfl rfl rfl rfl rfl rfl) rfl ?_
       refine DF.op (ids := []) 22 (List.range 21) 29 rfl rfl rfl (.no rfl rfl rfl rfl rfl rfl) rfl ?_
       refine DF.op (ids := []) 23 [0,1,2,3,4,5,6,7,8,9,10,11,12,13,14,15,16,17,18,19,20,22] 29 rfl rfl rfl (.no rfl rfl rfl rfl rfl rfl) rfl ?_
       refine DF.op (ids := []) 24 (List.range 21) 29 rfl rfl rfl (.no rfl rfl rfl rfl rfl rfl) rfl ?_
       refine DF.op (ids := []) 25 [0,1,2,3,4,5,6,7,8,9,10,11,12,13,14,15,16,17,18,19,20,24] 29 rfl rfl rfl (.no rfl rfl rfl rfl rfl rfl) rfl ?_
       refine DF.op (ids := []) 26 (List.range 26) 29 rfl rfl rfl (.no rfl rfl rfl rfl rfl rfl) rfl ?_
       refine DF.op (ids := []) 27 (List.range 27) 29 rfl rfl rfl (.no rfl rfl rfl rfl rfl rfl) rfl ?_
       refine DF.op 28 (List.range 28) 29 rfl rfl rfl (.free rfl (NOp.of (by exact g_pickT (r := .d _) rfl rfl))) rfl ?_
       refine DF.fin (ps := [(0,2),(0,3),(0,4),(0,5),(0,6),(1,2),(1,3),(1,4),(1,5),(1,6),(2,0),(2,1),(3,0),(3,1),(4,0),(4,1),(5,0),(5,1),(6,0),(6,1),(10,14),(10,15),(11,14),(11,15),(12,14),(12,15),(13,14),(13,15),(14,10),(14,11),(14,12),(14,13),(15,10),(15,11),(15,12),(15,13),(21,22),(21,23),(21,24),(21,25),(22,21),(22,24),(22,25),(23,21),(23,24),(23,25),(24,21),(24,22),(24,23),(25,21),(25,22),(25,23)]) 29 rfl (by decide +kernel) (by decide +kernel) (by rfl) ?_
       refine th_n ?_
       refine AC.condT rfl ?_
       refine AC.seq (AC.region ?_)
       refine AL.p (by exact g_build rfl rfl rfl) rfl ?_
       refine AL.q (by exact h_boxF rfl rfl) rfl ?_
       refine AL.p (by exact as1 rfl) rfl ?_
       refine AL.p (by exact as1 rfl) rfl ?_
       refine AL.nil (th_n (AC.ret (ib_r (th_r (th_r (ib_r (th_r (bq_r ?_))))))))
       have e : okF s.net c x = false := by (rw [hch, decide_eq_false (show ¬ 0 ≤ iAt c.since x.t.toNat by omega)]; simp)
       rw [if_neg (by rw [e]; simp)] at hrun
       exact ret0 rfl (by repeat (first | exact True.intro | exact DLead.same | exact rfl | refine ⟨_, rfl, ?_⟩ | refine ⟨_, _, rfl, ?_, ?_⟩))
      ·refine DF.op 21 (List.range 21) 29 rfl rfl rfl (.yes rfl rfl rfl rfl (NOp.of (by exact mv3 rfl))) rfl ?_
       refine DF.op 22 (List.range 21) 29 rfl rfl rfl (.yes rfl rfl rfl rfl (NOp.of (by exact g_fa_ptr rfl rfl rfl rfl rfl))) rfl ?_
       refine DF.op 23 [0,1,2,3,4,5,6,7,8,9,10,11,12,13,14,15,16,17,18,19,20,22] 29 rfl rfl rfl (.yes rfl rfl rfl rfl (NOp.of (by exact g_load_ptr rfl rfl rfl rfl rfl))) rfl ?_
       refine DF.op 24 (List.range 21) 29 rfl rfl rfl (.yes rfl rfl rfl rfl (NOp.of (by exact g_fa_ptr rfl rfl rfl rfl rfl))) rfl ?_
       refine DF.op 25 [0,1,2,3,4,5,6,7,8,9,10,11,12,13,14,15,16,17,18,19,20,24] 29 rfl rfl rfl (.yes rfl rfl rfl rfl (NOp.of (by exact g_load_ptr rfl rfl rfl rfl rfl))) rfl ?_
       refine DF.op 26 (List.range 26) 29 rfl rfl rfl (.yes rfl rfl rfl rfl (by exact h_fun (cs := [100, 101]) en_lkFire rfl rfl (by repeat (first | exact rfl | exact DLead.same | refine ⟨_, _, rfl, ?_, ?_⟩ | refine ⟨_, rfl, ?_⟩)) (by repeat (first | exact True.intro | refine And.intro ?_ ?_ | exact DLead.same | exact rfl | refine ⟨_, _, rfl, rfl, ?_⟩ | refine ⟨_, rfl, ?_⟩ | refine ⟨_, _, rfl, ?_, ?_⟩)) (hFi (by simpa using h3)) rfl rfl rfl rfl)) rfl ?_
       refine DF.op 27 (List.range 27) 29 rfl rfl rfl (.yes rfl rfl rfl rfl (NOp.of (by exact g_not rfl))) rfl ?_
       refine DF.op 28 (List.range 28) 29 rfl rfl rfl (.free rfl (NOp.of (by exact g_pickF (r := .d _) rfl rfl))) rfl ?_
       refine DF.fin (ps := [(0,2),(0,3),(0,4),(0,5),(0,6),(1,2),(1,3),(1,4),(1,5),(1,6),(2,0),(2,1),(3,0),(3,1),(4,0),(4,1),(5,0),(5,1),(6,0),(6,1),(10,14),(10,15),(11,14),(11,15),(12,14),(12,15),(13,14),(13,15),(14,10),(14,11),(14,12),(14,13),(15,10),(15,11),(15,12),(15,13),(21,22),(21,23),(21,24),(21,25),(22,21),(22,24),(22,25),(23,21),(23,24),(23,25),(24,21),(24,22),(24,23),(25,21),(25,22),(25,23)]) 29 rfl (by decide +kernel) (by decide +kernel) (by rfl) ?_
       refine th_n ?_
       refine AC.condB rfl (fun h5 => ?_) (fun h5 => ?_)
       ·refine AC.seq (AC.region ?_)
        refine AL.p (by exact g_build rfl rfl rfl) rfl ?_
        refine AL.q (by exact h_boxF rfl rfl) rfl ?_
        refine AL.p (by exact as1 rfl) rfl ?_
        refine AL.p (by exact as1 rfl) rfl ?_
        refine AL.nil (th_n (AC.ret (ib_r (th_r (th_r (ib_r (th_r (bq_r ?_))))))))
        have e : okF s.net c x = false := by (rw [hch, show F.2 = false by simpa using h5]; simp)
        rw [if_neg (by rw [e]; simp)] at hrun
        exact ret0 rfl (by repeat (first | exact True.intro | exact DLead.same | exact rfl | refine ⟨_, rfl, ?_⟩ | refine ⟨_, _, rfl, ?_, ?_⟩))
       ·refine AC.skip (ib_n (th_n (AC.region ?_)))
        refine AL.p (by exact g_arith rfl rfl rfl (by exact wrap_i64 (by omega))) rfl ?_
        refine AL.p (by exact mv1 rfl) rfl ?_
        refine AL.nil (th_n ?_)
        have e : okF s.net c x = true := by rw [hch, show b3 = true by simpa using h3, decide_eq_true (show 0 ≤ iAt c.since x.t.toNat by omega), show F.2 = true by simpa using h5]; rfl
        rw [if_pos e] at hrun
        exact ⟨(k + 1, F.1), ⟨by omega, hCI e, hrun⟩, by dsimp only; omega, Weak.ren _ [(100, 100), (101, 101)] hC rfl (by repeat (first | exact True.intro | refine And.intro ?_ ?_ | exact DLead.same | exact rfl | refine ⟨_, rfl, ?_⟩)) (by repeat (first | exact True.intro | refine And.intro ?_ ?_ | exact DLead.same | exact rfl | refine ⟨_, _, rfl, rfl, ?_⟩ | refine ⟨_, rfl, ?_⟩ | refine ⟨_, _, rfl, ?_, ?_⟩)) rfl rfl rfl⟩
    ·refine AC.exit (th_e (th_e (ib_y (th_n (AC.seq (AC.region ?_))))))
     refine AL.p (by exact mv3 rfl) rfl ?_
     refine AL.p (by exact as3 rfl) rfl ?_
     refine AL.p (by exact as1 rfl) rfl ?_
     refine AL.nil (th_n (AC.ret (bq_r ?_)))
     have e : k = run.length := by omega
     rw [e, List.drop_length, firedQ] at hrun
     exfalso; exact hok ⟨by rw [q1, q2]; rfl, by rw [← hrun]⟩
section
variable {P : Program} [PT P] {C : Ctx} {s : ASt}
theorem Weak.freezeA {i id k n e sz : Nat} {cs : List AV} {els els' : List (List DV)} (hs : s.get i = .agg cs) (hk : cs[k]? = some (.own id n)) (hc : s.chunk id = some (.arr e sz els)) (hn : n ≤ els.length) (he : els.take n = els') : Weak C s { n := s.n, nx := s.nx, sl := (i, .agg (cs.set k (.d (.view e sz els')))) :: s.sl, ch := (id, none) :: s.ch } := by
 subst he
 refine ⟨?_⟩
 rintro a w ⟨m, hR⟩
 have hch : ∀ j c, (getL j ((id, none) :: s.ch)).getD none = some c → j ≠ id ∧ s.chunk j = some c := by
  intro j c h
  rw [getL_cons] at h
  split at h
  ·simp at h
  ·rename_i e; exact ⟨e, h⟩
 have hF : ∀ q, Fz C m s w q → Fz C m { n := s.n, nx := s.nx, sl := (i, .agg (cs.set k (.d (.view e sz (els.take n))))) :: s.sl, ch := (id, none) :: s.ch } w q := fun q hq => ⟨hq.1, hq.2.1, fun j c p h1 h2 => hq.2.2 j c p (hch j c h1).2 h2⟩
 obtain ⟨q, hq, hCq, hloc⟩ := hR.ch id _ hc
 have hFb : ∀ b, q.1 = some b → Fz C m { n := s.n, nx := s.nx, sl := (i, .agg (cs.set k (.d (.view e sz (els.take n))))) :: s.sl, ch := (id, none) :: s.ch } w b := by
  intro b hb
  refine ⟨.inr (hloc b (.inl hb)), hCq.lt (.inl hb), fun j c p h1 h2 h3 => ?_⟩
  obtain ⟨hne, h4⟩ := hch j c h1
  exact hne (hR.inj j id c _ p q h4 hc h2 hq b h3 (.inl hb))
 refine ⟨m, hR.fr, hR.fin, hR.sz, fun j => ?_, fun j c h1 => ?_, fun j j' c c' p p' h1 h2 hp hp' b hb hb' => hR.inj j j' c c' p p' (hch j c h1).2 (hch j' c' h2).2 hp hp' b hb hb', hR.un, hR.defers, hR.m0, hR.m0k⟩
 ·show ARep _ _ _ ((getL j ((i, .agg (cs.set k (.d (.view e sz (els.take n))))) :: s.sl)).getD .dead) _
  rw [getL_cons]
  by_cases hj : j = i
  ·subst hj
   rw [if_pos rfl]
   have hv := hR.sl j
   rw [hs] at hv
   generalize a.tmps.getD j undef = v at hv
   simp only [Option.getD_some]
   cases hv with
   | agg g1 g2 g3 =>
    refine .agg (by rw [List.length_set]; exact g1) (fun i' c hc' => ?_) g3
    by_cases hik : k = i'
    ·subst hik
     rw [List.getElem?_set_self (List.getElem?_eq_some_iff.1 hk).1] at hc'
     simp only [Option.some.injEq] at hc'
     subst hc'
     exact .d (own_view (g2 k _ hk) hq (hR.chunkAt hc hq) hn hF hFb)
    ·rw [List.getElem?_set_ne hik] at hc'
     exact (g2 i' c hc').turn (MLe.refl m) (fun k hk _ => ⟨hF k hk, rfl⟩)
  ·rw [if_neg hj]
   exact (hR.sl j).turn (MLe.refl m) (fun k hk _ => ⟨hF k hk, rfl⟩)
 ·obtain ⟨hne, h4⟩ := hch j c h1
  obtain ⟨p, hp, hr, hl⟩ := hR.ch j c h4
  exact ⟨p, hp, hr.turn (MLe.refl m) (fun k hk _ => ⟨hF k hk, rfl⟩) (fun _ _ => rfl), hl⟩
theorem Weak.freezeA3 (i : Nat) {id1 id2 id3 n1 n2 n3 e1 e2 e3 z1 z2 z3 : Nat} {x y : AV} {els1 els2 els3 els1' els2' els3' : List (List DV)} (hs : s.get i = .agg [x, .own id1 n1, .own id2 n2, .own id3 n3, y]) (hc1 : s.chunk id1 = some (.arr e1 z1 els1)) (hc2 : s.chunk id2 = some (.arr e2 z2 els2)) (hc3 : s.chunk id3 = some (.arr e3 z3 els3))
  (h12 : Nat.beq id2 id1 = false) (h13 : Nat.beq id3 id1 = false) (h23 : Nat.beq id3 id2 = false) (hn1 : n1 ≤ els1.length) (hn2 : n2 ≤ els2.length) (hn3 : n3 ≤ els3.length) (he1 : els1.take n1 = els1') (he2 : els2.take n2 = els2') (he3 : els3.take n3 = els3') :
  Weak C s { n := s.n, nx := s.nx, sl := (i, .agg [x, .d (.view e1 z1 els1'), .d (.view e2 z2 els2'), .d (.view e3 z3 els3'), y]) :: s.sl, ch := (id3, none) :: (id2, none) :: (id1, none) :: s.ch } := by
 have a1 := Weak.freezeA (C := C) (k := 1) hs rfl hc1 hn1 he1
 have g : ∀ (z : AV) (l : List (Nat × AV)) (c : List (Nat × Option Chunk)), ({ n := s.n, nx := s.nx, sl := (i, z) :: l, ch := c } : ASt).get i = z := fun z l c => by show (getL i ((i, z) :: l)).getD .dead = z; rw [getL_cons, if_pos rfl]; rfl
 have k2 : ∀ (l : List (Nat × AV)), ({ n := s.n, nx := s.nx, sl := l, ch := (id1, none) :: s.ch } : ASt).chunk id2 = some (.arr e2 z2 els2) := fun l => by show (getL id2 ((id1, none) :: s.ch)).getD none = _; rw [getL_cons, if_neg (Nat.ne_of_beq_eq_false h12)]; exact hc2
 have k3 : ∀ (l : List (Nat × AV)), ({ n := s.n, nx := s.nx, sl := l, ch := (id2, none) :: (id1, none) :: s.ch } : ASt).chunk id3 = some (.arr e3 z3 els3) := fun l => by show (getL id3 ((id2, none) :: (id1, none) :: s.ch)).getD none = _; rw [getL_cons, if_neg (Nat.ne_of_beq_eq_false h23), getL_cons, if_neg (Nat.ne_of_beq_eq_false h13)]; exact hc3
 have a2 := Weak.freezeA (C := C) (k := 2) (cs := [x, .d (.view e1 z1 els1'), .own id2 n2, .own id3 n3, y]) (g _ s.sl ((id1, none) :: s.ch)) rfl (k2 _) hn2 he2
 have a3 := Weak.freezeA (C := C) (k := 3) (cs := [x, .d (.view e1 z1 els1'), .d (.view e2 z2 els2'), .own id3 n3, y]) (g _ ((i, .agg [x, .d (.view e1 z1 els1'), .own id2 n2, .own id3 n3, y]) :: s.sl) ((id2, none) :: (id1, none) :: s.ch)) rfl (k3 _) hn3 he3
 refine ((a1.trans a2).trans a3).trans ⟨fun a w h => h.weak rfl (Nat.le_refl _) (fun j => .inr ?_) (fun j c h => h)⟩
 show (getL j (_ :: _)).getD AV.dead = (getL j (_ :: _ :: _ :: _)).getD AV.dead
 rw [getL_cons, getL_cons]
 split
 ·rfl
 ·rename_i hne; rw [getL_cons, if_neg hne, getL_cons, if_neg hne]
end
def okS (s : Stg) : Bool := decide (0 ≤ s.net.places) && decide (s.net.places ≤ 40) && decide (s.net.ts.length ≤ 20) && s.net.ts.all (fun t => decide (t.pre.length ≤ 4) && decide (t.post.length ≤ 4)) && decide (1 ≤ s.sigs.length) && decide (s.sigs.length ≤ 8) && s.sigs.all (fun x => decide (x.name.length ≤ 10)) && decide (1 ≤ s.labs.length) && decide (s.labs.length ≤ 20) && s.labs.all (fun x => decide (-10 ≤ x.sig) && decide (x.sig ≤ 10)) && decide (s.start.length ≤ 40)
structure StgS (s : Stg) : Prop where
 p : 0 ≤ s.net.places ∧ s.net.places ≤ 40
 tl : s.net.ts.length ≤ 20
 t : ∀ t, t ∈ s.net.ts → t.pre.length ≤ 4 ∧ t.post.length ≤ 4
 s0 : 1 ≤ s.sigs.length
 sl : s.sigs.length ≤ 8
 sn : ∀ x, x ∈ s.sigs → x.name.length ≤ 10
 ll : s.labs.length ≤ 20
 lb : ∀ x, x ∈ s.labs → -10 ≤ x.sig ∧ x.sig ≤ 10
 st : s.start.length ≤ 60
theorem okS_S {s : Stg} (h : okS s = true) : StgS s ∧ 1 ≤ s.labs.length ∧ s.start.length ≤ 40 := by
 simp only [okS, Bool.and_eq_true, decide_eq_true_eq, List.all_eq_true] at h
 obtain ⟨⟨⟨⟨⟨⟨⟨⟨⟨⟨h1, h2⟩, h3⟩, h4⟩, h5⟩, h6⟩, h7⟩, h8⟩, h9⟩, h10⟩, h11⟩ := h
 exact ⟨⟨⟨h1, h2⟩, h3, h4, h5, h6, h7, h9, h10, by omega⟩, h8, h11⟩
theorem StgS.B {s : Stg} (h : StgS s) : StgB s := ⟨⟨by have := h.p; omega, by have := h.tl; omega, fun t ht => by have := h.t t ht; omega⟩, by have := h.sl; omega, fun t ht => by have := h.sn t ht; omega, by have := h.ll; omega, fun x hx => by have := h.lb x hx; omega, by have := h.st; omega⟩
def plS0 : Stg := buildS [97, 98] [99] [] [97, 43, 62, 99, 43, 32, 98, 43, 62, 99, 43, 32, 99, 43, 62, 97, 45, 32, 99, 43, 62, 98, 45, 32, 97, 45, 62, 99, 45, 32, 98, 45, 62, 99, 45, 32, 42, 99, 45, 62, 97, 43, 32, 42, 99, 45, 62, 98, 43]
theorem plS0_ok : okS plS0 = true := by decide +kernel
def plS1 : Stg := buildS [97] [98] [] [97, 43, 62, 98, 43, 32, 98, 43, 62, 97, 45, 32, 97, 45, 62, 98, 45, 32, 42, 98, 45, 62, 97, 43]
theorem plS1_ok : okS plS1 = true := by decide +kernel
def plS2 : Stg := buildS [114] [120, 121] [] [114, 43, 62, 120, 43, 32, 114, 43, 62, 121, 43, 32, 120, 43, 62, 114, 45, 32, 121, 43, 62, 114, 45, 32, 114, 45, 62, 120, 45, 32, 114, 45, 62, 121, 45, 32, 42, 120, 45, 62, 114, 43, 32, 42, 121, 45, 62, 114, 43]
theorem plS2_ok : okS plS2 = true := by decide +kernel
def plS3 : Stg := buildS [97, 100] [98, 99] [] [97, 43, 62, 98, 43, 32, 98, 43, 62, 100, 43, 32, 100, 43, 62, 99, 43, 32, 99, 43, 62, 97, 45, 32, 97, 45, 62, 98, 45, 32, 98, 45, 62, 100, 45, 32, 100, 45, 62, 99, 45, 32, 42, 99, 45, 62, 97, 43]
theorem plS3_ok : okS plS3 = true := by decide +kernel
def plS4 : Stg := buildS [97] [98] [120] [97, 43, 62, 120, 43, 32, 120, 43, 62, 98, 43, 32, 98, 43, 62, 97, 45, 32, 97, 45, 62, 120, 45, 32, 120, 45, 62, 98, 45, 32, 42, 98, 45, 62, 97, 43]
theorem plS4_ok : okS plS4 = true := by decide +kernel
def plS5 : Stg := buildS [97, 98] [99] [] [42, 95, 112, 62, 97, 43, 32, 95, 112, 62, 98, 43, 32, 97, 43, 62, 99, 43, 47, 49, 32, 99, 43, 47, 49, 62, 97, 45, 32, 97, 45, 62, 99, 45, 47, 49, 32, 99, 45, 47, 49, 62, 95, 112, 32, 98, 43, 62, 99, 43, 47, 50, 32, 99, 43, 47, 50, 62, 98, 45, 32, 98, 45, 62, 99, 45, 47, 50, 32, 99, 45, 47, 50, 62, 95, 112]
theorem plS5_ok : okS plS5 = true := by decide +kernel
def plS6 : Stg := buildS [97] [98] [] [97, 43, 62, 126, 32, 126, 62, 98, 43, 32, 98, 43, 62, 97, 45, 32, 97, 45, 62, 98, 45, 32, 42, 98, 45, 62, 97, 43]
theorem plS6_ok : okS plS6 = true := by decide +kernel
def grS0 : Stg := buildS [114] [120, 121] [] [42, 121, 45, 62, 114, 43, 32, 114, 43, 62, 120, 43, 32, 120, 43, 62, 120, 45, 32, 120, 45, 62, 121, 43, 32, 121, 43, 62, 114, 45, 32, 114, 45, 62, 121, 45]
theorem grS0_ok : okS grS0 = true := by decide +kernel
def grS1 : Stg := buildS [97] [98, 99] [] [42, 97, 45, 62, 97, 43, 32, 97, 43, 62, 95, 112, 32, 95, 112, 62, 98, 43, 32, 95, 112, 62, 99, 43, 32, 98, 43, 62, 98, 45, 32, 99, 43, 62, 99, 45, 32, 98, 45, 62, 95, 113, 32, 99, 45, 62, 95, 113, 32, 95, 113, 62, 97, 45]
theorem grS1_ok : okS grS1 = true := by decide +kernel
def grS2 : Stg := buildS [97] [98] [] [97, 43, 47, 49, 62, 98, 43, 32, 98, 43, 62, 97, 43, 47, 50, 32, 97, 43, 47, 50, 62, 98, 45, 32, 42, 98, 45, 62, 97, 43, 47, 49]
theorem grS2_ok : okS grS2 = true := by decide +kernel
def grS4 : Stg := buildS [97] [98] [] [42, 95, 112, 62, 97, 43, 32, 97, 43, 62, 98, 43, 32, 98, 43, 62, 95, 113]
theorem grS4_ok : okS grS4 = true := by decide +kernel
def twS0 : Stg := buildS [112] [113] [] [112, 43, 62, 113, 43, 32, 113, 43, 62, 112, 45, 32, 112, 45, 62, 113, 45, 32, 42, 113, 45, 62, 112, 43]
theorem twS0_ok : okS twS0 = true := by decide +kernel
def twS1 : Stg := buildS [97] [98] [] [97, 43, 62, 98, 43, 32, 98, 43, 62, 97, 45, 32, 97, 45, 62, 98, 45, 32, 42, 98, 45, 62, 97, 43]
theorem twS1_ok : okS twS1 = true := by decide +kernel
def grS3 : Stg := unionT twS0 twS1
theorem grS3_ok : okS grS3 = true := by decide +kernel
theorem twS_ok : (unionS twS0 twS1).2 = true := by decide +kernel
theorem twS_net : okS ⟨(unionR twS0.net twS1.net).1, twS0.sigs, twS0.labs, []⟩ = true := by decide +kernel
def plS (i : Int) : Stg := if i = 0 then plS0 else if i = 1 then plS1 else if i = 2 then plS2 else if i = 3 then plS3 else if i = 4 then plS4 else if i = 5 then plS5 else plS6
theorem plS_ok (i : Int) : okS (plS i) = true := by
 unfold plS
 split
 ·exact plS0_ok
 split
 ·exact plS1_ok
 split
 ·exact plS2_ok
 split
 ·exact plS3_ok
 split
 ·exact plS4_ok
 split
 ·exact plS5_ok
 exact plS6_ok
def stgI (c : Cur) : Stg × Cur := if (c.pick 9).1 = 0 then (grS0, (c.pick 9).2) else if (c.pick 9).1 = 1 then (grS1, (c.pick 9).2) else if (c.pick 9).1 = 2 then (grS2, (c.pick 9).2) else if (c.pick 9).1 = 3 then (grS3, (c.pick 9).2) else if (c.pick 9).1 = 4 then (grS4, (c.pick 9).2) else (plS ((c.pick 9).2.pick 7).1, ((c.pick 9).2.pick 7).2)
theorem stgI_in (c : Cur) : okS (stgI c).1 = true ∧ (stgI c).2.pos ≤ c.pos + 4 ∧ (stgI c).2.code = c.code := by
 have h1 := c.pick_pos 9
 have h2 := (c.pick 9).2.pick_pos 7
 have k1 := c.pick_code 9
 have k2 := (c.pick 9).2.pick_code 7
 unfold stgI
 split
 ·exact ⟨grS0_ok, by dsimp only; omega, k1⟩
 split
 ·exact ⟨grS1_ok, by dsimp only; omega, k1⟩
 split
 ·exact ⟨grS2_ok, by dsimp only; omega, k1⟩
 split
 ·exact ⟨grS3_ok, by dsimp only; omega, k1⟩
 split
 ·exact ⟨grS4_ok, by dsimp only; omega, k1⟩
 exact ⟨plS_ok _, by dsimp only; omega, k2.trans k1⟩
theorem plS0_spec : ASpec Tryz.prog 58 [aS (bstr [97, 98]), aS (bstr [99]), aS (bstr []), aS (bstr [97, 43, 62, 99, 43, 32, 98, 43, 62, 99, 43, 32, 99, 43, 62, 97, 45, 32, 99, 43, 62, 98, 45, 32, 97, 45, 62, 99, 45, 32, 98, 45, 62, 99, 45, 32, 42, 99, 45, 62, 97, 43, 32, 42, 99, 45, 62, 98, 43])] [] (Fun1 (stgO plS0 0 1 2) (stgChs plS0 0 1 2)) := l2Build_spec _ _ _ _ (by decide) (by decide) (by decide) (by decide) (by decide +kernel)
theorem plS1_spec : ASpec Tryz.prog 58 [aS (bstr [97]), aS (bstr [98]), aS (bstr []), aS (bstr [97, 43, 62, 98, 43, 32, 98, 43, 62, 97, 45, 32, 97, 45, 62, 98, 45, 32, 42, 98, 45, 62, 97, 43])] [] (Fun1 (stgO plS1 0 1 2) (stgChs plS1 0 1 2)) := l2Build_spec _ _ _ _ (by decide) (by decide) (by decide) (by decide) (by decide +kernel)
theorem plS2_spec : ASpec Tryz.prog 58 [aS (bstr [114]), aS (bstr [120, 121]), aS (bstr []), aS (bstr [114, 43, 62, 120, 43, 32, 114, 43, 62, 121, 43, 32, 120, 43, 62, 114, 45, 32, 121, 43, 62, 114, 45, 32, 114, 45, 62, 120, 45, 32, 114, 45, 62, 121, 45, 32, 42, 120, 45, 62, 114, 43, 32, 42, 121, 45, 62, 114, 43])] [] (Fun1 (stgO plS2 0 1 2) (stgChs plS2 0 1 2)) := l2Build_spec _ _ _ _ (by decide) (by decide) (by decide) (by decide) (by decide +kernel)
theorem plS3_spec : ASpec Tryz.prog 58 [aS (bstr [97, 100]), aS (bstr [98, 99]), aS (bstr []), aS (bstr [97, 43, 62, 98, 43, 32, 98, 43, 62, 100, 43, 32, 100, 43, 62, 99, 43, 32, 99, 43, 62, 97, 45, 32, 97, 45, 62, 98, 45, 32, 98, 45, 62, 100, 45, 32, 100, 45, 62, 99, 45, 32, 42, 99, 45, 62, 97, 43])] [] (Fun1 (stgO plS3 0 1 2) (stgChs plS3 0 1 2)) := l2Build_spec _ _ _ _ (by decide) (by decide) (by decide) (by decide) (by decide +kernel)
theorem plS4_spec : ASpec Tryz.prog 58 [aS (bstr [97]), aS (bstr [98]), aS (bstr [120]), aS (bstr [97, 43, 62, 120, 43, 32, 120, 43, 62, 98, 43, 32, 98, 43, 62, 97, 45, 32, 97, 45, 62, 120, 45, 32, 120, 45, 62, 98, 45, 32, 42, 98, 45, 62, 97, 43])] [] (Fun1 (stgO plS4 0 1 2) (stgChs plS4 0 1 2)) := l2Build_spec _ _ _ _ (by decide) (by decide) (by decide) (by decide) (by decide +kernel)
theorem plS5_spec : ASpec Tryz.prog 58 [aS (bstr [97, 98]), aS (bstr [99]), aS (bstr []), aS (bstr [42, 95, 112, 62, 97, 43, 32, 95, 112, 62, 98, 43, 32, 97, 43, 62, 99, 43, 47, 49, 32, 99, 43, 47, 49, 62, 97, 45, 32, 97, 45, 62, 99, 45, 47, 49, 32, 99, 45, 47, 49, 62, 95, 112, 32, 98, 43, 62, 99, 43, 47, 50, 32, 99, 43, 47, 50, 62, 98, 45, 32, 98, 45, 62, 99, 45, 47, 50, 32, 99, 45, 47, 50, 62, 95, 112])] [] (Fun1 (stgO plS5 0 1 2) (stgChs plS5 0 1 2)) := l2Build_spec _ _ _ _ (by decide) (by decide) (by decide) (by decide) (by decide +kernel)
theorem plS6_spec : ASpec Tryz.prog 58 [aS (bstr [97]), aS (bstr [98]), aS (bstr []), aS (bstr [97, 43, 62, 126, 32, 126, 62, 98, 43, 32, 98, 43, 62, 97, 45, 32, 97, 45, 62, 98, 45, 32, 42, 98, 45, 62, 97, 43])] [] (Fun1 (stgO plS6 0 1 2) (stgChs plS6 0 1 2)) := l2Build_spec _ _ _ _ (by decide) (by decide) (by decide) (by decide) (by decide +kernel)
theorem grS0_spec : ASpec Tryz.prog 58 [aS (bstr [114]), aS (bstr [120, 121]), aS (bstr []), aS (bstr [42, 121, 45, 62, 114, 43, 32, 114, 43, 62, 120, 43, 32, 120, 43, 62, 120, 45, 32, 120, 45, 62, 121, 43, 32, 121, 43, 62, 114, 45, 32, 114, 45, 62, 121, 45])] [] (Fun1 (stgO grS0 0 1 2) (stgChs grS0 0 1 2)) := l2Build_spec _ _ _ _ (by decide) (by decide) (by decide) (by decide) (by decide +kernel)
theorem grS1_spec : ASpec Tryz.prog 58 [aS (bstr [97]), aS (bstr [98, 99]), aS (bstr []), aS (bstr [42, 97, 45, 62, 97, 43, 32, 97, 43, 62, 95, 112, 32, 95, 112, 62, 98, 43, 32, 95, 112, 62, 99, 43, 32, 98, 43, 62, 98, 45, 32, 99, 43, 62, 99, 45, 32, 98, 45, 62, 95, 113, 32, 99, 45, 62, 95, 113, 32, 95, 113, 62, 97, 45])] [] (Fun1 (stgO grS1 0 1 2) (stgChs grS1 0 1 2)) := l2Build_spec _ _ _ _ (by decide) (by decide) (by decide) (by decide) (by decide +kernel)
theorem grS2_spec : ASpec Tryz.prog 58 [aS (bstr [97]), aS (bstr [98]), aS (bstr []), aS (bstr [97, 43, 47, 49, 62, 98, 43, 32, 98, 43, 62, 97, 43, 47, 50, 32, 97, 43, 47, 50, 62, 98, 45, 32, 42, 98, 45, 62, 97, 43, 47, 49])] [] (Fun1 (stgO grS2 0 1 2) (stgChs grS2 0 1 2)) := l2Build_spec _ _ _ _ (by decide) (by decide) (by decide) (by decide) (by decide +kernel)
theorem grS4_spec : ASpec Tryz.prog 58 [aS (bstr [97]), aS (bstr [98]), aS (bstr []), aS (bstr [42, 95, 112, 62, 97, 43, 32, 97, 43, 62, 98, 43, 32, 98, 43, 62, 95, 113])] [] (Fun1 (stgO grS4 0 1 2) (stgChs grS4 0 1 2)) := l2Build_spec _ _ _ _ (by decide) (by decide) (by decide) (by decide) (by decide +kernel)
theorem twS0_spec : ASpec Tryz.prog 58 [aS (bstr [112]), aS (bstr [113]), aS (bstr []), aS (bstr [112, 43, 62, 113, 43, 32, 113, 43, 62, 112, 45, 32, 112, 45, 62, 113, 45, 32, 42, 113, 45, 62, 112, 43])] [] (Fun1 (stgO twS0 0 1 2) (stgChs twS0 0 1 2)) := l2Build_spec _ _ _ _ (by decide) (by decide) (by decide) (by decide) (by decide +kernel)
theorem twS1_spec : ASpec Tryz.prog 58 [aS (bstr [97]), aS (bstr [98]), aS (bstr []), aS (bstr [97, 43, 62, 98, 43, 32, 98, 43, 62, 97, 45, 32, 97, 45, 62, 98, 45, 32, 42, 98, 45, 62, 97, 43])] [] (Fun1 (stgO twS1 0 1 2) (stgChs twS1 0 1 2)) := l2Build_spec _ _ _ _ (by decide) (by decide) (by decide) (by decide) (by decide +kernel)
set_option maxHeartbeats 4000000 in
theorem l2Plain_spec (c : Cur) (hp : c.pos ≤ 100000000) : ASpec Tryz.prog 60 [.ptr 0 0] [(0, curC c)] (Fun1 (stgO (plS (c.pick 7).1) 1 2 3) ((0, curC (c.pick 7).2) :: stgChs (plS (c.pick 7).1) 1 2 3)) := by
 have hK := pick_spec c 7 (by decide) (by omega)
 obtain ⟨p, hpp⟩ : ∃ p, p = c.pick 7 := ⟨_, rfl⟩
 rw [← hpp] at hK ⊢
 have hS : plS p.1 = if p.1 = 0 then plS0 else if p.1 = 1 then plS1 else if p.1 = 2 then plS2 else if p.1 = 3 then plS3 else if p.1 = 4 then plS4 else if p.1 = 5 then plS5 else plS6 := rfl
 obtain ⟨s, hs⟩ : ∃ s, s = plS p.1 := ⟨_, rfl⟩
 rw [← hs] at hS ⊢
 refine ASpec.of Tryz.func60 rfl rfl fun C hC => ?_
 refine AC.seq (AC.region ?_)
 refine AL.q (by exact h_alloc rfl) rfl ?_
 refine AL.nil (th_n (AC.seq (AC.seq (AC.region ?_))))
 refine AL.p (by exact mv3 rfl) rfl ?_
 refine AL.q (by exact h_fun (cs := [0]) en_pick rfl rfl (by repeat (first | exact rfl | exact DLead.same | refine ⟨_, _, rfl, ?_, ?_⟩ | refine ⟨_, rfl, ?_⟩)) (by repeat (first | exact True.intro | refine And.intro ?_ ?_ | exact DLead.same | exact rfl | refine ⟨_, _, rfl, rfl, ?_⟩ | refine ⟨_, rfl, ?_⟩ | refine ⟨_, _, rfl, ?_, ?_⟩)) hK rfl rfl rfl rfl) rfl ?_
 refine AL.nil (th_n (AC.block (AC.seq (AC.region ?_))))
 refine AL.p (by exact g_cmp rfl rfl rfl) rfl ?_
 refine AL.p (by exact as1 rfl) rfl ?_
 refine AL.nil (th_n ?_)
 refine AC.condD rfl (fun h0 => ?_) (fun h0 => ?_)
 ·refine AC.seq (AC.region ?_)
  refine AL.q (by exact h_fun (cs := []) en_l2Build rfl rfl (by repeat (first | exact rfl | exact DLead.same | refine ⟨_, _, rfl, ?_, ?_⟩)) (by repeat (exact True.intro)) plS0_spec rfl rfl rfl rfl) rfl ?_
  refine AL.q (by exact h_store rfl rfl rfl rfl rfl rfl) rfl ?_
  refine AL.nil (th_n (AC.ret (ib_r (th_r (bq_r ?_)))))
  have e : s = plS0 := by rw [hS, if_pos h0]
  exact retN [(1, _), (2, _), (3, _)] rfl (by rw [e]; repeat (first | exact rfl | exact DLead.same | refine ⟨_, _, rfl, ?_, ?_⟩ | refine ⟨_, rfl, ?_⟩)) (by rw [e]; repeat (first | exact True.intro | refine And.intro ?_ ?_ | exact DLead.same | exact rfl | refine ⟨_, _, rfl, rfl, ?_⟩ | refine ⟨_, rfl, ?_⟩ | refine ⟨_, _, rfl, ?_, ?_⟩)) rfl rfl
 ·refine AC.seq (AC.region ?_)
  refine AL.p (by exact g_cmp rfl rfl rfl) rfl ?_
  refine AL.p (by exact as1 rfl) rfl ?_
  refine AL.nil (th_n ?_)
  refine AC.condD rfl (fun h1 => ?_) (fun h1 => ?_)
  ·refine AC.seq (AC.region ?_)
   refine AL.q (by exact h_fun (cs := []) en_l2Build rfl rfl (by repeat (first | exact rfl | exact DLead.same | refine ⟨_, _, rfl, ?_, ?_⟩)) (by repeat (exact True.intro)) plS1_spec rfl rfl rfl rfl) rfl ?_
   refine AL.q (by exact h_store rfl rfl rfl rfl rfl rfl) rfl ?_
   refine AL.nil (th_n (AC.ret (ib_r (th_r (bq_r ?_)))))
   have e : s = plS1 := by rw [hS, if_neg h0, if_pos h1]
   exact retN [(1, _), (2, _), (3, _)] rfl (by rw [e]; repeat (first | exact rfl | exact DLead.same | refine ⟨_, _, rfl, ?_, ?_⟩ | refine ⟨_, rfl, ?_⟩)) (by rw [e]; repeat (first | exact True.intro | refine And.intro ?_ ?_ | exact DLead.same | exact rfl | refine ⟨_, _, rfl, rfl, ?_⟩ | refine ⟨_, rfl, ?_⟩ | refine ⟨_, _, rfl, ?_, ?_⟩)) rfl rfl
  ·refine AC.seq (AC.region ?_)
   refine AL.p (by exact g_cmp rfl rfl rfl) rfl ?_
   refine AL.p (by exact as1 rfl) rfl ?_
   refine AL.nil (th_n ?_)
   refine AC.condD rfl (fun h2 => ?_) (fun h2 => ?_)
   ·refine AC.seq (AC.region ?_)
    refine AL.q (by exact h_fun (cs := []) en_l2Build rfl rfl (by repeat (first | exact rfl | exact DLead.same | refine ⟨_, _, rfl, ?_, ?_⟩)) (by repeat (exact True.intro)) plS2_spec rfl rfl rfl rfl) rfl ?_
    refine AL.q (by exact h_store rfl rfl rfl rfl rfl rfl) rfl ?_
    refine AL.nil (th_n (AC.ret (ib_r (th_r (bq_r ?_)))))
    have e : s = plS2 := by rw [hS, if_neg h0, if_neg h1, if_pos h2]
    exact retN [(1, _), (2, _), (3, _)] rfl (by rw [e]; repeat (first | exact rfl | exact DLead.same | refine ⟨_, _, rfl, ?_, ?_⟩ | refine ⟨_, rfl, ?_⟩)) (by rw [e]; repeat (first | exact True.intro | refine And.intro ?_ ?_ | exact DLead.same | exact rfl | refine ⟨_, _, rfl, rfl, ?_⟩ | refine ⟨_, rfl, ?_⟩ | refine ⟨_, _, rfl, ?_, ?_⟩)) rfl rfl
   ·refine AC.seq (AC.region ?_)
    refine AL.p (by exact g_cmp rfl rfl rfl) rfl ?_
    refine AL.p (by exact as1 rfl) rfl ?_
    refine AL.nil (th_n ?_)
    refine AC.condD rfl (fun h3 => ?_) (fun h3 => ?_)
    ·refine AC.seq (AC.region ?_)
     refine AL.q (by exact h_fun (cs := []) en_l2Build rfl rfl (by repeat (first | exact rfl | exact DLead.same | refine ⟨_, _, rfl, ?_, ?_⟩)) (by repeat (exact True.intro)) plS3_spec rfl rfl rfl rfl) rfl ?_
     refine AL.q (by exact h_store rfl rfl rfl rfl rfl rfl) rfl ?_
     refine AL.nil (th_n (AC.ret (ib_r (th_r (bq_r ?_)))))
     have e : s = plS3 := by rw [hS, if_neg h0, if_neg h1, if_neg h2, if_pos h3]
     exact retN [(1, _), (2, _), (3, _)] rfl (by rw [e]; repeat (first | exact rfl | exact DLead.same | refine ⟨_, _, rfl, ?_, ?_⟩ | refine ⟨_, rfl, ?_⟩)) (by rw [e]; repeat (first | exact True.intro | refine And.intro ?_ ?_ | exact DLead.same | exact rfl | refine ⟨_, _, rfl, rfl, ?_⟩ | refine ⟨_, rfl, ?_⟩ | refine ⟨_, _, rfl, ?_, ?_⟩)) rfl rfl
    ·refine AC.seq (AC.region ?_)
     refine AL.p (by exact g_cmp rfl rfl rfl) rfl ?_
     refine AL.p (by exact as1 rfl) rfl ?_
     refine AL.nil (th_n ?_)
     refine AC.condD rfl (fun h4 => ?_) (fun h4 => ?_)
     ·refine AC.seq (AC.region ?_)
      refine AL.q (by exact h_fun (cs := []) en_l2Build rfl rfl (by repeat (first | exact rfl | exact DLead.same | refine ⟨_, _, rfl, ?_, ?_⟩)) (by repeat (exact True.intro)) plS4_spec rfl rfl rfl rfl) rfl ?_
      refine AL.q (by exact h_store rfl rfl rfl rfl rfl rfl) rfl ?_
      refine AL.nil (th_n (AC.ret (ib_r (th_r (bq_r ?_)))))
      have e : s = plS4 := by rw [hS, if_neg h0, if_neg h1, if_neg h2, if_neg h3, if_pos h4]
      exact retN [(1, _), (2, _), (3, _)] rfl (by rw [e]; repeat (first | exact rfl | exact DLead.same | refine ⟨_, _, rfl, ?_, ?_⟩ | refine ⟨_, rfl, ?_⟩)) (by rw [e]; repeat (first | exact True.intro | refine And.intro ?_ ?_ | exact DLead.same | exact rfl | refine ⟨_, _, rfl, rfl, ?_⟩ | refine ⟨_, rfl, ?_⟩ | refine ⟨_, _, rfl, ?_, ?_⟩)) rfl rfl
     ·refine AC.seq (AC.region ?_)
      refine AL.p (by exact g_cmp rfl rfl rfl) rfl ?_
      refine AL.p (by exact as1 rfl) rfl ?_
      refine AL.nil (th_n ?_)
      refine AC.condD rfl (fun h5 => ?_) (fun h5 => ?_)
      ·refine AC.seq (AC.region ?_)
       refine AL.q (by exact h_fun (cs := []) en_l2Build rfl rfl (by repeat (first | exact rfl | exact DLead.same | refine ⟨_, _, rfl, ?_, ?_⟩)) (by repeat (exact True.intro)) plS5_spec rfl rfl rfl rfl) rfl ?_
       refine AL.q (by exact h_store rfl rfl rfl rfl rfl rfl) rfl ?_
       refine AL.nil (th_n (AC.ret (ib_r (th_r (bq_r ?_)))))
       have e : s = plS5 := by rw [hS, if_neg h0, if_neg h1, if_neg h2, if_neg h3, if_neg h4, if_pos h5]
       exact retN [(1, _), (2, _), (3, _)] rfl (by rw [e]; repeat (first | exact rfl | exact DLead.same | refine ⟨_, _, rfl, ?_, ?_⟩ | refine ⟨_, rfl, ?_⟩)) (by rw [e]; repeat (first | exact True.intro | refine And.intro ?_ ?_ | exact DLead.same | exact rfl | refine ⟨_, _, rfl, rfl, ?_⟩ | refine ⟨_, rfl, ?_⟩ | refine ⟨_, _, rfl, ?_, ?_⟩)) rfl rfl
      ·refine AC.skip (ib_n (th_n (AC.seq (AC.region ?_))))
       refine AL.q (by exact h_fun (cs := []) en_l2Build rfl rfl (by repeat (first | exact rfl | exact DLead.same | refine ⟨_, _, rfl, ?_, ?_⟩)) (by repeat (exact True.intro)) plS6_spec rfl rfl rfl rfl) rfl ?_
       refine AL.q (by exact h_store rfl rfl rfl rfl rfl rfl) rfl ?_
       refine AL.nil (th_n (AC.ret (bq_r ?_)))
       have e : s = plS6 := by rw [hS, if_neg h0, if_neg h1, if_neg h2, if_neg h3, if_neg h4, if_neg h5]
       exact retN [(1, _), (2, _), (3, _)] rfl (by rw [e]; repeat (first | exact rfl | exact DLead.same | refine ⟨_, _, rfl, ?_, ?_⟩ | refine ⟨_, rfl, ?_⟩)) (by rw [e]; repeat (first | exact True.intro | refine And.intro ?_ ?_ | exact DLead.same | exact rfl | refine ⟨_, _, rfl, rfl, ?_⟩ | refine ⟨_, rfl, ?_⟩ | refine ⟨_, _, rfl, ?_, ?_⟩)) rfl rfl
theorem en_l2Plain : Enters Tryz.prog 60 := enters_of Tryz.func60 rfl rfl
theorem twS_L : NetL (unionR twS0.net twS1.net).1 := ((okS_S twS_net).1.B.n).L
set_option maxHeartbeats 4000000 in
theorem stg_spec (c : Cur) (hp : c.pos ≤ 10000000) : ASpec Tryz.prog 37 [.ptr 0 0] [(0, curC c)] (Fun1 (stgQ (stgI c).1 1 2) [(0, curC (stgI c).2), (1, .arr 80 2 (sigsL (stgI c).1.sigs)), (2, .arr 65 2 (labsL (stgI c).1.labs))]) := by
 have hK := pick_spec c 9 (by decide) (by omega)
 have hpos := c.pick_pos 9
 have hS : stgI c = if (c.pick 9).1 = 0 then (grS0, (c.pick 9).2) else if (c.pick 9).1 = 1 then (grS1, (c.pick 9).2) else if (c.pick 9).1 = 2 then (grS2, (c.pick 9).2) else if (c.pick 9).1 = 3 then (grS3, (c.pick 9).2) else if (c.pick 9).1 = 4 then (grS4, (c.pick 9).2) else (plS ((c.pick 9).2.pick 7).1, ((c.pick 9).2.pick 7).2) := rfl
 obtain ⟨p, hpp⟩ : ∃ p, p = c.pick 9 := ⟨_, rfl⟩
 rw [← hpp] at hK hS hpos
 have hP := l2Plain_spec p.2 (by omega)
 obtain ⟨pp, hpq⟩ : ∃ pp, pp = plS (p.2.pick 7).1 := ⟨_, rfl⟩
 rw [← hpq] at hP hS
 obtain ⟨s, hs⟩ : ∃ s, s = stgI c := ⟨_, rfl⟩
 rw [← hs] at hS ⊢
 have hU := sUnionSTGs_own twS0 twS1 (okS_S twS0_ok).1.B (okS_S twS1_ok).1.B twS_L twS_ok
 rw [show unionT twS0 twS1 = grS3 from rfl] at hU
 refine ASpec.of Tryz.func37 rfl rfl fun C hC => ?_
 refine AC.seq (AC.region ?_)
 refine AL.q (by exact h_alloc rfl) rfl ?_
 refine AL.nil (th_n (AC.seq (AC.seq (AC.region ?_))))
 refine AL.p (by exact mv3 rfl) rfl ?_
 refine AL.q (by exact h_fun (cs := [0]) en_pick rfl rfl (by repeat (first | exact rfl | exact DLead.same | refine ⟨_, _, rfl, ?_, ?_⟩ | refine ⟨_, rfl, ?_⟩)) (by repeat (first | exact True.intro | refine And.intro ?_ ?_ | exact DLead.same | exact rfl | refine ⟨_, _, rfl, rfl, ?_⟩ | refine ⟨_, rfl, ?_⟩ | refine ⟨_, _, rfl, ?_, ?_⟩)) hK rfl rfl rfl rfl) rfl ?_
 refine AL.nil (th_n (AC.block (AC.seq (AC.region ?_))))
 refine AL.p (by exact g_cmp rfl rfl rfl) rfl ?_
 refine AL.p (by exact as1 rfl) rfl ?_
 refine AL.nil (th_n ?_)
 refine AC.condD rfl (fun h0 => ?_) (fun h0 => ?_)
 ·refine AC.seq (AC.region ?_)
  refine AL.q (by exact h_fun (cs := []) en_l2Build rfl rfl (by repeat (first | exact rfl | exact DLead.same | refine ⟨_, _, rfl, ?_, ?_⟩)) (by repeat (exact True.intro)) grS0_spec rfl rfl rfl rfl) rfl ?_
  refine AL.weak (Weak.freezeA (i := 9) (k := 1) rfl rfl rfl (ownl _ _) (ownt _ _)) ?_
  refine AL.q (by exact h_store rfl rfl rfl rfl rfl rfl) rfl ?_
  refine AL.nil (th_n (AC.ret (ib_r (th_r (bq_r ?_)))))
  have e : s = (grS0, p.2) := by rw [hS, if_pos h0]
  exact retN [(1, _), (2, _)] rfl (by rw [e]; repeat (first | exact rfl | exact DLead.same | refine ⟨_, _, rfl, ?_, ?_⟩ | refine ⟨_, rfl, ?_⟩)) (by rw [e]; repeat (first | exact True.intro | refine And.intro ?_ ?_ | exact DLead.same | exact rfl | refine ⟨_, _, rfl, rfl, ?_⟩ | refine ⟨_, rfl, ?_⟩ | refine ⟨_, _, rfl, ?_, ?_⟩)) rfl rfl
 ·refine AC.seq (AC.region ?_)
  refine AL.p (by exact g_cmp rfl rfl rfl) rfl ?_
  refine AL.p (by exact as1 rfl) rfl ?_
  refine AL.nil (th_n ?_)
  refine AC.condD rfl (fun h1 => ?_) (fun h1 => ?_)
  ·refine AC.seq (AC.region ?_)
   refine AL.q (by exact h_fun (cs := []) en_l2Build rfl rfl (by repeat (first | exact rfl | exact DLead.same | refine ⟨_, _, rfl, ?_, ?_⟩)) (by repeat (exact True.intro)) grS1_spec rfl rfl rfl rfl) rfl ?_
   refine AL.weak (Weak.freezeA (i := 12) (k := 1) rfl rfl rfl (ownl _ _) (ownt _ _)) ?_
   refine AL.q (by exact h_store rfl rfl rfl rfl rfl rfl) rfl ?_
   refine AL.nil (th_n (AC.ret (ib_r (th_r (bq_r ?_)))))
   have e : s = (grS1, p.2) := by rw [hS, if_neg h0, if_pos h1]
   exact retN [(1, _), (2, _)] rfl (by rw [e]; repeat (first | exact rfl | exact DLead.same | refine ⟨_, _, rfl, ?_, ?_⟩ | refine ⟨_, rfl, ?_⟩)) (by rw [e]; repeat (first | exact True.intro | refine And.intro ?_ ?_ | exact DLead.same | exact rfl | refine ⟨_, _, rfl, rfl, ?_⟩ | refine ⟨_, rfl, ?_⟩ | refine ⟨_, _, rfl, ?_, ?_⟩)) rfl rfl
  ·refine AC.seq (AC.region ?_)
   refine AL.p (by exact g_cmp rfl rfl rfl) rfl ?_
   refine AL.p (by exact as1 rfl) rfl ?_
   refine AL.nil (th_n ?_)
   refine AC.condD rfl (fun h2 => ?_) (fun h2 => ?_)
   ·refine AC.seq (AC.region ?_)
    refine AL.q (by exact h_fun (cs := []) en_l2Build rfl rfl (by repeat (first | exact rfl | exact DLead.same | refine ⟨_, _, rfl, ?_, ?_⟩)) (by repeat (exact True.intro)) grS2_spec rfl rfl rfl rfl) rfl ?_
    refine AL.weak (Weak.freezeA (i := 15) (k := 1) rfl rfl rfl (ownl _ _) (ownt _ _)) ?_
    refine AL.q (by exact h_store rfl rfl rfl rfl rfl rfl) rfl ?_
    refine AL.nil (th_n (AC.ret (ib_r (th_r (bq_r ?_)))))
    have e : s = (grS2, p.2) := by rw [hS, if_neg h0, if_neg h1, if_pos h2]
    exact retN [(1, _), (2, _)] rfl (by rw [e]; repeat (first | exact rfl | exact DLead.same | refine ⟨_, _, rfl, ?_, ?_⟩ | refine ⟨_, rfl, ?_⟩)) (by rw [e]; repeat (first | exact True.intro | refine And.intro ?_ ?_ | exact DLead.same | exact rfl | refine ⟨_, _, rfl, rfl, ?_⟩ | refine ⟨_, rfl, ?_⟩ | refine ⟨_, _, rfl, ?_, ?_⟩)) rfl rfl
   ·refine AC.seq (AC.region ?_)
    refine AL.p (by exact g_cmp rfl rfl rfl) rfl ?_
    refine AL.p (by exact as1 rfl) rfl ?_
    refine AL.nil (th_n ?_)
    refine AC.condD rfl (fun h3 => ?_) (fun h3 => ?_)
    ·refine AC.seq (AC.region ?_)
     refine AL.q (by exact h_fun (cs := []) en_l2Build rfl rfl (by repeat (first | exact rfl | exact DLead.same | refine ⟨_, _, rfl, ?_, ?_⟩)) (by repeat (exact True.intro)) twS0_spec rfl rfl rfl rfl) rfl ?_
     refine AL.weak (Weak.freezeA3 19 rfl rfl rfl rfl rfl rfl rfl (ownl _ _) (ownl _ _) (ownl _ _) (ownt _ _) (ownt _ _) (ownt _ _)) ?_
     refine AL.q (by exact h_fun (cs := []) en_l2Build rfl rfl (by repeat (first | exact rfl | exact DLead.same | refine ⟨_, _, rfl, ?_, ?_⟩)) (by repeat (exact True.intro)) twS1_spec rfl rfl rfl rfl) rfl ?_
     refine AL.weak (Weak.freezeA3 20 rfl rfl rfl rfl rfl rfl rfl (ownl _ _) (ownl _ _) (ownl _ _) (ownt _ _) (ownt _ _) (ownt _ _)) ?_
     refine AL.q (by exact h_fun (cs := []) en_sUnionSTGs rfl rfl (by repeat (first | exact rfl | exact DLead.same | refine ⟨_, _, rfl, ?_, ?_⟩ | refine ⟨_, rfl, ?_⟩)) (by repeat (exact True.intro)) hU rfl rfl rfl rfl) rfl ?_
     refine AL.p (by exact mv5 rfl) rfl ?_
     refine AL.p (by exact g_extract (r := .agg _) rfl rfl) rfl ?_
     refine AL.p (by exact g_extract (r := .d _) rfl rfl) rfl ?_
     refine AL.q (by exact h_alloc rfl) rfl ?_
     refine AL.q (by exact h_store rfl rfl rfl rfl rfl rfl) rfl ?_
     refine AL.p (by exact as1 rfl) rfl ?_
     refine AL.nil (th_n (AC.seq (AC.region ?_)))
     refine AL.p (by exact mv1 rfl) rfl ?_
     refine AL.nil (th_n ?_)
     refine AC.condT rfl ?_
     refine AC.seq (AC.region ?_)
     refine AL.p (by exact g_load_ptrN rfl rfl rfl rfl rfl) rfl ?_
     refine AL.q (by exact h_store rfl rfl rfl rfl rfl rfl) rfl ?_
     refine AL.nil (th_n (AC.ret (ib_r (th_r (bq_r ?_)))))
     have e : s = (grS3, p.2) := by rw [hS, if_neg h0, if_neg h1, if_neg h2, if_pos h3]
     exact retN [(1, _), (2, _)] rfl (by rw [e]; repeat (first | exact rfl | exact DLead.same | refine ⟨_, _, rfl, ?_, ?_⟩ | refine ⟨_, rfl, ?_⟩)) (by rw [e]; repeat (first | exact True.intro | refine And.intro ?_ ?_ | exact DLead.same | exact rfl | refine ⟨_, _, rfl, rfl, ?_⟩ | refine ⟨_, rfl, ?_⟩ | refine ⟨_, _, rfl, ?_, ?_⟩)) rfl rfl
    ·refine AC.seq (AC.region ?_)
     refine AL.p (by exact g_cmp rfl rfl rfl) rfl ?_
     refine AL.p (by exact as1 rfl) rfl ?_
     refine AL.nil (th_n ?_)
     refine AC.condD rfl (fun h4 => ?_) (fun h4 => ?_)
     ·refine AC.seq (AC.region ?_)
      refine AL.q (by exact h_fun (cs := []) en_l2Build rfl rfl (by repeat (first | exact rfl | exact DLead.same | refine ⟨_, _, rfl, ?_, ?_⟩)) (by repeat (exact True.intro)) grS4_spec rfl rfl rfl rfl) rfl ?_
      refine AL.weak (Weak.freezeA (i := 28) (k := 1) rfl rfl rfl (ownl _ _) (ownt _ _)) ?_
      refine AL.q (by exact h_store rfl rfl rfl rfl rfl rfl) rfl ?_
      refine AL.nil (th_n (AC.ret (ib_r (th_r (bq_r ?_)))))
      have e : s = (grS4, p.2) := by rw [hS, if_neg h0, if_neg h1, if_neg h2, if_neg h3, if_pos h4]
      exact retN [(1, _), (2, _)] rfl (by rw [e]; repeat (first | exact rfl | exact DLead.same | refine ⟨_, _, rfl, ?_, ?_⟩ | refine ⟨_, rfl, ?_⟩)) (by rw [e]; repeat (first | exact True.intro | refine And.intro ?_ ?_ | exact DLead.same | exact rfl | refine ⟨_, _, rfl, rfl, ?_⟩ | refine ⟨_, rfl, ?_⟩ | refine ⟨_, _, rfl, ?_, ?_⟩)) rfl rfl
     ·refine AC.skip (ib_n (th_n (AC.seq (AC.region ?_))))
      refine AL.p (by exact mv3 rfl) rfl ?_
      refine AL.q (by exact h_fun (cs := [0]) en_l2Plain rfl rfl (by repeat (first | exact rfl | refine ⟨_, _, rfl, ?_, ?_⟩ | refine ⟨_, rfl, ?_⟩)) (by repeat (first | exact True.intro | refine And.intro ?_ ?_ | exact DLead.same | exact rfl | refine ⟨_, _, rfl, rfl, ?_⟩ | refine ⟨_, rfl, ?_⟩ | refine ⟨_, _, rfl, ?_, ?_⟩)) hP rfl rfl rfl rfl) rfl ?_
      refine AL.weak (Weak.freezeA (i := 30) (k := 1) rfl rfl rfl (ownl _ _) (ownt _ _)) ?_
      refine AL.q (by exact h_store rfl rfl rfl rfl rfl rfl) rfl ?_
      refine AL.nil (th_n (AC.ret (bq_r ?_)))
      have e : s = (pp, (p.2.pick 7).2) := by rw [hS, if_neg h0, if_neg h1, if_neg h2, if_neg h3, if_neg h4]
      exact retN [(1, _), (2, _)] rfl (by rw [e]; repeat (first | exact rfl | exact DLead.same | refine ⟨_, _, rfl, ?_, ?_⟩ | refine ⟨_, rfl, ?_⟩)) (by rw [e]; repeat (first | exact True.intro | refine And.intro ?_ ?_ | exact DLead.same | exact rfl | refine ⟨_, _, rfl, rfl, ?_⟩ | refine ⟨_, rfl, ?_⟩ | refine ⟨_, _, rfl, ?_, ?_⟩)) rfl rfl
theorem en_stg : Enters Tryz.prog 37 := enters_of Tryz.func37 rfl rfl
def labT (s : List Sig) (x : Lab) : List UInt8 := if x.sig < 0 then [126] else (sAt s x.sig.toNat).name ++ [bif x.up then 43 else 45]
theorem dec_len : ∀ n : Nat, (Lib.decDigits n).length ≤ n + 1 := by
 intro n
 induction n using Nat.strongRecOn with
 | _ n ih =>
  rw [Lib.decDigits]
  split
  ·simp
  ·have := ih (n / 10) (by omega)
   rw [List.length_append]
   simp only [List.length_cons, List.length_nil]
   omega
theorem labT_len {s : List Sig} (hn : ∀ t, t ∈ s → t.name.length ≤ 1000) (x : Lab) : (labT s x).length ≤ 1001 := by
 unfold labT
 split
 ·simp
 ·rw [List.length_append]
  have : (sAt s x.sig.toNat).name.length ≤ 1000 := by
   unfold sAt
   rw [List.getD_eq_getElem?_getD]
   cases e : s[x.sig.toNat]? with
   | none => simp
   | some y => exact hn y (List.mem_of_getElem? e)
  simp only [List.length_cons, List.length_nil]; omega
set_option maxHeartbeats 2000000 in
theorem edgeTextG_spec (s : List Sig) (x : Lab) (hx : x.sig < s.length) (hn : ∀ t, t ∈ s → t.name.length ≤ 1000) : ASpec Tryz.prog 26 [.d (vSigs s), labA x] [] (Pure1 (aS (bstr (labT s x)))) := by
 have hI : ¬ x.sig < 0 → x.sig = ((x.sig.toNat : Nat) : Int) := by omega
 have hget : ¬ x.sig < 0 → (sigsL s)[x.sig.toNat]? = some (sigD (sAt s x.sig.toNat)) := by intro h; have h2 : x.sig.toNat < s.length := by { omega }; rw [sAt_nat h2]; exact sigsL_get h2
 have hnl : ¬ x.sig < 0 → (sAt s x.sig.toNat).name.length ≤ 1000 := by intro h; have h2 : x.sig.toNat < s.length := by { omega }; rw [sAt_nat h2]; exact hn _ (List.getElem_mem h2)
 have hT : labT s x = if x.sig < 0 then [126] else (sAt s x.sig.toNat).name ++ [bif x.up then 43 else 45] := rfl
 refine ASpec.of Tryz.func26 rfl rfl fun C hC => ?_
 refine AC.seq (AC.region ?_)
 refine AL.q (by exact h_boxF rfl rfl) rfl ?_
 refine AL.p (by exact as1 rfl) rfl ?_
 refine AL.nil (th_n (AC.seq (AC.block (AC.seq (AC.region ?_)))))
 refine AL.p (by exact g_fa_ref rfl rfl rfl rfl rfl rfl) rfl ?_
 refine AL.p (by exact g_load_ref rfl rfl rfl) rfl ?_
 refine AL.p (by exact g_cmp rfl rfl rfl) rfl ?_
 refine AL.p (by exact as1 rfl) rfl ?_
 refine AL.nil (th_n ?_)
 refine AC.condD rfl (fun h0 => ?_) (fun h0 => ?_)
 ·refine AC.seq (AC.region ?_)
  refine AL.p (by exact as1 rfl) rfl ?_
  refine AL.nil (th_n (AC.ret (ib_r (th_r (bq_r ?_)))))
  exact ret1 rfl (by rw [hT, if_pos h0]; rfl)
 ·refine AC.seq (AC.region ?_)
  refine AL.p (by exact g_fa_ref rfl rfl rfl rfl rfl rfl) rfl ?_
  refine AL.p (by exact g_load_ref rfl rfl rfl) rfl ?_
  refine AL.p (by exact as1 rfl) rfl ?_
  refine AL.nil (th_n ?_)
  refine AC.condB rfl (fun h1 => ?_) (fun h1 => ?_)
  ·refine AC.seq ?_
   have hI1 := hI h0
   have hget1 := hget h0
   have hnl1 := hnl h0
   refine AC.region ?_
   refine AL.p (by exact mv1 rfl) rfl ?_
   refine AL.p (by exact g_fa_ref rfl rfl rfl rfl rfl rfl) rfl ?_
   refine AL.p (by exact g_load_ref rfl rfl rfl) rfl ?_
   refine AL.p (by exact g_ia_view rfl rfl rfl rfl rfl (by assumption) (by assumption)) rfl ?_
   refine AL.p (by exact g_fa_ref rfl rfl rfl rfl rfl rfl) rfl ?_
   refine AL.p (by exact g_load_ref rfl rfl rfl) rfl ?_
   refine AL.p (by exact g_saddB (a := (sAt s x.sig.toNat).name) (b := [43]) rfl rfl (by simp only [List.length_cons, List.length_nil]; omega)) rfl ?_
   refine AL.p (by exact as1 rfl) rfl ?_
   refine AL.nil (th_n (AC.ret (ib_r (th_r (bq_r ?_)))))
   exact ret1 rfl (by rw [hT, if_neg h0, h1]; rfl)
  ·refine AC.skip (ib_n (th_n (AC.seq ?_)))
   have hI1 := hI h0
   have hget1 := hget h0
   have hnl1 := hnl h0
   refine AC.region ?_
   refine AL.p (by exact mv1 rfl) rfl ?_
   refine AL.p (by exact g_fa_ref rfl rfl rfl rfl rfl rfl) rfl ?_
   refine AL.p (by exact g_load_ref rfl rfl rfl) rfl ?_
   refine AL.p (by exact g_ia_view rfl rfl rfl rfl rfl (by assumption) (by assumption)) rfl ?_
   refine AL.p (by exact g_fa_ref rfl rfl rfl rfl rfl rfl) rfl ?_
   refine AL.p (by exact g_load_ref rfl rfl rfl) rfl ?_
   refine AL.p (by exact g_saddB (a := (sAt s x.sig.toNat).name) (b := [45]) rfl rfl (by simp only [List.length_cons, List.length_nil]; omega)) rfl ?_
   refine AL.p (by exact as1 rfl) rfl ?_
   refine AL.nil (th_n (AC.ret (bq_r ?_)))
   exact ret1 rfl (by rw [hT, if_neg h0, h1]; rfl)
theorem en_edgeText : Enters Tryz.prog 26 := enters_of Tryz.func26 rfl rfl
theorem labsLA_get {l : List Lab} {k : Nat} (h : k < l.length) : (labsL l)[k]? = some [dI (lAt l k).sig, dT (lAt l k).up] := by rw [lAt_nat h]; exact labsL_get h
theorem en_itoa : Enters Tryz.prog 32 := enters_of Tryz.func32 rfl rfl
theorem en_l1Num : Enters Tryz.prog 35 := enters_of Tryz.func35 rfl rfl
set_option maxHeartbeats 2000000 in
theorem l1Num_step (n : Nat) (h : n ≤ 1000000) (ih : ∀ m, m < n → m ≤ 1000000 → ASpec Tryz.prog 35 [aI m] [] (Pure1 (aS (bstr (Lib.decDigits m))))) : ASpec Tryz.prog 35 [aI n] [] (Pure1 (aS (bstr (Lib.decDigits n)))) := by
 have hd : Lib.decDigits n = if n < 10 then [UInt8.ofNat (48 + n)] else Lib.decDigits (n / 10) ++ [UInt8.ofNat (48 + n % 10)] := by
  rw [Lib.decDigits]; split <;> rfl
 have hu8 : n < 10 → ((UInt8.ofNat (48 + n)).toNat : Int) = 48 + n := by intro h; rw [UInt8.toNat_ofNat']; omega
 have hu9 : ((UInt8.ofNat (48 + n % 10)).toNat : Int) = 48 + ((n % 10 : Nat) : Int) := by rw [UInt8.toNat_ofNat']; omega
 have hq : IntKind.i64.wrap ((n : Int).tdiv 10) = ((n / 10 : Nat) : Int) := by
  rw [show ((n : Int).tdiv 10) = ((n / 10 : Nat) : Int) by rw [Int.tdiv_eq_ediv_of_nonneg (by omega)]; omega]
  exact wrap_i64 (by omega)
 have hr : (n : Int).tmod 10 = ((n % 10 : Nat) : Int) := by rw [Int.tmod_eq_emod_of_nonneg (by omega)]; omega
 have hdl := dec_len (n / 10)
 refine ASpec.of Tryz.func35 rfl rfl fun C hC => ?_
 refine AC.seq (AC.region ?_)
 refine AL.p (by exact as1 rfl) rfl ?_
 refine AL.nil (th_n (AC.seq (AC.seq (AC.region ?_))))
 refine AL.p (by exact mv1 rfl) rfl ?_
 refine AL.p (by exact g_cmp rfl rfl rfl) rfl ?_
 refine AL.nil (th_n ?_)
 refine AC.condD rfl (fun h0 => ?_) (fun h0 => ?_)
 ·refine AC.seq ?_
  have hn10 : n < 10 := by omega
  have hu := hu8 hn10
  refine AC.region ?_
  refine AL.p (by exact mv1 rfl) rfl ?_
  refine AL.p (by exact g_arith rfl rfl rfl (by exact wrap_i64 (by omega))) rfl ?_
  refine AL.p (by exact g_convI (c := 48 + (n : Int)) rfl rfl rfl (wrap_u8 (by omega))) rfl ?_
  refine AL.q (by exact h_lit rfl rfl rfl rfl rfl rfl rfl rfl) rfl ?_
  refine AL.p (by exact g_strOfBytes (l := [UInt8.ofNat (48 + n)]) rfl rfl rfl rfl rfl (by show _ = [[DV.val (.int .u8 ((UInt8.ofNat (48 + n)).toNat : Int))]]; rw [hu]) rfl) rfl ?_
  refine AL.p (by exact as1 rfl) rfl ?_
  refine AL.nil (th_n (AC.ret (th_r (bq_r ?_))))
  exact ret1 rfl (by rw [hd, if_pos hn10])
 ·refine AC.skip (th_n (AC.seq ?_))
  have hn10 : ¬ n < 10 := by omega
  have hI := ih (n / 10) (by omega) (by omega)
  refine AC.drawn' mixed_ok [[], [0], [0,1], [], [3], [3,4], [3,4,5], [3,4,5,6], [3,4,5,6,7], [0,1,2,3,4,5,6,7,8], [0,1,2,3,4,5,6,7,8,9]] (by decide) ?_
  refine DF.op 0 [] 11 rfl rfl rfl (.free rfl (NOp.of (by exact mv1 rfl))) rfl ?_
  refine DF.op 1 [0] 11 rfl rfl rfl (.free rfl (NOp.of (by exact g_quo (c := ((n / 10 : Nat) : Int)) rfl rfl (by decide) hq))) rfl ?_
  refine DF.op 2 [0,1] 11 rfl rfl rfl (.free rfl (by exact h_pure en_l1Num rfl rfl (by repeat (first | exact rfl | exact DLead.same | refine ⟨_, _, rfl, ?_, ?_⟩)) hI rfl)) rfl ?_
  refine DF.op 3 [] 11 rfl rfl rfl (.free rfl (NOp.of (by exact mv1 rfl))) rfl ?_
  refine DF.op 4 [3] 11 rfl rfl rfl (.free rfl (NOp.of (by exact g_rem (c := ((n % 10 : Nat) : Int)) rfl rfl (by decide) hr))) rfl ?_
  refine DF.op 5 [3,4] 11 rfl rfl rfl (.free rfl (NOp.of (by exact g_arith (e := 48 + ((n % 10 : Nat) : Int)) rfl rfl rfl (wrap_i64 (by omega))))) rfl ?_
  refine DF.op 6 [3,4,5] 11 rfl rfl rfl (.free rfl (NOp.of (by exact g_convI (c := 48 + ((n % 10 : Nat) : Int)) rfl rfl rfl (wrap_u8 (by omega))))) rfl ?_
  refine DF.op 7 [3,4,5,6] 11 rfl rfl rfl (.free rfl (by exact h_lit rfl rfl rfl rfl rfl rfl rfl rfl)) rfl ?_
  refine DF.op 8 [3,4,5,6,7] 11 rfl rfl rfl (.free rfl (NOp.of (by exact g_strOfBytes (l := [UInt8.ofNat (48 + n % 10)]) rfl rfl rfl rfl rfl (by show _ = [[DV.val (.int .u8 ((UInt8.ofNat (48 + n % 10)).toNat : Int))]]; rw [hu9]) rfl))) rfl ?_
  refine DF.op 9 (List.range 9) 11 rfl rfl rfl (.free rfl (NOp.of (by exact g_saddB (a := Lib.decDigits (n / 10)) (b := [UInt8.ofNat (48 + n % 10)]) rfl rfl (by simp only [List.length_cons, List.length_nil]; omega)))) rfl ?_
  refine DF.op 10 (List.range 10) 11 rfl rfl rfl (.free rfl (NOp.of (by exact as1 rfl))) rfl ?_
  refine DF.fin (ps := [(0,3),(0,4),(0,5),(0,6),(0,7),(0,8),(1,3),(1,4),(1,5),(1,6),(1,7),(1,8),(2,3),(2,4),(2,5),(2,6),(2,7),(2,8),(3,0),(3,1),(3,2),(4,0),(4,1),(4,2),(5,0),(5,1),(5,2),(6,0),(6,1),(6,2),(7,0),(7,1),(7,2),(8,0),(8,1),(8,2)]) 11 rfl (by decide +kernel) (by decide +kernel) (by rfl) ?_
  refine th_n (AC.ret (bq_r ?_))
  exact ret1 rfl (by rw [hd, if_neg hn10])
theorem l1Num_dec (n : Nat) (h : n ≤ 1000000) : ASpec Tryz.prog 35 [aI n] [] (Pure1 (aS (bstr (Lib.decDigits n)))) := by
 induction n using Nat.strongRecOn with
 | _ n ih => exact l1Num_step n h ih
theorem RelM.freezeNew {C : Ctx} {U : Nat → Prop} {s : ASt} {a : Act} {w : World} {m : Nat → Option (Option Nat × Nat)} (hR : RelM C U s a w m) {i id n e sz : Nat} {els els' : List (List DV)} (hs : s.get i = .own id n) (hc : s.chunk id = some (.arr e sz els)) (hn : n ≤ els.length) (he : els.take n = els') : RelM C U { s with sl := (i, .d (.view e sz els')) :: s.sl, ch := (id, none) :: s.ch } a w m := by
 subst he
 have hch : ∀ j c, (getL j ((id, none) :: s.ch)).getD none = some c → j ≠ id ∧ s.chunk j = some c := by
  intro j c h
  rw [getL_cons] at h
  split at h
  ·simp at h
  ·rename_i e; exact ⟨e, h⟩
 have hF : ∀ q, Fz C m s w q → Fz C m { s with sl := (i, .d (.view e sz (els.take n))) :: s.sl, ch := (id, none) :: s.ch } w q := fun q hq => ⟨hq.1, hq.2.1, fun j c p h1 h2 => hq.2.2 j c p (hch j c h1).2 h2⟩
 refine ⟨hR.fr, hR.fin, hR.sz, fun j => ?_, fun j c h1 => ?_, fun j j' c c' p p' h1 h2 hp hp' b hb hb' => hR.inj j j' c c' p p' (hch j c h1).2 (hch j' c' h2).2 hp hp' b hb hb', hR.un, hR.defers, hR.m0, hR.m0k⟩
 ·show ARep _ _ _ ((getL j ((i, .d (.view e sz (els.take n))) :: s.sl)).getD .dead) _
  rw [getL_cons]
  by_cases hj : j = i
  ·subst hj
   rw [if_pos rfl]
   have hv := hR.sl j
   rw [hs] at hv
   generalize a.tmps.getD j undef = v at hv
   simp only [Option.getD_some]
   cases hv with
   | own hp h0 =>
    rename_i cap b
    have hC := hR.chunkAt hc hp
    cases hC with
    | nil h =>
     have : n = 0 := by simpa using hn
     subst this
     exact .d .nil
    | arr hb hf hsz hl hm h0' hrow hel =>
     rename_i b arr fz
     have hlen : (els.take n).length = n := by simp; omega
     have hsub : ∀ (i : Nat) cs, (els.take n)[i]? = some cs → els[i]? = some cs := by
      intro i cs hi
      rw [List.getElem?_take] at hi
      split at hi
      ·exact hi
      ·cases hi
     obtain ⟨q, hq, hr, hloc⟩ := hR.ch id _ hc
     rw [hp] at hq
     obtain rfl : (some b, cap) = q := by simpa using hq
     have hFb : Fz C m { s with sl := (j, .d (.view e sz (els.take n))) :: s.sl, ch := (id, none) :: s.ch } w b := by
      refine ⟨.inr (hloc b (.inl rfl)), lt_of_block hb, fun j' c p h1 h2 h3 => ?_⟩
      obtain ⟨hne, h4⟩ := hch j' c h1
      exact hne (hR.inj j' id c _ p _ h4 hc h2 hp b h3 (.inl rfl))
     have := DRep.view (F := Fz C m { s with sl := (j, .d (.view e sz (els.take n))) :: s.sl, ch := (id, none) :: s.ch } w) (e := e) (sz := sz) (els := els.take n) (off := 0) (cap := cap) hFb hb (by omega) hm (by omega) (fun i cs hi => hrow i cs (hsub i cs hi)) (fun i cs j d hi hj => by rw [Nat.zero_add]; exact (hel i cs j d (hsub i cs hi) hj).mono hF)
     rw [hlen] at this
     exact .d this
  ·rw [if_neg hj]
   exact (hR.sl j).turn (MLe.refl m) (fun k hk _ => ⟨hF k hk, rfl⟩)
 ·obtain ⟨_, h2⟩ := hch j c h1
  obtain ⟨p, hp, hr, hl⟩ := hR.ch j c h2
  exact ⟨p, hp, hr.turn (MLe.refl m) (fun k hk _ => ⟨hF k hk, rfl⟩) (fun _ _ => rfl), hl⟩
theorem NOp.frozen {P : Program} {ids : List Nat} {s : ASt} {o : Oper} {f n e sz t : Nat} {els els' : List (List DV)} (ho : o.dst = some t) (h : NOp P ids s o f ⟨.own f n, [(f, some (.arr e sz els))]⟩) (hn : n ≤ els.length) (he : els.take n = els') : NOp P ids s o f ⟨.d (.view e sz els'), []⟩ := by
 refine ⟨fun s' ha C U U' a w m hR hU hU' hd K Q hK => h.run s' ha C U U' a w m hR hU hU' hd K Q fun a' w' m' hR' => ?_⟩
 rw [ho] at hR' hK
 have hf : m f = none := hR.un f (by simpa using hU 0 (by omega))
 have hfs : ∀ c, ¬ s'.chunk f = some c := fun c q => by
  obtain ⟨p, hp, _⟩ := hR.ch f c q
  rw [hf] at hp; cases hp
 have hg : (s'.app (some t) ⟨.own f n, [(f, some (.arr e sz els))]⟩).get t = .own f n := by
  show (getL t ((t, AV.own f n) :: s'.sl)).getD AV.dead = _
  rw [getL_cons, if_pos rfl]; rfl
 have hc : (s'.app (some t) ⟨.own f n, [(f, some (.arr e sz els))]⟩).chunk f = some (.arr e sz els) := by
  show (getL f ((f, _) :: _)).getD none = _
  rw [getL_cons, if_pos rfl]; rfl
 have h2 := hR'.freezeNew hg hc hn he
 refine hK a' w' m' (h2.weaken rfl (fun i => .inr ?_) (fun id c q => ?_) (fun _ h => h))
 ·show (getL i ((t, AV.d (.view e sz els')) :: s'.sl)).getD AV.dead = (getL i ((t, AV.d (.view e sz els')) :: (t, AV.own f n) :: s'.sl)).getD AV.dead
  rw [getL_cons, getL_cons, getL_cons]
  by_cases hi : i = t
  ·rw [if_pos hi, if_pos hi]
  ·rw [if_neg hi, if_neg hi, if_neg hi]
 ·have q' : s'.chunk id = some c := q
  have hne : id ≠ f := fun e => hfs c (e ▸ q')
  show (getL id ((f, _) :: (f, _) :: s'.ch)).getD none = some c
  rw [getL_cons, getL_cons, if_neg hne, if_neg hne]
  exact q'
theorem firedQ_in {N : Net} : ∀ (L : List Tf) (c : Ck), (firedQ N L c).2 = true → ∀ x, x ∈ L → 0 ≤ x.t ∧ x.t.toNat < N.ts.length
 | [], c, h, x, hx => by cases hx
 | y :: ys, c, h, x, hx => by
  rw [firedQ] at h
  split at h
  ·rename_i ho
   rcases List.mem_cons.1 hx with rfl | hx
   ·simp only [okF, Bool.and_eq_true, decide_eq_true_eq] at ho
    omega
   ·exact firedQ_in ys _ h x hx
  ·cases h
theorem entR_in {s : Stg} {run : List Tf} (h : (entR s run).2 = true) : goodS s = true ∧ ∀ x, x ∈ run → 0 ≤ x.t ∧ x.t.toNat < s.labs.length := by
 unfold entR at h
 split at h
 ·rename_i h1
  have hg := (Bool.and_eq_true_iff.1 h1).1
  split at h
  ·rename_i h2
   refine ⟨hg, fun x hx => ?_⟩
   rw [(goodS_sigs hg).2.2.2]
   exact firedQ_in run _ h2 x hx
  ·cases h
 ·cases h
def visW (s : Stg) (x : Tf) : List UInt8 := if 0 ≤ (lAt s.labs x.t.toNat).sig then labT s.sigs (lAt s.labs x.t.toNat) else []
def visT (s : Stg) (run : List Tf) : List UInt8 := (run.map (visW s)).flatten
def visR (s : Stg) (run : List Tf) : List UInt8 × Bool := if (entR s run).2 = true then (visT s run, true) else ([], false)
theorem visT_take {s : Stg} {run : List Tf} {k : Nat} (hk : k < run.length) : visT s (run.take (k + 1)) = visT s (run.take k) ++ visW s run[k] := by
 unfold visT
 rw [List.take_add_one, List.getElem?_eq_getElem hk, List.map_append, List.flatten_append]
 simp
theorem visT_len {s : Stg} (hn : ∀ t, t ∈ s.sigs → t.name.length ≤ 1000) : ∀ L : List Tf, (visT s L).length ≤ 1001 * L.length
 | [] => Nat.le_refl _
 | x :: xs => by
  have ih := visT_len hn xs
  have : (visW s x).length ≤ 1001 := by
   unfold visW
   split
   ·exact labT_len hn _
   ·exact Nat.zero_le _
  show (visW s x ++ visT s xs).length ≤ _
  rw [List.length_append, List.length_cons]
  omega
set_option maxHeartbeats 2000000 in
theorem l24WordG_spec (s : List Sig) (x : Lab) (hx : 0 ≤ x.sig ∧ x.sig < s.length) (hn : ∀ t, t ∈ s → t.name.length ≤ 1000) : ASpec Tryz.prog 28 [.d (vSigs s), labA x] [] (Pure1 (aS (bstr (labT s x)))) := by
 have hI : x.sig = ((x.sig.toNat : Nat) : Int) := by omega
 have h2 : x.sig.toNat < s.length := by omega
 have hget : (sigsL s)[x.sig.toNat]? = some (sigD (sAt s x.sig.toNat)) := by rw [sAt_nat h2]; exact sigsL_get h2
 have hnl : (sAt s x.sig.toNat).name.length ≤ 1000 := by rw [sAt_nat h2]; exact hn _ (List.getElem_mem h2)
 have hT : labT s x = (sAt s x.sig.toNat).name ++ [bif x.up then 43 else 45] := by unfold labT; rw [if_neg (by omega)]
 refine ASpec.of Tryz.func28 rfl rfl fun C hC => ?_
 refine AC.seq (AC.region ?_)
 refine AL.q (by exact h_boxF rfl rfl) rfl ?_
 refine AL.p (by exact as1 rfl) rfl ?_
 refine AL.nil (th_n (AC.seq (AC.seq (AC.region ?_))))
 refine AL.p (by exact g_fa_ref rfl rfl rfl rfl rfl rfl) rfl ?_
 refine AL.p (by exact g_load_ref rfl rfl rfl) rfl ?_
 refine AL.nil (th_n ?_)
 refine AC.condB rfl (fun h0 => ?_) (fun h0 => ?_)
 ·refine AC.seq (AC.region ?_)
  refine AL.p (by exact mv1 rfl) rfl ?_
  refine AL.p (by exact g_fa_ref rfl rfl rfl rfl rfl rfl) rfl ?_
  refine AL.p (by exact g_load_ref rfl rfl rfl) rfl ?_
  refine AL.p (by exact g_ia_view rfl rfl rfl rfl rfl (by assumption) (by assumption)) rfl ?_
  refine AL.p (by exact g_fa_ref rfl rfl rfl rfl rfl rfl) rfl ?_
  refine AL.p (by exact g_load_ref rfl rfl rfl) rfl ?_
  refine AL.p (by exact g_saddB (a := (sAt s x.sig.toNat).name) (b := [43]) rfl rfl (by simp only [List.length_cons, List.length_nil]; omega)) rfl ?_
  refine AL.p (by exact as1 rfl) rfl ?_
  refine AL.nil (th_n (AC.ret (th_r (bq_r ?_))))
  exact ret1 rfl (by rw [hT, h0]; rfl)
 ·refine AC.skip (th_n (AC.seq (AC.region ?_)))
  refine AL.p (by exact mv1 rfl) rfl ?_
  refine AL.p (by exact g_fa_ref rfl rfl rfl rfl rfl rfl) rfl ?_
  refine AL.p (by exact g_load_ref rfl rfl rfl) rfl ?_
  refine AL.p (by exact g_ia_view rfl rfl rfl rfl rfl (by assumption) (by assumption)) rfl ?_
  refine AL.p (by exact g_fa_ref rfl rfl rfl rfl rfl rfl) rfl ?_
  refine AL.p (by exact g_load_ref rfl rfl rfl) rfl ?_
  refine AL.p (by exact g_saddB (a := (sAt s x.sig.toNat).name) (b := [45]) rfl rfl (by simp only [List.length_cons, List.length_nil]; omega)) rfl ?_
  refine AL.p (by exact as1 rfl) rfl ?_
  refine AL.nil (th_n (AC.ret (bq_r ?_)))
  exact ret1 rfl (by rw [hT, h0]; rfl)
theorem en_l24Word : Enters Tryz.prog 28 := enters_of Tryz.func28 rfl rfl
set_option maxHeartbeats 4000000 in
theorem iVis_spec (s : Stg) (run : List Tf) (hB : StgB s) (hn : run.length ≤ 100000) (hr : ∀ x, x ∈ run → -1000000 ≤ x.tm ∧ x.tm ≤ 1000000 ∧ -1000000 ≤ x.t ∧ x.t ≤ 1000000) : ASpec Tryz.prog 8 [stgA s, .d (vTfs run)] [] (Pure1 (.tup [aS (bstr (visR s run).1), aT (visR s run).2])) := by
 have hE := iEnT_spec s run hB hn hr
 have hin := entR_in (s := s) (run := run)
 have hR : visR s run = if (entR s run).2 = true then (visT s run, true) else ([], false) := rfl
 obtain ⟨E, hE0⟩ : ∃ E, E = entR s run := ⟨_, rfl⟩
 rw [← hE0] at hE hin hR
 obtain ⟨G, hG⟩ : ∃ G, G = visR s run := ⟨_, rfl⟩
 rw [← hG] at hR ⊢
 clear hG hE0
 refine ASpec.of Tryz.func8 rfl rfl fun C hC => ?_
 refine AC.seq (AC.region ?_)
 refine AL.q (by exact h_boxF rfl rfl) rfl ?_
 refine AL.p (by exact as1 rfl) rfl ?_
 refine AL.p (by exact as1 rfl) rfl ?_
 refine AL.nil (th_n (AC.seq (AC.seq (AC.region ?_))))
 refine AL.p (by exact g_load_refN rfl rfl rfl rfl) rfl ?_
 refine AL.p (by exact mv1 rfl) rfl ?_
 refine AL.q (by exact h_pure en_iEnT rfl rfl (by repeat (first | exact rfl | exact DLead.same | refine ⟨_, _, rfl, ?_, ?_⟩ | refine ⟨_, rfl, ?_⟩)) hE rfl) rfl ?_
 refine AL.p (by exact mv5 rfl) rfl ?_
 refine AL.p (by exact g_extract (r := .d _) rfl rfl) rfl ?_
 refine AL.p (by exact g_extract (r := .d _) rfl rfl) rfl ?_
 refine AL.p (by exact as1 rfl) rfl ?_
 refine AL.p (by exact as1 rfl) rfl ?_
 refine AL.nil (th_n (AC.seq (AC.region ?_)))
 refine AL.p (by exact mv1 rfl) rfl ?_
 refine AL.p (by exact g_not rfl) rfl ?_
 refine AL.nil (th_n ?_)
 refine AC.condB rfl (fun h0 => ?_) (fun h0 => ?_)
 ·refine AC.seq (AC.region ?_)
  refine AL.p (by exact as1 rfl) rfl ?_
  refine AL.p (by exact as1 rfl) rfl ?_
  refine AL.nil (th_n (AC.ret (th_r (bq_r ?_))))
  have e : G = ([], false) := hR.trans (if_neg (by rw [show E.2 = false by simpa using h0]; simp))
  exact ret2 rfl (by rw [e]; rfl) (by rw [e])
 ·refine AC.skip (th_n (AC.seq ?_))
  have q1 : E.2 = true := by simpa using h0
  obtain ⟨hg, hxt⟩ := hin q1
  have hRe : G = (visT s run, true) := hR.trans (if_pos q1)
  have hnm := goodS_nm hg
  clear hR hin
  refine AC.region ?_
  refine AL.p (by exact as1 rfl) rfl ?_
  refine AL.nil (th_n (AC.seq (AC.seq (AC.region ?_))))
  refine AL.p (by exact mv1 rfl) rfl ?_
  refine AL.p (by exact g_len_view (k := run.length) rfl rfl (tfL_len _)) rfl ?_
  refine AL.p (by exact mv1 rfl) rfl ?_
  refine AL.nil (th_n (AC.block ?_))
  refine AC.loop (ι := Nat) (fun k => ⟨46, 200, [(2, .d (.ref (stgD s))), (8, aS (bstr (visT s (run.take k)))), (19, .d (vTfs run)), (20, aI run.length), (21, aI k)], []⟩) (fun k => k ≤ run.length) (fun k => run.length - k) (0) ?_ (Nat.zero_le _) ?_
  ·refine Weak.ren _ [] hC rfl ?_ ?_ rfl rfl rfl <;> repeat (first | exact True.intro | refine And.intro ?_ ?_ | exact DLead.same)
  ·intro k hk
   refine AC.seq (AC.region ?_)
   refine AL.p (by exact g_cmp rfl rfl rfl) rfl ?_
   refine AL.nil (th_n (AC.seq ?_))
   refine AC.condD rfl (fun h1 => ?_) (fun h1 => ?_)
   ·refine AC.skip (th_n (AC.seq (AC.block (AC.seq ?_))))
    have hk1 : k < run.length := by omega
    have hget := tfL_get hk1
    obtain ⟨hx0, hx1⟩ := hxt _ (List.getElem_mem hk1)
    have hst := visT_take (s := s) hk1
    obtain ⟨x, hx⟩ : ∃ x, x = run[k] := ⟨_, rfl⟩
    rw [← hx] at hget hx0 hx1 hst
    clear hx
    have hxI : x.t = ((x.t.toNat : Nat) : Int) := by omega
    have hlget := labsLA_get hx1
    have hsg := goodS_at hg hx1
    have hEd := edgeTextG_spec s.sigs (lAt s.labs x.t.toNat) hsg hnm
    have hll := labT_len hnm (lAt s.labs x.t.toNat)
    have hvk := visT_len hnm (run.take k)
    rw [List.length_take] at hvk
    have hW : visW s x = if 0 ≤ (lAt s.labs x.t.toNat).sig then labT s.sigs (lAt s.labs x.t.toNat) else [] := rfl
    refine AC.region ?_
    refine AL.p (by exact g_ia_view rfl rfl rfl rfl rfl (by rfl) (by assumption)) rfl ?_
    refine AL.p (by exact g_load_refN rfl rfl rfl rfl) rfl ?_
    refine AL.q (by exact h_alloc rfl) rfl ?_
    refine AL.q (by exact h_store rfl rfl rfl rfl rfl rfl) rfl ?_
    refine AL.nil (th_n (AC.seq (AC.region ?_)))
    refine AL.p (by exact g_fa_ref rfl rfl rfl rfl rfl rfl) rfl ?_
    refine AL.p (by exact g_load_ref rfl rfl rfl) rfl ?_
    refine AL.p (by exact g_fa_ptr rfl rfl rfl rfl rfl) rfl ?_
    refine AL.p (by exact g_load_ptr rfl rfl rfl rfl rfl) rfl ?_
    refine AL.p (by exact g_ia_view rfl rfl rfl rfl rfl (by assumption) (by assumption)) rfl ?_
    refine AL.p (by exact g_fa_ref rfl rfl rfl rfl rfl rfl) rfl ?_
    refine AL.p (by exact g_load_ref rfl rfl rfl) rfl ?_
    refine AL.p (by exact g_cmp rfl rfl rfl) rfl ?_
    refine AL.nil (th_n ?_)
    refine AC.condD rfl (fun h2 => ?_) (fun h2 => ?_)
    ·refine AC.drawn' mixed_ok [[], [], [1], [], [3], [], [5], [3,4,5,6], [3,4,5,6,7], [1,2,3,4,5,6,7,8], [0,1,2,3,4,5,6,7,8,9], [0,1,2,3,4,5,6,7,8,9,10]] (by decide) ?_
     refine DF.op 0 [] 12 rfl rfl rfl (.free rfl (NOp.of (by exact mv1 rfl))) rfl ?_
     refine DF.op 1 [] 12 rfl rfl rfl (.free rfl (NOp.of (by exact g_fa_ref rfl rfl rfl rfl rfl rfl))) rfl ?_
     refine DF.op 2 [1] 12 rfl rfl rfl (.free rfl (NOp.of (by exact g_load_ref rfl rfl rfl))) rfl ?_
     refine DF.op 3 [] 12 rfl rfl rfl (.free rfl (NOp.of (by exact g_fa_ref rfl rfl rfl rfl rfl rfl))) rfl ?_
     refine DF.op 4 [3] 12 rfl rfl rfl (.free rfl (NOp.of (by exact g_load_ref rfl rfl rfl))) rfl ?_
     refine DF.op 5 [] 12 rfl rfl rfl (.free rfl (NOp.of (by exact g_fa_ptr rfl rfl rfl rfl rfl))) rfl ?_
     refine DF.op 6 [5] 12 rfl rfl rfl (.free rfl (NOp.of (by exact g_load_ptr rfl rfl rfl rfl rfl))) rfl ?_
     refine DF.op 7 [3,4,5,6] 12 rfl rfl rfl (.free rfl (NOp.of (by exact g_ia_view rfl rfl rfl rfl rfl (by assumption) (by assumption)))) rfl ?_
     refine DF.op 8 [3,4,5,6,7] 12 rfl rfl rfl (.free rfl (NOp.of (by exact g_load_refN rfl rfl rfl rfl))) rfl ?_
     refine DF.op 9 [1,2,3,4,5,6,7,8] 12 rfl rfl rfl (.free rfl (by exact h_pure en_edgeText rfl rfl (by repeat (first | exact rfl | exact DLead.same | refine ⟨_, _, rfl, ?_, ?_⟩ | refine ⟨_, rfl, ?_⟩)) hEd rfl)) rfl ?_
     refine DF.op 10 (List.range 10) 12 rfl rfl rfl (.free rfl (NOp.of (by exact g_saddB (a := visT s (run.take k)) (b := labT s.sigs (lAt s.labs x.t.toNat)) rfl rfl (by omega)))) rfl ?_
     refine DF.op 11 (List.range 11) 12 rfl rfl rfl (.free rfl (NOp.of (by exact as1 rfl))) rfl ?_
     refine DF.fin (ps := [(0,1),(0,2),(0,3),(0,4),(0,5),(0,6),(0,7),(0,8),(0,9),(1,0),(1,3),(1,4),(1,5),(1,6),(1,7),(1,8),(2,0),(2,3),(2,4),(2,5),(2,6),(2,7),(2,8),(3,0),(3,1),(3,2),(3,5),(3,6),(4,0),(4,1),(4,2),(4,5),(4,6),(5,0),(5,1),(5,2),(5,3),(5,4),(6,0),(6,1),(6,2),(6,3),(6,4),(7,0),(7,1),(7,2),(8,0),(8,1),(8,2),(9,0)]) 12 rfl (by decide +kernel) (by decide +kernel) (by rfl) ?_
     refine ib_n (th_n (AC.region ?_))
     refine AL.p (by exact g_arith rfl rfl rfl (by exact wrap_i64 (by omega))) rfl ?_
     refine AL.p (by exact mv1 rfl) rfl ?_
     refine AL.nil (th_n ?_)
     (have e := hW.trans (if_pos h2); exact ⟨k + 1, by omega, by omega, Weak.ren _ [] hC rfl (by rw [hst, e]; repeat (first | exact True.intro | refine And.intro ?_ ?_ | exact DLead.same)) (by repeat (exact True.intro)) rfl rfl rfl⟩)
    ·refine AC.skip (ib_n (th_n (AC.region ?_)))
     refine AL.p (by exact g_arith rfl rfl rfl (by exact wrap_i64 (by omega))) rfl ?_
     refine AL.p (by exact mv1 rfl) rfl ?_
     refine AL.nil (th_n ?_)
     (have e := hW.trans (if_neg h2); exact ⟨k + 1, by omega, by omega, Weak.ren _ [] hC rfl (by rw [hst, e, List.append_nil (visT s (run.take k))]; repeat (first | exact True.intro | refine And.intro ?_ ?_ | exact DLead.same)) (by repeat (exact True.intro)) rfl rfl rfl⟩)
   ·refine AC.exit (th_e (th_e (ib_y (th_n (AC.seq (AC.region ?_))))))
    refine AL.p (by exact mv1 rfl) rfl ?_
    refine AL.p (by exact as1 rfl) rfl ?_
    refine AL.p (by exact as1 rfl) rfl ?_
    refine AL.nil (th_n (AC.ret (bq_r ?_)))
    have hkk : k = run.length := by omega
    exact ret2 rfl (by rw [hRe, hkk, List.take_length]) (by rw [hRe])
theorem en_iVis : Enters Tryz.prog 8 := enters_of Tryz.func8 rfl rfl
set_option maxHeartbeats 4000000 in
theorem sVis_ok (s : Stg) (run : List Tf) (hB : StgB s) (hn : run.length ≤ 100000) (hr : ∀ x, x ∈ run → -1000000 ≤ x.tm ∧ x.tm ≤ 1000000 ∧ -1000000 ≤ x.t ∧ x.t ≤ 1000000) (hok : (goodS s && timesB run) = true ∧ (firedQ s.net run (newK s)).2 = true) : ASpec Tryz.prog 9 [stgA s, .d (vTfs run)] [] (Pure1 (.tup [aS (bstr (visR s run).1), aT (visR s run).2])) := by
 have hF := l23Fired_ok s run hB hn hr hok
 have eE : (entR s run).2 = true := by unfold entR; rw [if_pos hok.1, if_pos hok.2]
 have hRe : visR s run = (visT s run, true) := if_pos eE
 obtain ⟨hg, hxt⟩ := entR_in eE
 have hnm := goodS_nm hg
 obtain ⟨G, hG⟩ : ∃ G, G = visR s run := ⟨_, rfl⟩
 rw [← hG] at hRe ⊢
 clear hG eE
 refine ASpec.of Tryz.func9 rfl rfl fun C hC => ?_
 refine AC.seq (AC.region ?_)
 refine AL.q (by exact h_boxF rfl rfl) rfl ?_
 refine AL.p (by exact as1 rfl) rfl ?_
 refine AL.p (by exact as1 rfl) rfl ?_
 refine AL.nil (th_n (AC.seq (AC.seq (AC.region ?_))))
 refine AL.p (by exact g_load_refN rfl rfl rfl rfl) rfl ?_
 refine AL.p (by exact mv1 rfl) rfl ?_
 refine AL.q (by exact h_fun (cs := []) en_l23Fired rfl rfl (by repeat (first | exact rfl | exact DLead.same | refine ⟨_, _, rfl, ?_, ?_⟩ | refine ⟨_, rfl, ?_⟩)) (by repeat (exact True.intro)) hF rfl rfl rfl rfl) rfl ?_
 refine AL.p (by exact mv5 rfl) rfl ?_
 refine AL.p (by exact g_extract (r := .ptr _ _) rfl rfl) rfl ?_
 refine AL.p (by exact g_extract (r := .d _) rfl rfl) rfl ?_
 refine AL.p (by exact as3 rfl) rfl ?_
 refine AL.p (by exact as1 rfl) rfl ?_
 refine AL.nil (th_n (AC.seq (AC.region ?_)))
 refine AL.p (by exact mv1 rfl) rfl ?_
 refine AL.p (by exact g_not rfl) rfl ?_
 refine AL.nil (th_n ?_)
 refine AC.condB rfl (fun h0 => ?_) (fun h0 => ?_)
 ·refine AC.seq ?_
  exact absurd ‹(!true) = true› (by decide)
 ·refine AC.skip (th_n (AC.seq (AC.region ?_)))
  refine AL.p (by exact as1 rfl) rfl ?_
  refine AL.nil (th_n (AC.seq (AC.seq (AC.region ?_))))
  refine AL.p (by exact mv1 rfl) rfl ?_
  refine AL.p (by exact g_len_view (k := run.length) rfl rfl (tfL_len _)) rfl ?_
  refine AL.p (by exact mv1 rfl) rfl ?_
  refine AL.nil (th_n (AC.block ?_))
  refine AC.loop (ι := Nat) (fun k => ⟨43, 200, [(2, .d (.ref (stgD s))), (8, aS (bstr (visT s (run.take k)))), (20, .d (vTfs run)), (21, aI run.length), (22, aI k)], []⟩) (fun k => k ≤ run.length) (fun k => run.length - k) (0) ?_ (Nat.zero_le _) ?_
  ·refine Weak.ren _ [] hC rfl ?_ ?_ rfl rfl rfl <;> repeat (first | exact True.intro | refine And.intro ?_ ?_ | exact DLead.same)
  ·intro k hk
   refine AC.seq (AC.region ?_)
   refine AL.p (by exact g_cmp rfl rfl rfl) rfl ?_
   refine AL.nil (th_n (AC.seq ?_))
   refine AC.condD rfl (fun h1 => ?_) (fun h1 => ?_)
   ·refine AC.skip (th_n (AC.seq (AC.block (AC.seq ?_))))
    have hk1 : k < run.length := by omega
    have hget := tfL_get hk1
    obtain ⟨hx0, hx1⟩ := hxt _ (List.getElem_mem hk1)
    have hst := visT_take (s := s) hk1
    obtain ⟨x, hx⟩ : ∃ x, x = run[k] := ⟨_, rfl⟩
    rw [← hx] at hget hx0 hx1 hst
    clear hx
    have hxI : x.t = ((x.t.toNat : Nat) : Int) := by omega
    have hlget := labsLA_get hx1
    have hsg := goodS_at hg hx1
    have hEd := fun q => l24WordG_spec s.sigs (lAt s.labs x.t.toNat) ⟨q, hsg⟩ hnm
    have hll := labT_len hnm (lAt s.labs x.t.toNat)
    have hvk := visT_len hnm (run.take k)
    rw [List.length_take] at hvk
    have hW : visW s x = if 0 ≤ (lAt s.labs x.t.toNat).sig then labT s.sigs (lAt s.labs x.t.toNat) else [] := rfl
    refine AC.region ?_
    refine AL.p (by exact g_ia_view rfl rfl rfl rfl rfl (by rfl) (by assumption)) rfl ?_
    refine AL.p (by exact g_load_refN rfl rfl rfl rfl) rfl ?_
    refine AL.q (by exact h_alloc rfl) rfl ?_
    refine AL.q (by exact h_store rfl rfl rfl rfl rfl rfl) rfl ?_
    refine AL.nil (th_n (AC.seq (AC.region ?_)))
    refine AL.p (by exact g_fa_ref rfl rfl rfl rfl rfl rfl) rfl ?_
    refine AL.p (by exact g_load_ref rfl rfl rfl) rfl ?_
    refine AL.p (by exact g_fa_ptr rfl rfl rfl rfl rfl) rfl ?_
    refine AL.p (by exact g_load_ptr rfl rfl rfl rfl rfl) rfl ?_
    refine AL.p (by exact g_ia_view rfl rfl rfl rfl rfl (by assumption) (by assumption)) rfl ?_
    refine AL.p (by exact g_load_refN rfl rfl rfl rfl) rfl ?_
    refine AL.q (by exact h_alloc rfl) rfl ?_
    refine AL.q (by exact h_store rfl rfl rfl rfl rfl rfl) rfl ?_
    refine AL.nil (th_n (AC.seq (AC.region ?_)))
    refine AL.p (by exact g_fa_ptr rfl rfl rfl rfl rfl) rfl ?_
    refine AL.p (by exact g_load_ptr rfl rfl rfl rfl rfl) rfl ?_
    refine AL.p (by exact g_cmp rfl rfl rfl) rfl ?_
    refine AL.nil (th_n ?_)
    refine AC.condD rfl (fun h2 => ?_) (fun h2 => ?_)
    ·have hEd2 := hEd ‹0 ≤ (lAt s.labs x.t.toNat).sig›
     refine AC.region ?_
     refine AL.p (by exact mv1 rfl) rfl ?_
     refine AL.p (by exact g_fa_ref rfl rfl rfl rfl rfl rfl) rfl ?_
     refine AL.p (by exact g_load_ref rfl rfl rfl) rfl ?_
     refine AL.p (by exact g_load_ptrN rfl rfl rfl rfl rfl) rfl ?_
     refine AL.q (by exact h_pure en_l24Word rfl rfl (by repeat (first | exact rfl | exact DLead.same | refine ⟨_, _, rfl, ?_, ?_⟩ | refine ⟨_, rfl, ?_⟩)) hEd2 rfl) rfl ?_
     refine AL.p (by exact g_saddB (a := visT s (run.take k)) (b := labT s.sigs (lAt s.labs x.t.toNat)) rfl rfl (by omega)) rfl ?_
     refine AL.p (by exact as1 rfl) rfl ?_
     refine AL.nil (ib_n (th_n (AC.region ?_)))
     refine AL.p (by exact g_arith rfl rfl rfl (by exact wrap_i64 (by omega))) rfl ?_
     refine AL.p (by exact mv1 rfl) rfl ?_
     refine AL.nil (th_n ?_)
     (have e := hW.trans (if_pos ‹0 ≤ (lAt s.labs x.t.toNat).sig›); exact ⟨k + 1, by omega, by omega, Weak.ren _ [] hC rfl (by rw [hst, e]; repeat (first | exact True.intro | refine And.intro ?_ ?_ | exact DLead.same)) (by repeat (exact True.intro)) rfl rfl rfl⟩)
    ·refine AC.skip (ib_n (th_n (AC.region ?_)))
     refine AL.p (by exact g_arith rfl rfl rfl (by exact wrap_i64 (by omega))) rfl ?_
     refine AL.p (by exact mv1 rfl) rfl ?_
     refine AL.nil (th_n ?_)
     (have e := hW.trans (if_neg ‹¬ 0 ≤ (lAt s.labs x.t.toNat).sig›); exact ⟨k + 1, by omega, by omega, Weak.ren _ [] hC rfl (by rw [hst, e, List.append_nil (visT s (run.take k))]; repeat (first | exact True.intro | refine And.intro ?_ ?_ | exact DLead.same)) (by repeat (exact True.intro)) rfl rfl rfl⟩)
   ·refine AC.exit (th_e (th_e (ib_y (th_n (AC.seq (AC.region ?_))))))
    refine AL.p (by exact mv1 rfl) rfl ?_
    refine AL.p (by exact as1 rfl) rfl ?_
    refine AL.p (by exact as1 rfl) rfl ?_
    refine AL.nil (th_n (AC.ret (bq_r ?_)))
    have hkk : k = run.length := by omega
    exact ret2 rfl (by rw [hRe, hkk, List.take_length]) (by rw [hRe])
theorem en_sVis : Enters Tryz.prog 9 := enters_of Tryz.func9 rfl rfl
set_option maxHeartbeats 4000000 in
theorem sVis_no (s : Stg) (run : List Tf) (hB : StgB s) (hn : run.length ≤ 100000) (hr : ∀ x, x ∈ run → -1000000 ≤ x.tm ∧ x.tm ≤ 1000000 ∧ -1000000 ≤ x.t ∧ x.t ≤ 1000000) (hok : ¬ ((goodS s && timesB run) = true ∧ (firedQ s.net run (newK s)).2 = true)) : ASpec Tryz.prog 9 [stgA s, .d (vTfs run)] [] (Pure1 (.tup [aS (bstr (visR s run).1), aT (visR s run).2])) := by
 have hF := l23Fired_no s run hB hn hr hok
 have eE : entR s run = ([], false) := by unfold entR; by_cases h : (goodS s && timesB run) = true; (rw [if_pos h, if_neg (fun q => hok ⟨h, q⟩)]); (rw [if_neg h])
 have e : visR s run = ([], false) := if_neg (by rw [eE]; simp)
 refine ASpec.of Tryz.func9 rfl rfl fun C hC => ?_
 refine AC.seq (AC.region ?_)
 refine AL.q (by exact h_boxF rfl rfl) rfl ?_
 refine AL.p (by exact as1 rfl) rfl ?_
 refine AL.p (by exact as1 rfl) rfl ?_
 refine AL.nil (th_n (AC.seq (AC.seq (AC.region ?_))))
 refine AL.p (by exact g_load_refN rfl rfl rfl rfl) rfl ?_
 refine AL.p (by exact mv1 rfl) rfl ?_
 refine AL.q (by exact h_pure en_l23Fired rfl rfl (by repeat (first | exact rfl | exact DLead.same | refine ⟨_, _, rfl, ?_, ?_⟩ | refine ⟨_, rfl, ?_⟩)) hF rfl) rfl ?_
 refine AL.p (by exact mv5 rfl) rfl ?_
 refine AL.p (by exact g_extract (r := .dead) rfl rfl) rfl ?_
 refine AL.p (by exact g_extract (r := .d _) rfl rfl) rfl ?_
 refine AL.p (by exact as9 rfl) rfl ?_
 refine AL.p (by exact as1 rfl) rfl ?_
 refine AL.nil (th_n (AC.seq (AC.region ?_)))
 refine AL.p (by exact mv1 rfl) rfl ?_
 refine AL.p (by exact g_not rfl) rfl ?_
 refine AL.nil (th_n ?_)
 refine AC.condB rfl (fun h0 => ?_) (fun h0 => ?_)
 ·refine AC.seq (AC.region ?_)
  refine AL.p (by exact as1 rfl) rfl ?_
  refine AL.p (by exact as1 rfl) rfl ?_
  refine AL.nil (th_n (AC.ret (th_r (bq_r ?_))))
  exact ret2 rfl (by rw [e]; rfl) (by rw [e])
 ·refine AC.skip (th_n (AC.seq ?_))
  exact absurd ‹(!false) = false› (by decide)
theorem sVis_spec (s : Stg) (run : List Tf) (hB : StgB s) (hn : run.length ≤ 100000) (hr : ∀ x, x ∈ run → -1000000 ≤ x.tm ∧ x.tm ≤ 1000000 ∧ -1000000 ≤ x.t ∧ x.t ≤ 1000000) : ASpec Tryz.prog 9 [stgA s, .d (vTfs run)] [] (Pure1 (.tup [aS (bstr (visR s run).1), aT (visR s run).2])) := by
 by_cases hok : (goodS s && timesB run) = true ∧ (firedQ s.net run (newK s)).2 = true
 ·exact sVis_ok s run hB hn hr hok
 ·exact sVis_no s run hB hn hr hok
end Go.Proofs.YtmacodlgmebikaaGreatDoor
