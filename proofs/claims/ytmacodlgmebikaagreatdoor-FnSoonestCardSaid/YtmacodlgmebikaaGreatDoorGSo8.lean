/- Contracts of the functions of the program and of the reference, each proved by a walk through its code. -/
import Derived.Lib.SliceRun
import Derived.Laws.RangeString
import Derived.Lib.LaidTab
import Derived.ChangeSame
import Derived.ChangeVars
import Derived.JoinedOf
import Derived.RowKit
import Derived.RowKitTokens
import Derived.LaidLaws
import Derived.LaidHandle
import Derived.Stop.Joined
import Derived.MakeChecks
import Derived.SevenTiedAt
import Derived.Stop.LaidErr
import Derived.WalkKit
import Derived.WalkSpells
import Derived.WalkLawsBesides
import Derived.Deep.Draws
import Derived.Lib.Hide
import Derived.Maps.AppendAt
import Derived.OwnWalk
import Derived.Deep.MidRow
import Derived.Laws.ResultCell
import Derived.Deep.Upon
import Derived.Great.FillDense
import Derived.Laws.Tables
import Derived.Laws.BytesArg
import Derived.Laws.MakeOwn
import Derived.Great.BuildSlice
import Derived.ArgAppend
import Derived.Deep.AppendSrc
import Derived.Test.YtmacodlgmebikaaGreatDoorProg
import Derived.KernelRfl
import Derived.Orders
import Derived.Laws.IdiomStrings
import Derived.Lib.AppendZerosOnto
import Derived.ProofKit
import Derived.OpenShut
import Derived.Laws.StructEq
import Derived.ChangeKeysEq
import Derived.Laws.IdiomCopy
import Derived.Shelf.Strings.Builder1
import Derived.Shelf.Strings.Builder2
import Derived.Shelf.Strings.OnBuilder
import Derived.Shelf.Strconv.Itoa0
import Derived.Shelf.Strconv.Itoa1
import Derived.Shelf.LaysM
import Derived.Shelf.Strconv.Itoa2
import Derived.Shelf.Strconv.Itoa3
import Derived.Shelf.Bits.Mul64
import Derived.Test.YtmacodlgmebikaaGreatDoorRows
import Derived.Sort.Grow
import Derived.Below
import Derived.Laws.Small
import Derived.Test.YtmacodlgmebikaaGreatDoorGSo7
set_option linter.all false
set_option maxRecDepth 20000
namespace Go.Proofs.YtmacodlgmebikaaGreatDoor
open Go.RowKit
def runQ (N : Net) (l : List Dl) : List Int → Ck → List Tf → List Tf × Ck
 | [], c, acc => (acc, c)
 | d :: ds, c, acc => if (stepQ N c l d).2.2 = true then runQ N l ds (stepQ N c l d).2.1 (acc ++ [(stepQ N c l d).1]) else (acc, (stepQ N c l d).2.1)
theorem runQ_len (N : Net) (l : List Dl) : ∀ (ds : List Int) (c : Ck) (acc : List Tf), (runQ N l ds c acc).1.length ≤ acc.length + ds.length
 | [], c, acc => Nat.le_refl _
 | d :: ds, c, acc => by
  rw [runQ]
  split
  ·have := runQ_len N l ds (stepQ N c l d).2.1 (acc ++ [(stepQ N c l d).1])
   rw [List.length_append] at this
   simp only [List.length_cons, List.length_nil] at this ⊢
   omega
  ·dsimp only; omega
def drawsB (ds : List Int) : Bool := ds.all fun d => decide (0 ≤ d) && decide (d ≤ 999)
theorem drawsB_in {ds : List Int} (h : drawsB ds = true) : ∀ d, d ∈ ds → 0 ≤ d ∧ d ≤ 999 := fun d hd => by
 have := List.all_eq_true.1 h d hd
 simpa using this
def simOk (s : Stg) (l : List Dl) (ds : List Int) : Bool := validD s l && (!decide ((ds.length : Int) > 60) && drawsB ds)
def simR (s : Stg) (l : List Dl) (ds : List Int) : List Tf × List UInt8 × Bool :=
 if simOk s l ds = true then ((runQ s.net l ds (newK s) []).1, (runQ s.net l ds (newK s) []).2.mark, true) else ([], [], false)
set_option maxHeartbeats 1000000 in
theorem l1All_spec (ds : List Int) (lo hi : Int) (hl : ds.length ≤ 2000000) : ASpec Tryz.prog 97 [.d (vI ds), aI lo, aI hi] [] (Pure1 (aT (ds.all fun d => decide (lo ≤ d) && decide (d ≤ hi)))) := by
 refine ASpec.of Tryz.func97 rfl rfl fun C hC => ?_
 refine AC.seq (AC.region ?_)
 refine AL.p (by exact as1 rfl) rfl ?_
 refine AL.nil (th_n (AC.seq (AC.seq (AC.region ?_))))
 refine AL.p (by exact mv1 rfl) rfl ?_
 refine AL.p (by exact g_len_view rfl rfl (by exact List.length_map _)) rfl ?_
 refine AL.p (by exact mv1 rfl) rfl ?_
 refine AL.nil (th_n (AC.block ?_))
 refine AC.loop (ι := Nat) (fun k => ⟨21, 100, [(1, aI lo), (2, aI hi), (9, .d (vI ds)), (10, aI ds.length), (11, aI k)], []⟩) (fun k => k ≤ ds.length ∧ ∀ j (hj : j < ds.length), j < k → (decide (lo ≤ ds[j]) && decide (ds[j] ≤ hi)) = true) (fun k => ds.length - k) (0) ?_ (⟨Nat.zero_le _, fun j _ hj => by omega⟩) ?_
 ·refine Weak.ren _ [] hC rfl ?_ ?_ rfl rfl rfl <;> repeat (first | exact True.intro | refine And.intro ?_ ?_ | exact DLead.same)
 ·intro k ⟨hk, hall⟩
  refine AC.seq (AC.region ?_)
  refine AL.p (by exact g_cmp rfl rfl rfl) rfl ?_
  refine AL.nil (th_n (AC.seq ?_))
  refine AC.condD rfl (fun h0 => ?_) (fun h0 => ?_)
  ·refine AC.skip (th_n (AC.seq (AC.block (AC.seq ?_))))
   have hk1 : k < ds.length := by omega
   have hget := ints_at hk1
   have hL := l1In_spec ds[k] lo hi
   obtain ⟨b, hb⟩ : ∃ b, b = (decide (lo ≤ ds[k]) && decide (ds[k] ≤ hi)) := ⟨_, rfl⟩
   rw [← hb] at hL
   refine AC.region ?_
   refine AL.p (by exact g_ia_view rfl rfl rfl rfl rfl (by rfl) (by assumption)) rfl ?_
   refine AL.p (by exact g_load_ref rfl rfl rfl) rfl ?_
   refine AL.p (by exact as1 rfl) rfl ?_
   refine AL.nil (th_n (AC.seq (AC.region ?_)))
   refine AL.p (by exact mv1 rfl) rfl ?_
   refine AL.p (by exact mv1 rfl) rfl ?_
   refine AL.p (by exact mv1 rfl) rfl ?_
   refine AL.q (by exact h_pure en_l1In rfl rfl (by repeat (first | exact rfl | exact DLead.same | refine ⟨_, _, rfl, ?_, ?_⟩)) hL rfl) rfl ?_
   refine AL.p (by exact g_not rfl) rfl ?_
   refine AL.nil (th_n ?_)
   refine AC.condB rfl (fun h1 => ?_) (fun h1 => ?_)
   ·refine AC.seq (AC.region ?_)
    refine AL.p (by exact as1 rfl) rfl ?_
    refine AL.nil (th_n (AC.ret (ib_r (th_r (th_r (ib_r (th_r (bq_r ?_))))))))
    exact ret1 rfl (by rw [List.all_eq_false.2 ⟨_, List.getElem_mem hk1, by rw [← hb, show b = false by simpa using h1]; simp⟩])
   ·refine AC.skip (ib_n (th_n (AC.region ?_)))
    refine AL.p (by exact g_arith rfl rfl rfl (by exact wrap_i64 (by omega))) rfl ?_
    refine AL.p (by exact mv1 rfl) rfl ?_
    refine AL.nil (th_n ?_)
    exact ⟨k + 1, ⟨by omega, fun j hj hj2 => by rcases Nat.lt_succ_iff_lt_or_eq.1 hj2 with h | rfl; exact hall j hj h; exact hb.symm.trans (by simpa using h1)⟩, by omega, Weak.ren _ [] hC rfl (by repeat (first | exact True.intro | refine And.intro ?_ ?_ | exact DLead.same)) (by repeat (exact True.intro)) rfl rfl rfl⟩
  ·refine AC.exit (th_e (th_e (ib_y (th_n (AC.seq (AC.region ?_))))))
   refine AL.p (by exact as1 rfl) rfl ?_
   refine AL.nil (th_n (AC.ret (bq_r ?_)))
   exact ret1 rfl (by rw [List.all_eq_true.2 (fun x hx => by obtain ⟨j, hj, rfl⟩ := List.getElem_of_mem hx; exact hall j hj (by omega))])
theorem en_l1All : Enters Tryz.prog 97 := enters_of Tryz.func97 rfl rfl
set_option maxHeartbeats 8000000 in
theorem l23Run_spec (s : Stg) (l : List Dl) (ds : List Int) (hB : StgB s) (hv : validD s l = true) (hl : ds.length ≤ 60) (hds : ∀ d, d ∈ ds → 0 ≤ d ∧ d ≤ 999) : ASpec Tryz.prog 23 [stgA s, .d (vDls l), .d (vI ds)] [] (Fun1 (.tup [.own 0 (runQ s.net l ds (newK s) []).1.length, aS (bstr (runQ s.net l ds (newK s) []).2.mark)]) [(0, .arr 46 2 (tfL (runQ s.net l ds (newK s) []).1))]) := by
 obtain ⟨hg, hd⟩ := Dok.of hv
 have hgn := (goodS_bits hg).1
 have hK := newK_I hg
 have hN := l23New_spec s hB hg
 obtain ⟨Z, hZ⟩ : ∃ Z, Z = runQ s.net l ds (newK s) [] := ⟨_, rfl⟩
 rw [← hZ]
 obtain ⟨K, hKK⟩ : ∃ K, K = newK s := ⟨_, rfl⟩
 rw [← hKK] at hK hN hZ
 clear hKK
 refine ASpec.of Tryz.func23 rfl rfl fun C hC => ?_
 refine AC.seq (AC.region ?_)
 refine AL.q (by exact h_boxF rfl rfl) rfl ?_
 refine AL.p (by exact as1 rfl) rfl ?_
 refine AL.p (by exact as1 rfl) rfl ?_
 refine AL.nil (th_n (AC.seq (AC.region ?_)))
 refine AL.p (by exact g_load_refN rfl rfl rfl rfl) rfl ?_
 refine AL.q (by exact h_fun (cs := []) en_l23New rfl rfl (by repeat (first | exact rfl | exact DLead.same | refine ⟨_, _, rfl, ?_, ?_⟩ | refine ⟨_, rfl, ?_⟩)) (by repeat (exact True.intro)) hN rfl rfl rfl rfl) rfl ?_
 refine AL.p (by exact as3 rfl) rfl ?_
 refine AL.nil (th_n (AC.seq (AC.region ?_)))
 refine AL.p (by exact as1 rfl) rfl ?_
 refine AL.nil (th_n (AC.seq (AC.seq (AC.region ?_))))
 refine AL.p (by exact mv1 rfl) rfl ?_
 refine AL.p (by exact g_len_view rfl rfl (by exact List.length_map _)) rfl ?_
 refine AL.p (by exact mv1 rfl) rfl ?_
 refine AL.nil (th_n (AC.block ?_))
 refine AC.loop (ι := Nat × Ck × List Tf) (fun x => ⟨41, 900, [(1, .d (vDls l)), (8, .ptr 100 0), (9, .own 102 x.2.2.length), (16, .d (vI ds)), (17, aI ds.length), (18, aI x.1)], chL (lkChs s.net x.2.1 100 101) ++ [(102, some (.arr 46 2 (tfL x.2.2)))]⟩) (fun x => x.1 ≤ ds.length ∧ CkI s.net x.2.1 (100 * x.1) ∧ x.2.2.length ≤ x.1 ∧ runQ s.net l (ds.drop x.1) x.2.1 x.2.2 = Z) (fun x => ds.length - x.1) ((0, K, [])) ?_ (⟨Nat.zero_le _, hK, Nat.le_refl _, hZ.symm⟩) ?_
 ·exact (Weak.nilOwn (i := 9) (e := 46) (sz := 2) rfl (by decide)).trans (Weak.ren _ [(100, _), (101, _), (102, _)] hC rfl (by repeat (first | exact True.intro | refine And.intro ?_ ?_ | exact DLead.same | exact rfl | refine ⟨_, rfl, ?_⟩)) (by repeat (first | exact True.intro | refine And.intro ?_ ?_ | exact DLead.same | exact rfl | refine ⟨_, _, rfl, rfl, ?_⟩ | refine ⟨_, rfl, ?_⟩ | refine ⟨_, _, rfl, ?_, ?_⟩)) rfl rfl rfl)
 ·rintro ⟨k, c, acc⟩ ⟨hk, hI, hal, hrun⟩
  dsimp only at hk hI hal hrun ⊢
  refine AC.seq (AC.region ?_)
  refine AL.p (by exact g_cmp rfl rfl rfl) rfl ?_
  refine AL.nil (th_n (AC.seq ?_))
  refine AC.condD rfl (fun h0 => ?_) (fun h0 => ?_)
  ·refine AC.skip (th_n (AC.seq (AC.block (AC.seq ?_))))
   have hk1 : k < ds.length := by omega
   have hget := ints_at hk1
   have hdr := hds _ (List.getElem_mem hk1)
   have hSt := lkStep_spec s.net c l ds[k] (100 * k) hB.n hgn hI hd (by omega) hdr
   have hI2 := stepQ_I hI hd (by omega) hdr
   have hdrop : ds.drop k = ds[k] :: ds.drop (k + 1) := List.drop_eq_getElem_cons hk1
   rw [hdrop, runQ] at hrun
   obtain ⟨S, hS⟩ : ∃ S, S = stepQ s.net c l ds[k] := ⟨_, rfl⟩
   rw [← hS] at hSt hI2 hrun
   refine AC.region ?_
   refine AL.p (by exact g_ia_view rfl rfl rfl rfl rfl (by rfl) (by assumption)) rfl ?_
   refine AL.p (by exact g_load_ref rfl rfl rfl) rfl ?_
   refine AL.p (by exact as1 rfl) rfl ?_
   refine AL.nil (th_n (AC.seq (AC.region ?_)))
   refine AL.p (by exact mv3 rfl) rfl ?_
   refine AL.p (by exact mv1 rfl) rfl ?_
   refine AL.p (by exact mv1 rfl) rfl ?_
   refine AL.q (by exact h_fun (cs := [100, 101]) en_lkStep rfl rfl (by repeat (first | exact rfl | exact DLead.same | refine ⟨_, _, rfl, ?_, ?_⟩ | refine ⟨_, rfl, ?_⟩)) (by repeat (first | exact True.intro | refine And.intro ?_ ?_ | exact DLead.same | exact rfl | refine ⟨_, _, rfl, rfl, ?_⟩ | refine ⟨_, rfl, ?_⟩ | refine ⟨_, _, rfl, ?_, ?_⟩)) hSt rfl rfl rfl rfl) rfl ?_
   refine AL.p (by exact mv5 rfl) rfl ?_
   refine AL.p (by exact g_extract (r := .agg _) rfl rfl) rfl ?_
   refine AL.p (by exact g_extract (r := .d _) rfl rfl) rfl ?_
   refine AL.q (by exact h_alloc rfl) rfl ?_
   refine AL.q (by exact h_store rfl rfl rfl rfl rfl rfl) rfl ?_
   refine AL.p (by exact as1 rfl) rfl ?_
   refine AL.nil (th_n (AC.seq (AC.seq (AC.region ?_))))
   refine AL.p (by exact mv1 rfl) rfl ?_
   refine AL.p (by exact g_not rfl) rfl ?_
   refine AL.nil (th_n ?_)
   refine AC.condB rfl (fun h1 => ?_) (fun h1 => ?_)
   ·refine AC.exit (th_e ?_)
    refine ib_no rfl ?_
    refine th_e (th_e (ib_y (th_n (AC.seq ?_))))
    refine AC.drawn' mixed_ok [[], [], [1], [1,2], [1,2,3], [0], [0,1,2,3,4,5]] (by decide) ?_
    refine DF.op 0 [] 7 rfl rfl rfl (.free rfl (NOp.of (by exact mv2 rfl))) rfl ?_
    refine DF.op 1 [] 7 rfl rfl rfl (.free rfl (NOp.of (by exact mv3 rfl))) rfl ?_
    refine DF.op 2 [1] 7 rfl rfl rfl (.free rfl (NOp.of (by exact g_nilP rfl))) rfl ?_
    refine DF.op 3 [1,2] 7 rfl rfl rfl (.free rfl (NOp.of (by exact g_fa_ptr rfl rfl rfl rfl rfl))) rfl ?_
    refine DF.op 4 [1,2,3] 7 rfl rfl rfl (.free rfl (NOp.of (by exact g_load_ptr rfl rfl rfl rfl rfl))) rfl ?_
    refine DF.op 5 [0] 7 rfl rfl rfl (.free rfl (NOp.of (by exact as2 rfl))) rfl ?_
    refine DF.op 6 [0,1,2,3,4,5] 7 rfl rfl rfl (.free rfl (NOp.of (by exact as1 rfl))) rfl ?_
    refine DF.fin (ps := [(0,1),(0,2),(0,3),(0,4),(1,0),(1,5),(2,0),(2,5),(3,0),(3,5),(4,0),(4,5),(5,1),(5,2),(5,3),(5,4)]) 7 rfl (by decide +kernel) (by decide +kernel) (by rfl) ?_
    refine th_n (AC.ret (bq_r ?_))
    (have q1 : S.2.2 = false := (by simpa using h1); rw [if_neg (by rw [q1]; simp)] at hrun; rw [← hrun]; exact retN [(0, 102)] rfl (by repeat (first | exact rfl | exact DLead.same | refine ⟨_, _, rfl, ?_, ?_⟩ | refine ⟨_, rfl, ?_⟩)) (by repeat (first | exact True.intro | refine And.intro ?_ ?_ | exact rfl | refine ⟨_, _, rfl, rfl, ?_⟩)) rfl rfl)
   ·refine AC.skip (th_n (AC.region ?_))
    refine AL.p (by exact mv2 rfl) rfl ?_
    refine AL.p (by exact g_load_ptrN rfl rfl rfl rfl rfl) rfl ?_
    refine AL.q (by exact h_litF rfl rfl rfl rfl rfl rfl rfl rfl) rfl ?_
    refine AL.q (by exact h_appendF acc [S.1] (.own rfl rfl (tfL_len _).symm) (.view rfl) (by rw [List.length_append]; simp only [List.length_cons, List.length_nil]; omega) (by simp)) rfl ?_
    refine AL.p (by exact as2 rfl) rfl ?_
    refine AL.nil (ib_n (th_n (AC.region ?_)))
    refine AL.p (by exact g_arith rfl rfl rfl (by exact wrap_i64 (by omega))) rfl ?_
    refine AL.p (by exact mv1 rfl) rfl ?_
    refine AL.nil (th_n ?_)
    have q1 : S.2.2 = true := by simpa using h1
    rw [if_pos q1] at hrun
    exact ⟨(k + 1, S.2.1, acc ++ [S.1]), ⟨by omega, hI2.mono (by omega), by rw [List.length_append]; simp only [List.length_cons, List.length_nil]; omega, hrun⟩, by dsimp only; omega, Weak.ren _ [(100, 100), (101, 101), (102, _)] hC rfl (by repeat (first | exact True.intro | refine And.intro ?_ ?_ | exact DLead.same | exact rfl | refine ⟨_, rfl, ?_⟩)) (by repeat (first | exact True.intro | refine And.intro ?_ ?_ | exact DLead.same | exact rfl | refine ⟨_, _, rfl, rfl, ?_⟩ | refine ⟨_, rfl, ?_⟩ | refine ⟨_, _, rfl, ?_, ?_⟩)) rfl rfl rfl⟩
  ·refine AC.exit (th_e (th_e (ib_y (th_n (AC.seq ?_)))))
   refine AC.drawn' mixed_ok [[], [], [1], [1,2], [1,2,3], [0], [0,1,2,3,4,5]] (by decide) ?_
   refine DF.op 0 [] 7 rfl rfl rfl (.free rfl (NOp.of (by exact mv2 rfl))) rfl ?_
   refine DF.op 1 [] 7 rfl rfl rfl (.free rfl (NOp.of (by exact mv3 rfl))) rfl ?_
   refine DF.op 2 [1] 7 rfl rfl rfl (.free rfl (NOp.of (by exact g_nilP rfl))) rfl ?_
   refine DF.op 3 [1,2] 7 rfl rfl rfl (.free rfl (NOp.of (by exact g_fa_ptr rfl rfl rfl rfl rfl))) rfl ?_
   refine DF.op 4 [1,2,3] 7 rfl rfl rfl (.free rfl (NOp.of (by exact g_load_ptr rfl rfl rfl rfl rfl))) rfl ?_
   refine DF.op 5 [0] 7 rfl rfl rfl (.free rfl (NOp.of (by exact as2 rfl))) rfl ?_
   refine DF.op 6 [0,1,2,3,4,5] 7 rfl rfl rfl (.free rfl (NOp.of (by exact as1 rfl))) rfl ?_
   refine DF.fin (ps := [(0,1),(0,2),(0,3),(0,4),(1,0),(1,5),(2,0),(2,5),(3,0),(3,5),(4,0),(4,5),(5,1),(5,2),(5,3),(5,4)]) 7 rfl (by decide +kernel) (by decide +kernel) (by rfl) ?_
   refine th_n (AC.ret (bq_r ?_))
   (have e : k = ds.length := (by omega); rw [e, List.drop_length, runQ] at hrun; rw [← hrun]; exact retN [(0, 102)] rfl (by repeat (first | exact rfl | exact DLead.same | refine ⟨_, _, rfl, ?_, ?_⟩ | refine ⟨_, rfl, ?_⟩)) (by repeat (first | exact True.intro | refine And.intro ?_ ?_ | exact rfl | refine ⟨_, _, rfl, rfl, ?_⟩)) rfl rfl)
theorem en_l23Run : Enters Tryz.prog 23 := enters_of Tryz.func23 rfl rfl
set_option maxHeartbeats 8000000 in
theorem sSim_spec (s : Stg) (l : List Dl) (ds : List Int) (hB : StgB s) (hl : DlB l) (hd : ds.length ≤ 100000) : ASpec Tryz.prog 75 [stgA s, .d (vDls l), .d (vI ds)] [] (Fun1 (.tup [.own 0 (simR s l ds).1.length, aS (bstr (simR s l ds).2.1), aT (simR s l ds).2.2]) [(0, .arr 46 2 (tfL (simR s l ds).1))]) := by
 have hV := l23Good_spec s l hB hl
 have hA := l1All_spec ds 0 999 (by omega)
 have hR : simR s l ds = if simOk s l ds = true then ((runQ s.net l ds (newK s) []).1, (runQ s.net l ds (newK s) []).2.mark, true) else ([], [], false) := rfl
 have hO : simOk s l ds = (validD s l && (!decide ((ds.length : Int) > 60) && drawsB ds)) := rfl
 have hRun : validD s l = true → ds.length ≤ 60 → drawsB ds = true → _ := fun h1 h2 h3 => l23Run_spec s l ds hB h1 h2 (drawsB_in h3)
 rw [show (ds.all fun d => decide (0 ≤ d) && decide (d ≤ 999)) = drawsB ds from rfl] at hA
 obtain ⟨b1, hb1⟩ : ∃ b, b = validD s l := ⟨_, rfl⟩
 obtain ⟨b2, hb2⟩ : ∃ b, b = drawsB ds := ⟨_, rfl⟩
 rw [← hb1] at hV hO hRun
 rw [← hb2] at hA hO hRun
 rw [hO] at hR
 obtain ⟨Z, hZ⟩ : ∃ Z, Z = runQ s.net l ds (newK s) [] := ⟨_, rfl⟩
 rw [← hZ] at hR hRun
 obtain ⟨R, hRR⟩ : ∃ R, R = simR s l ds := ⟨_, rfl⟩
 rw [← hRR] at hR ⊢
 clear hb1 hb2 hZ hRR hO
 refine ASpec.of Tryz.func75 rfl rfl fun C hC => ?_
 refine AC.seq (AC.region ?_)
 refine AL.q (by exact h_boxF rfl rfl) rfl ?_
 refine AL.p (by exact as1 rfl) rfl ?_
 refine AL.p (by exact as1 rfl) rfl ?_
 refine AL.p (by exact as1 rfl) rfl ?_
 refine AL.nil (th_n (AC.seq (AC.seq (AC.region ?_))))
 refine AL.p (by exact g_load_refN rfl rfl rfl rfl) rfl ?_
 refine AL.p (by exact mv1 rfl) rfl ?_
 refine AL.q (by exact h_pure en_l23Good rfl rfl (by repeat (first | exact rfl | exact DLead.same | refine ⟨_, _, rfl, ?_, ?_⟩ | refine ⟨_, rfl, ?_⟩)) hV rfl) rfl ?_
 refine AL.p (by exact g_not rfl) rfl ?_
 refine AL.p (by exact mv1 rfl) rfl ?_
 refine AL.caseGB rfl rfl (fun h0 => ?_) (fun h0 => ?_)
 ·refine AL.not rfl rfl rfl rfl rfl ?_
  refine AL.not rfl rfl rfl rfl rfl ?_
  refine AL.not rfl rfl rfl rfl rfl ?_
  refine AL.p (by exact g_pickT (r := .d _) rfl rfl) rfl ?_
  refine AL.p (by exact mv1 rfl) rfl ?_
  refine AL.not rfl rfl rfl rfl rfl ?_
  refine AL.not rfl rfl rfl rfl rfl ?_
  refine AL.not rfl rfl rfl rfl rfl ?_
  refine AL.p (by exact g_pickT (r := .d _) rfl rfl) rfl ?_
  refine AL.nil (th_n ?_)
  refine AC.condT rfl ?_
  refine AC.seq (AC.region ?_)
  refine AL.p (by exact as1 rfl) rfl ?_
  refine AL.p (by exact as1 rfl) rfl ?_
  refine AL.p (by exact as1 rfl) rfl ?_
  refine AL.nil (th_n ?_)
  refine AC.weak (Weak.nilOwn (i := 6) (e := 46) (sz := 2) rfl (by decide)) ?_
  refine AC.ret (th_r (bq_r ?_))
  have e : R = ([], [], false) := by rw [hR]; refine if_neg ?_; simp only [Bool.and_eq_true, Bool.not_eq_true', decide_eq_false_iff_not]; simp_all
  exact retN [(0, _)] rfl (by rw [e]; repeat (first | exact rfl | exact DLead.same | refine ⟨_, _, rfl, ?_, ?_⟩ | refine ⟨_, rfl, ?_⟩)) (by rw [e]; repeat (first | exact True.intro | refine And.intro ?_ ?_ | exact rfl | refine ⟨_, _, rfl, rfl, ?_⟩)) rfl rfl
 ·refine AL.yes rfl rfl rfl ?_
  refine AL.p (by exact mv1 rfl) rfl ?_
  refine AL.yes rfl rfl rfl ?_
  refine AL.p (by exact g_len_view (k := ds.length) rfl rfl (ints_len _)) rfl ?_
  refine AL.yes rfl rfl rfl ?_
  refine AL.p (by exact g_cmp rfl rfl rfl) rfl ?_
  refine AL.p (by exact g_pickF (r := .d _) rfl rfl) rfl ?_
  refine AL.p (by exact mv1 rfl) rfl ?_
  refine AL.caseG rfl rfl (fun h1 => ?_) (fun h1 => ?_)
  ·refine AL.not rfl rfl rfl rfl rfl ?_
   refine AL.not rfl rfl rfl rfl rfl ?_
   refine AL.not rfl rfl rfl rfl rfl ?_
   refine AL.p (by exact g_pickT (r := .d _) rfl rfl) rfl ?_
   refine AL.nil (th_n ?_)
   refine AC.condT rfl ?_
   refine AC.seq (AC.region ?_)
   refine AL.p (by exact as1 rfl) rfl ?_
   refine AL.p (by exact as1 rfl) rfl ?_
   refine AL.p (by exact as1 rfl) rfl ?_
   refine AL.nil (th_n ?_)
   refine AC.weak (Weak.nilOwn (i := 6) (e := 46) (sz := 2) rfl (by decide)) ?_
   refine AC.ret (th_r (bq_r ?_))
   have e : R = ([], [], false) := by rw [hR]; refine if_neg ?_; simp only [Bool.and_eq_true, Bool.not_eq_true', decide_eq_false_iff_not]; simp_all
   exact retN [(0, _)] rfl (by rw [e]; repeat (first | exact rfl | exact DLead.same | refine ⟨_, _, rfl, ?_, ?_⟩ | refine ⟨_, rfl, ?_⟩)) (by rw [e]; repeat (first | exact True.intro | refine And.intro ?_ ?_ | exact rfl | refine ⟨_, _, rfl, rfl, ?_⟩)) rfl rfl
  ·refine AL.yes rfl rfl rfl ?_
   refine AL.p (by exact mv1 rfl) rfl ?_
   refine AL.yes rfl rfl rfl ?_
   refine AL.q (by exact h_pure en_l1All rfl rfl (by repeat (first | exact rfl | exact DLead.same | refine ⟨_, _, rfl, ?_, ?_⟩)) hA rfl) rfl ?_
   refine AL.yes rfl rfl rfl ?_
   refine AL.p (by exact g_not rfl) rfl ?_
   refine AL.p (by exact g_pickF (r := .d _) rfl rfl) rfl ?_
   refine AL.nil (th_n ?_)
   refine AC.condB rfl (fun h2 => ?_) (fun h2 => ?_)
   ·refine AC.seq (AC.region ?_)
    refine AL.p (by exact as1 rfl) rfl ?_
    refine AL.p (by exact as1 rfl) rfl ?_
    refine AL.p (by exact as1 rfl) rfl ?_
    refine AL.nil (th_n ?_)
    refine AC.weak (Weak.nilOwn (i := 6) (e := 46) (sz := 2) rfl (by decide)) ?_
    refine AC.ret (th_r (bq_r ?_))
    have e : R = ([], [], false) := by rw [hR]; refine if_neg ?_; simp only [Bool.and_eq_true, Bool.not_eq_true', decide_eq_false_iff_not]; simp_all
    exact retN [(0, _)] rfl (by rw [e]; repeat (first | exact rfl | exact DLead.same | refine ⟨_, _, rfl, ?_, ?_⟩ | refine ⟨_, rfl, ?_⟩)) (by rw [e]; repeat (first | exact True.intro | refine And.intro ?_ ?_ | exact rfl | refine ⟨_, _, rfl, rfl, ?_⟩)) rfl rfl
   ·refine AC.skip (th_n (AC.seq ?_))
    have q1 : b1 = true := by simpa using h0
    have q2 : ¬ (ds.length : Int) > 60 := by simpa using h1
    have q3 : b2 = true := by simpa using h2
    have hRn := hRun q1 (by omega) q3
    have e := hR.trans (if_pos (by rw [q1, q3, decide_eq_false q2]; rfl))
    refine AC.region ?_
    refine AL.p (by exact g_load_refN rfl rfl rfl rfl) rfl ?_
    refine AL.p (by exact mv1 rfl) rfl ?_
    refine AL.p (by exact mv1 rfl) rfl ?_
    refine AL.q (by exact h_fun (cs := []) en_l23Run rfl rfl (by repeat (first | exact rfl | exact DLead.same | refine ⟨_, _, rfl, ?_, ?_⟩ | refine ⟨_, rfl, ?_⟩)) (by repeat (exact True.intro)) hRn rfl rfl rfl rfl) rfl ?_
    refine AL.p (by exact mv5 rfl) rfl ?_
    refine AL.p (by exact g_extract (r := .own _ _) rfl rfl) rfl ?_
    refine AL.p (by exact g_extract (r := .d _) rfl rfl) rfl ?_
    refine AL.p (by exact as2 rfl) rfl ?_
    refine AL.p (by exact as1 rfl) rfl ?_
    refine AL.nil (th_n (AC.seq (AC.region ?_)))
    refine AL.p (by exact mv2 rfl) rfl ?_
    refine AL.p (by exact mv1 rfl) rfl ?_
    refine AL.p (by exact as2 rfl) rfl ?_
    refine AL.p (by exact as1 rfl) rfl ?_
    refine AL.p (by exact as1 rfl) rfl ?_
    refine AL.nil (th_n (AC.ret (bq_r ?_)))
    exact retN [(0, _)] rfl (by rw [e]; repeat (first | exact rfl | exact DLead.same | refine ⟨_, _, rfl, ?_, ?_⟩ | refine ⟨_, rfl, ?_⟩)) (by rw [e]; repeat (first | exact True.intro | refine And.intro ?_ ?_ | exact rfl | refine ⟨_, _, rfl, rfl, ?_⟩)) rfl rfl
theorem en_sSim : Enters Tryz.prog 75 := enters_of Tryz.func75 rfl rfl
def rdN (c : Ck) (l : List Dl) (last : Int) : Nat → List Int
 | 0 => []
 | k + 1 => if 0 ≤ iAt c.since k ∧ earI c l k ≤ last then rdN c l last k ++ [(k : Int)] else rdN c l last k
theorem rdN_len (c : Ck) (l : List Dl) (last : Int) : ∀ k, (rdN c l last k).length ≤ k
 | 0 => Nat.le_refl _
 | k + 1 => by have := rdN_len c l last k; rw [rdN]; split <;> simp <;> omega
theorem mayN_rd (c : Ck) (l : List Dl) (last : Int) : ∀ k, mayN c l last k = (rdN c l last k).map fun t => ⟨earI c l t.toNat, t⟩
 | 0 => rfl
 | k + 1 => by
  rw [mayN, rdN, mayN_rd c l last k]
  split
  ·rw [List.map_append]; rfl
  ·rfl
theorem dlN_ls {N : Net} {c : Ck} {l : List Dl} {T : Int} (h : CkI N c T) (hd : Dok l N.ts.length) : ∀ k, k ≤ N.ts.length → ((dlN c.since l k).2 = true ∧ lsN c.since l k = (dlN c.since l k).1 ∧ 0 ≤ lsN c.since l k) ∨ ((dlN c.since l k).2 = false ∧ lsN c.since l k = -1 ∧ ∀ j, j < k → iAt c.since j < 0)
 | 0, _ => .inr ⟨rfl, rfl, fun j hj => by omega⟩
 | k + 1, hk => by
  have ih := dlN_ls h hd k (by omega)
  have h2 := hd.b k (by omega)
  rw [dlN, lsN]
  rcases ih with ⟨i1, i2, i3⟩ | ⟨i1, i2, i3⟩
  ·left
   rw [i1, i2]
   rw [i2] at i3
   by_cases hc : 0 ≤ iAt c.since k ∧ iAt c.since k + (dAt l k).high < (dlN c.since l k).1
   ·rw [if_pos ⟨hc.1, .inr hc.2⟩, if_pos ⟨hc.1, .inr hc.2⟩]
    exact ⟨rfl, rfl, by omega⟩
   ·rw [if_neg (fun q => hc ⟨q.1, q.2.resolve_left (by simp)⟩), if_neg (fun q => hc ⟨q.1, q.2.resolve_left (by omega)⟩)]
    exact ⟨i1, rfl, i3⟩
  ·rw [i1, i2]
   by_cases hc : 0 ≤ iAt c.since k
   ·left
    rw [if_pos ⟨hc, .inl rfl⟩, if_pos ⟨hc, .inl (by omega)⟩]
    exact ⟨rfl, rfl, by omega⟩
   ·right
    rw [if_neg (fun q => hc q.1), if_neg (fun q => hc q.1)]
    refine ⟨i1, rfl, fun j hj => ?_⟩
    rcases Nat.lt_succ_iff_lt_or_eq.1 hj with h | rfl
    ·exact i3 j h
    ·omega
theorem rdN_none {c : Ck} {l : List Dl} {last : Int} : ∀ {k : Nat}, (∀ j, j < k → iAt c.since j < 0) → rdN c l last k = []
 | 0, _ => rfl
 | k + 1, h => by
  rw [rdN, if_neg (fun q => by have := h k (by omega); omega)]
  exact rdN_none (fun j hj => h j (by omega))
theorem fireP_Q {N : Net} {c : Ck} {u : Nat} (hu : u < N.ts.length) (he : enB N c.mark u = true) (a : Int) : fireP N c (u : Int) a = fireQ N c u a := by
 have hgD : N.ts.getD u ⟨[], []⟩ = N.ts[u] := by rw [List.getD_eq_getElem?_getD, List.getElem?_eq_getElem hu]; rfl
 have e : fireI N c.mark (u : Int) = fireT N.ts[u] c.mark := by rw [fireI_at hu, ← enB_nat hu, he, if_pos rfl]
 unfold fireP fireQ
 rw [e, hgD, Int.toNat_natCast]
theorem stepQ_no {N : Net} {c : Ck} {l : List Dl} {d : Int} (h : rdN c l (lsN c.since l c.since.length) c.since.length = []) : stepQ N c l d = (⟨0, 0⟩, c, false) := by
 unfold stepQ
 rw [mayN_rd, h, if_pos (by rfl)]
theorem stepQ_yes {N : Net} {c : Ck} {l : List Dl} {T d : Int} (hI : CkI N c T) (hd : Dok l N.ts.length) (hT : 0 ≤ T ∧ T ≤ 800000) (hdr : 0 ≤ d ∧ d ≤ 999) (h : rdN c l (lsN c.since l c.since.length) c.since.length ≠ []) :
  ∃ u : Nat, u < N.ts.length ∧ (0 ≤ earI c l u ∧ earI c l u ≤ lsN c.since l c.since.length) ∧ (rdN c l (lsN c.since l c.since.length) c.since.length)[(d.tmod (rdN c l (lsN c.since l c.since.length) c.since.length).length).toNat]? = some (u : Int) ∧ stepQ N c l d = (⟨earI c l u + d.tmod (lsN c.since l c.since.length - earI c l u + 1), u⟩, fireP N c (u : Int) (earI c l u + d.tmod (lsN c.since l c.since.length - earI c l u + 1))) := by
 have hb := hI.B hd (by omega)
 have hne : mayN c l (lsN c.since l c.since.length) c.since.length ≠ [] := by rw [mayN_rd]; simpa using h
 obtain ⟨u, h1, h2, h3, h4, h5, h6⟩ := stepT_in hb hdr hne
 have hml : (mayN c l (lsN c.since l c.since.length) c.since.length).length = (rdN c l (lsN c.since l c.since.length) c.since.length).length := by rw [mayN_rd, List.length_map]
 have e : stepT c l d = ⟨earI c l u + d.tmod (lsN c.since l c.since.length - earI c l u + 1), u⟩ := by unfold stepT; dsimp only; rw [h6]
 have hpos : 0 < (rdN c l (lsN c.since l c.since.length) c.since.length).length := List.length_pos_iff.2 h
 have hi : (d.tmod (rdN c l (lsN c.since l c.since.length) c.since.length).length).toNat < (rdN c l (lsN c.since l c.since.length) c.since.length).length := by
  have := Int.tmod_lt_of_pos d (show (0 : Int) < (rdN c l (lsN c.since l c.since.length) c.since.length).length by omega)
  have := Int.tmod_nonneg ((rdN c l (lsN c.since l c.since.length) c.since.length).length : Int) hdr.1
  omega
 have hu : u < N.ts.length := by rw [← hI.len]; exact h2
 have h8 : c.now ≤ earI c l u := Int.le_max_right ..
 have h9 := hI.n
 refine ⟨u, hu, by omega, ?_, ?_⟩
 ·rw [hml, mayN_rd, List.getD_eq_getElem?_getD, List.getElem?_map, List.getElem?_eq_getElem hi] at h6
  rw [List.getElem?_eq_getElem hi]
  simp only [Option.map_some, Option.getD_some, Tf.mk.injEq] at h6
  rw [h6.2]
 ·unfold stepQ
  rw [if_neg hne, e, Int.toNat_natCast, fireP_Q hu ((hI.en u hu).1 h3)]
theorem iSim1_spec (d : Int) : ASpec Tryz.prog 43 [aI d] [] (Pure1 (aT (!(decide (0 ≤ d) && decide (d ≤ 999))))) := by
 have hW := within_spec d 0 999
 obtain ⟨b, hb⟩ : ∃ b, b = (decide (0 ≤ d) && decide (d ≤ 999)) := ⟨_, rfl⟩
 rw [← hb] at hW ⊢
 refine ASpec.of Tryz.func43 rfl rfl fun C hC => ?_
 refine AC.seq (AC.region ?_)
 refine AL.p (by exact as1 rfl) rfl ?_
 refine AL.nil (th_n (AC.seq (AC.region ?_)))
 refine AL.p (by exact mv1 rfl) rfl ?_
 refine AL.q (by exact h_pure en_within rfl rfl (by repeat (first | exact rfl | exact DLead.same | refine ⟨_, _, rfl, ?_, ?_⟩)) hW rfl) rfl ?_
 refine AL.p (by exact g_not rfl) rfl ?_
 refine AL.p (by exact as1 rfl) rfl ?_
 refine AL.nil (th_n (AC.ret (bq_r ?_)))
 exact ret1 rfl rfl
theorem en_iSim1 : Enters Tryz.prog 43 := enters_of Tryz.func43 rfl rfl
set_option maxHeartbeats 16000000 in
theorem iSim_spec (s : Stg) (l : List Dl) (ds : List Int) (hB : StgB s) (hl : DlB l) (hdl : ds.length ≤ 100000) : ASpec Tryz.prog 20 [stgA s, .d (vDls l), .d (vI ds)] [] (Pure1 (.tup [.d (vTfs (simR s l ds).1), aS (bstr (simR s l ds).2.1), aT (simR s l ds).2.2])) := by
 have hV := iVDel_spec s l hB hl
 have hA := containsInt_spec ds (by omega) 43 [] en_iSim1 (fun d => !(decide (0 ≤ d) && decide (d ≤ 999))) (fun t _ => iSim1_spec t)
 have hAe : drawsB ds = !(ds.any fun d => !(decide (0 ≤ d) && decide (d ≤ 999))) := all_not_any _ _
 have hR : simR s l ds = if (validD s l && (!decide ((ds.length : Int) > 60) && drawsB ds)) = true then ((runQ s.net l ds (newK s) []).1, (runQ s.net l ds (newK s) []).2.mark, true) else ([], [], false) := rfl
 have hval := Dok.of (s := s) (l := l)
 have hds := drawsB_in (ds := ds)
 obtain ⟨b1, hb1⟩ : ∃ b, b = validD s l := ⟨_, rfl⟩
 obtain ⟨b2, hb2⟩ : ∃ b, b = ds.any fun d => !(decide (0 ≤ d) && decide (d ≤ 999)) := ⟨_, rfl⟩
 rw [← hb2] at hA hAe
 rw [← hb1] at hV hR hval
 rw [hAe] at hR hds
 obtain ⟨Z, hZ⟩ : ∃ Z, Z = runQ s.net l ds (newK s) [] := ⟨_, rfl⟩
 rw [← hZ] at hR
 obtain ⟨R, hRR⟩ : ∃ R, R = simR s l ds := ⟨_, rfl⟩
 rw [← hRR] at hR ⊢
 clear hb1 hb2 hRR hAe
 refine ASpec.of Tryz.func20 rfl rfl fun C hC => ?_
 refine AC.seq (AC.region ?_)
 refine AL.q (by exact h_boxF rfl rfl) rfl ?_
 refine AL.p (by exact as1 rfl) rfl ?_
 refine AL.p (by exact as1 rfl) rfl ?_
 refine AL.p (by exact as1 rfl) rfl ?_
 refine AL.nil (th_n (AC.seq (AC.seq (AC.region ?_))))
 refine AL.p (by exact g_load_refN rfl rfl rfl rfl) rfl ?_
 refine AL.p (by exact mv1 rfl) rfl ?_
 refine AL.q (by exact h_pure en_iVDel rfl rfl (by repeat (first | exact rfl | exact DLead.same | refine ⟨_, _, rfl, ?_, ?_⟩ | refine ⟨_, rfl, ?_⟩)) hV rfl) rfl ?_
 refine AL.p (by exact g_not rfl) rfl ?_
 refine AL.p (by exact mv1 rfl) rfl ?_
 refine AL.caseGB rfl rfl (fun h0 => ?_) (fun h0 => ?_)
 ·refine AL.not rfl rfl rfl rfl rfl ?_
  refine AL.not rfl rfl rfl rfl rfl ?_
  refine AL.not rfl rfl rfl rfl rfl ?_
  refine AL.p (by exact g_pickT (r := .d _) rfl rfl) rfl ?_
  refine AL.p (by exact mv1 rfl) rfl ?_
  refine AL.not rfl rfl rfl rfl rfl ?_
  refine AL.not rfl rfl rfl rfl rfl ?_
  refine AL.p (by exact g_pickT (r := .d _) rfl rfl) rfl ?_
  refine AL.nil (th_n ?_)
  refine AC.condT rfl ?_
  refine AC.seq (AC.region ?_)
  refine AL.p (by exact as1 rfl) rfl ?_
  refine AL.p (by exact as1 rfl) rfl ?_
  refine AL.p (by exact as1 rfl) rfl ?_
  refine AL.nil (th_n (AC.ret (th_r (bq_r ?_))))
  have e : R = ([], [], false) := by rw [hR]; refine if_neg ?_; simp only [Bool.and_eq_true, Bool.not_eq_true', decide_eq_false_iff_not]; simp_all
  exact ret0 rfl (by rw [e]; repeat (first | exact rfl | exact DLead.same | exact DLead.nil | refine ⟨_, _, rfl, ?_, ?_⟩ | refine ⟨_, rfl, ?_⟩))
 ·refine AL.yes rfl rfl rfl ?_
  refine AL.p (by exact mv1 rfl) rfl ?_
  refine AL.yes rfl rfl rfl ?_
  refine AL.p (by exact g_len_view (k := ds.length) rfl rfl (ints_len _)) rfl ?_
  refine AL.yes rfl rfl rfl ?_
  refine AL.p (by exact g_cmp rfl rfl rfl) rfl ?_
  refine AL.p (by exact g_pickF (r := .d _) rfl rfl) rfl ?_
  refine AL.p (by exact mv1 rfl) rfl ?_
  refine AL.caseG rfl rfl (fun h1 => ?_) (fun h1 => ?_)
  ·refine AL.not rfl rfl rfl rfl rfl ?_
   refine AL.not rfl rfl rfl rfl rfl ?_
   refine AL.p (by exact g_pickT (r := .d _) rfl rfl) rfl ?_
   refine AL.nil (th_n ?_)
   refine AC.condT rfl ?_
   refine AC.seq (AC.region ?_)
   refine AL.p (by exact as1 rfl) rfl ?_
   refine AL.p (by exact as1 rfl) rfl ?_
   refine AL.p (by exact as1 rfl) rfl ?_
   refine AL.nil (th_n (AC.ret (th_r (bq_r ?_))))
   have e : R = ([], [], false) := by rw [hR]; refine if_neg ?_; simp only [Bool.and_eq_true, Bool.not_eq_true', decide_eq_false_iff_not]; simp_all
   exact ret0 rfl (by rw [e]; repeat (first | exact rfl | exact DLead.same | exact DLead.nil | refine ⟨_, _, rfl, ?_, ?_⟩ | refine ⟨_, rfl, ?_⟩))
  ·refine AL.yes rfl rfl rfl ?_
   refine AL.p (by exact mv1 rfl) rfl ?_
   refine AL.yes rfl rfl rfl ?_
   refine AL.q (by exact h_pure en_containsInt rfl rfl (by exact ⟨_, _, rfl, .same, _, _, rfl, ⟨_, rfl, rfl⟩, rfl⟩) hA rfl) rfl ?_
   refine AL.p (by exact g_pickF (r := .d _) rfl rfl) rfl ?_
   refine AL.nil (th_n ?_)
   refine AC.condB rfl (fun h2 => ?_) (fun h2 => ?_)
   ·refine AC.seq (AC.region ?_)
    refine AL.p (by exact as1 rfl) rfl ?_
    refine AL.p (by exact as1 rfl) rfl ?_
    refine AL.p (by exact as1 rfl) rfl ?_
    refine AL.nil (th_n (AC.ret (th_r (bq_r ?_))))
    have e : R = ([], [], false) := by rw [hR]; refine if_neg ?_; simp only [Bool.and_eq_true, Bool.not_eq_true', decide_eq_false_iff_not]; simp_all
    exact ret0 rfl (by rw [e]; repeat (first | exact rfl | exact DLead.same | exact DLead.nil | refine ⟨_, _, rfl, ?_, ?_⟩ | refine ⟨_, rfl, ?_⟩))
   ·refine AC.skip (th_n (AC.seq ?_))
    have q1 : b1 = true := by simpa using h0
    have q2 : ¬ (ds.length : Int) > 60 := by simpa using h1
    have q3 : b2 = false := by simpa using h2
    have e := hR.trans (if_pos (by rw [q1, q3, decide_eq_false q2]; rfl))
    obtain ⟨hg, hd⟩ := hval q1
    have hdsb := hds (by rw [q3]; rfl)
    have hgn := (goodS_bits hg).1
    have hK := newK_I hg
    have hN := newClock_spec s hB hg
    have htl : s.net.ts.length ≤ 24 := by have := goodS_few hg; have := (goodS_bits hg).2.2; omega
    obtain ⟨K, hKK⟩ : ∃ K, K = newK s := ⟨_, rfl⟩
    rw [← hKK] at hK hN hZ
    clear hKK
    refine AC.region ?_
    refine AL.p (by exact g_load_refN rfl rfl rfl rfl) rfl ?_
    refine AL.q (by exact h_fun (cs := []) en_newClock rfl rfl (by repeat (first | exact rfl | exact DLead.same | refine ⟨_, _, rfl, ?_, ?_⟩ | refine ⟨_, rfl, ?_⟩)) (by repeat (exact True.intro)) hN rfl rfl rfl rfl) rfl ?_
    refine AL.q (by exact h_lit rfl rfl rfl rfl rfl rfl rfl rfl) rfl ?_
    refine AL.p (by exact as3 rfl) rfl ?_
    refine AL.p (by exact as2 rfl) rfl ?_
    refine AL.nil (th_n (AC.seq (AC.seq (AC.region ?_))))
    refine AL.p (by exact mv1 rfl) rfl ?_
    refine AL.p (by exact g_len_view rfl rfl (by exact List.length_map _)) rfl ?_
    refine AL.p (by exact mv1 rfl) rfl ?_
    refine AL.nil (th_n (AC.block ?_))
    refine AC.loop (ι := Nat × Ck × List Tf) (fun x => ⟨116, 900, [(1, .d (vDls l)), (9, .ptr 100 0), (10, .own 102 x.2.2.length), (37, .d (vI ds)), (38, aI ds.length), (39, aI x.1)], chL (ckChs s x.2.1 100 101) ++ [(102, some (.arr 46 2 (tfL x.2.2)))]⟩) (fun x => x.1 ≤ ds.length ∧ CkI s.net x.2.1 (100 * x.1) ∧ x.2.2.length ≤ x.1 ∧ runQ s.net l (ds.drop x.1) x.2.1 x.2.2 = Z) (fun x => ds.length - x.1) ((0, K, [])) ?_ (⟨Nat.zero_le _, hK, Nat.le_refl _, hZ.symm⟩) ?_
    ·exact Weak.ren _ [(100, _), (101, _), (102, _)] hC rfl (by repeat (first | exact True.intro | refine And.intro ?_ ?_ | exact DLead.same | exact rfl | refine ⟨_, rfl, ?_⟩)) (by repeat (first | exact True.intro | refine And.intro ?_ ?_ | exact DLead.same | exact rfl | refine ⟨_, _, rfl, rfl, ?_⟩ | refine ⟨_, rfl, ?_⟩ | refine ⟨_, _, rfl, ?_, ?_⟩)) rfl rfl rfl
    ·rintro ⟨k, c, acc⟩ ⟨hk, hI, hal, hrun⟩
     dsimp only at hk hI hal hrun ⊢
     refine AC.seq (AC.region ?_)
     refine AL.p (by exact g_cmp rfl rfl rfl) rfl ?_
     refine AL.nil (th_n (AC.seq ?_))
     refine AC.condD rfl (fun h3 => ?_) (fun h3 => ?_)
     ·refine AC.skip (th_n (AC.seq (AC.block (AC.seq ?_))))
      have hk1 : k < ds.length := by omega
      have hget := ints_at hk1
      have hdr := hdsb _ (List.getElem_mem hk1)
      have hb := hI.B hd (by omega)
      have hcl := hI.len
      have hD := ckDeadline_spec s c l hb (by omega)
      have hcase := dlN_ls hI hd c.since.length (by omega)
      have hI2 := stepQ_I hI hd (by omega) hdr
      have hno := stepQ_no (N := s.net) (c := c) (l := l) (d := ds[k])
      have hyes := stepQ_yes hI hd (by omega) hdr
      have hrl := rdN_len c l (lsN c.since l c.since.length)
      have hlin := lsN_in hb c.since.length (Nat.le_refl _)
      have hdrop : ds.drop k = ds[k] :: ds.drop (k + 1) := List.drop_eq_getElem_cons hk1
      rw [hdrop, runQ] at hrun
      have hnone : (dlN c.since l c.since.length).2 = false → rdN c l (lsN c.since l c.since.length) c.since.length = [] := fun q => by rcases hcase with h | h; (rw [h.1] at q; cases q); exact rdN_none h.2.2
      have hls : (dlN c.since l c.since.length).2 = true → (dlN c.since l c.since.length).1 = lsN c.since l c.since.length := fun q => by rcases hcase with h | h; exact h.2.1.symm; (rw [h.1] at q; cases q)
      obtain ⟨S, hS⟩ : ∃ S, S = stepQ s.net c l ds[k] := ⟨_, rfl⟩
      rw [← hS] at hI2 hno hyes hrun
      obtain ⟨D, hDD⟩ : ∃ D, D = dlN c.since l c.since.length := ⟨_, rfl⟩
      rw [← hDD] at hD hnone hls
      obtain ⟨last, hlast⟩ : ∃ last, last = lsN c.since l c.since.length := ⟨_, rfl⟩
      rw [← hlast] at hno hyes hrl hlin hnone hls
      clear hcase hDD hS
      refine AC.region ?_
      refine AL.p (by exact g_ia_view rfl rfl rfl rfl rfl (by rfl) (by assumption)) rfl ?_
      refine AL.p (by exact g_load_ref rfl rfl rfl) rfl ?_
      refine AL.p (by exact as1 rfl) rfl ?_
      refine AL.nil (th_n (AC.seq (AC.region ?_)))
      refine AL.p (by exact mv3 rfl) rfl ?_
      refine AL.p (by exact mv1 rfl) rfl ?_
      refine AL.q (by exact h_fun (cs := [100, 101]) en_ckDeadline rfl rfl (by repeat (first | exact rfl | exact DLead.same | refine ⟨_, _, rfl, ?_, ?_⟩ | refine ⟨_, rfl, ?_⟩)) (by repeat (first | exact True.intro | refine And.intro ?_ ?_ | exact DLead.same | exact rfl | refine ⟨_, _, rfl, rfl, ?_⟩ | refine ⟨_, rfl, ?_⟩ | refine ⟨_, _, rfl, ?_, ?_⟩)) hD rfl rfl rfl rfl) rfl ?_
      refine AL.p (by exact mv5 rfl) rfl ?_
      refine AL.p (by exact g_extract (r := .d _) rfl rfl) rfl ?_
      refine AL.p (by exact g_extract (r := .d _) rfl rfl) rfl ?_
      refine AL.p (by exact as1 rfl) rfl ?_
      refine AL.p (by exact as1 rfl) rfl ?_
      refine AL.nil (th_n (AC.seq (AC.seq (AC.region ?_))))
      refine AL.p (by exact mv1 rfl) rfl ?_
      refine AL.p (by exact g_not rfl) rfl ?_
      refine AL.nil (th_n ?_)
      refine AC.condB rfl (fun h4 => ?_) (fun h4 => ?_)
      ·refine AC.exit (th_e ?_)
       refine ib_no rfl ?_
       refine th_e (th_e (ib_y (th_n (AC.seq ?_))))
       refine AC.drawn' mixed_ok [[], [], [1], [1,2], [1,2,3], [0], [0,1,2,3,4,5], [0,1,2,3,4,5,6]] (by decide) ?_
       refine DF.op 0 [] 8 rfl rfl rfl (.free rfl (NOp.of (by exact mv2 rfl))) rfl ?_
       refine DF.op 1 [] 8 rfl rfl rfl (.free rfl (NOp.of (by exact mv3 rfl))) rfl ?_
       refine DF.op 2 [1] 8 rfl rfl rfl (.free rfl (NOp.of (by exact g_nilP rfl))) rfl ?_
       refine DF.op 3 [1,2] 8 rfl rfl rfl (.free rfl (NOp.of (by exact g_fa_ptr rfl rfl rfl rfl rfl))) rfl ?_
       refine DF.op 4 [1,2,3] 8 rfl rfl rfl (.free rfl (NOp.of (by exact g_load_ptr rfl rfl rfl rfl rfl))) rfl ?_
       refine DF.op 5 [0] 8 rfl rfl rfl (.free rfl (NOp.of (by exact as2 rfl))) rfl ?_
       refine DF.op 6 [0,1,2,3,4,5] 8 rfl rfl rfl (.free rfl (NOp.of (by exact as1 rfl))) rfl ?_
       refine DF.op 7 [0,1,2,3,4,5,6] 8 rfl rfl rfl (.free rfl (NOp.of (by exact as1 rfl))) rfl ?_
       refine DF.fin (ps := [(0,1),(0,2),(0,3),(0,4),(1,0),(1,5),(2,0),(2,5),(3,0),(3,5),(4,0),(4,5),(5,1),(5,2),(5,3),(5,4)]) 8 rfl (by decide +kernel) (by decide +kernel) (by rfl) ?_
       refine th_n ?_
       refine AC.weak (Weak.freeze (i := 6) rfl rfl (ownl _ _) (ownt _ _)) ?_
       refine AC.ret (bq_r ?_)
       (have e2 := hno (hnone (by simpa using h4)); rw [e2, if_neg (by simp)] at hrun; rw [← hrun] at e; exact ret0 rfl (by rw [e]; repeat (first | exact rfl | exact DLead.same | refine ⟨_, _, rfl, ?_, ?_⟩ | refine ⟨_, rfl, ?_⟩)))
      ·refine AC.skip (th_n (AC.seq ?_))
       have hDt : D.2 = true := by simpa using h4
       have hDl := hls hDt
       rw [hDl]
       refine AC.region ?_
       refine AL.q (by exact h_lit rfl rfl rfl rfl rfl rfl rfl rfl) rfl ?_
       refine AL.p (by exact as2 rfl) rfl ?_
       refine AL.nil (th_n (AC.seq (AC.seq (AC.region ?_))))
       refine AL.p (by exact mv3 rfl) rfl ?_
       refine AL.p (by exact g_nilP rfl) rfl ?_
       refine AL.p (by exact g_fa_ptr rfl rfl rfl rfl rfl) rfl ?_
       refine AL.p (by exact g_load_ptr rfl rfl rfl rfl rfl) rfl ?_
       refine AL.p (by exact g_len_own (sz := 1) (els := []) (e' := 0) rfl rfl (by simp only [maxLen]; omega)) rfl ?_
       refine AL.p (by exact mv1 rfl) rfl ?_
       refine AL.nil (th_n (AC.block ?_))
       refine AC.loop (ι := Nat) (fun j => ⟨116, 1500, [(1, .d (vDls l)), (9, .ptr 100 0), (10, .own 102 acc.length), (12, aI ds[k]), (13, aI last), (15, .own 103 (rdN c l last j).length), (37, .d (vI ds)), (38, aI ds.length), (39, aI k), (55, .own 101 c.since.length), (56, aI c.since.length), (57, aI j)], chL (ckChs s c 100 101) ++ [(102, some (.arr 46 2 (tfL acc))), (103, some (.arr 3 1 (ints (rdN c l last j))))]⟩) (fun j => j ≤ c.since.length) (fun j => c.since.length - j) (0) ?_ (Nat.zero_le _) ?_
       ·exact Weak.ren _ [(100, 100), (101, 101), (102, 102), (103, _)] hC rfl (by repeat (first | exact True.intro | refine And.intro ?_ ?_ | exact DLead.same | exact rfl | refine ⟨_, rfl, ?_⟩)) (by repeat (first | exact True.intro | refine And.intro ?_ ?_ | exact DLead.same | exact rfl | refine ⟨_, _, rfl, rfl, ?_⟩ | refine ⟨_, rfl, ?_⟩ | refine ⟨_, _, rfl, ?_, ?_⟩)) rfl rfl rfl
       ·intro j hj
        refine AC.seq (AC.region ?_)
        refine AL.p (by exact g_cmp rfl rfl rfl) rfl ?_
        refine AL.nil (th_n (AC.seq ?_))
        refine AC.condD rfl (fun h5 => ?_) (fun h5 => ?_)
        ·refine AC.skip (th_n (AC.seq (AC.block (AC.seq ?_))))
         have hj1 : j < c.since.length := by omega
         have hrow := ints_iAt hj1
         have hEa := ckEarliest_spec s c l j hb hj1
         have hrj := hrl j
         have hY : 0 ≤ iAt c.since j → earI c l j ≤ last → rdN c l last (j + 1) = rdN c l last j ++ [(j : Int)] := fun h h' => by rw [rdN, if_pos ⟨h, h'⟩]
         have hNo : ¬ (0 ≤ iAt c.since j ∧ earI c l j ≤ last) → rdN c l last (j + 1) = rdN c l last j := fun h => by rw [rdN, if_neg h]
         obtain ⟨ea, hea⟩ : ∃ ea, ea = earI c l j := ⟨_, rfl⟩
         rw [← hea] at hEa hY hNo
         refine AC.region ?_
         refine AL.p (by exact mv1 rfl) rfl ?_
         refine AL.p (by exact g_ia_own (i := j) (l := c.since.length) rfl rfl rfl rfl rfl rfl hj1 (Nat.mul_one _)) rfl ?_
         refine AL.p (by exact g_load_arr1 rfl rfl rfl rfl (by assumption)) rfl ?_
         refine AL.p (by exact as1 rfl) rfl ?_
         refine AL.p (by exact as1 rfl) rfl ?_
         refine AL.nil (th_n (AC.seq (AC.region ?_)))
         refine AL.p (by exact mv1 rfl) rfl ?_
         refine AL.p (by exact g_cmp rfl rfl rfl) rfl ?_
         refine AL.p (by exact mv1 rfl) rfl ?_
         refine AL.caseG rfl rfl (fun h6 => ?_) (fun h6 => ?_)
         ·refine AL.yes rfl rfl rfl ?_
          refine AL.p (by exact mv3 rfl) rfl ?_
          refine AL.yes rfl rfl rfl ?_
          refine AL.p (by exact mv1 rfl) rfl ?_
          refine AL.yes rfl rfl rfl ?_
          refine AL.p (by exact mv1 rfl) rfl ?_
          refine AL.yes rfl rfl rfl ?_
          refine AL.q (by exact h_fun (cs := [100, 101]) en_ckEarliest rfl rfl (by repeat (first | exact rfl | exact DLead.same | refine ⟨_, _, rfl, ?_, ?_⟩ | refine ⟨_, rfl, ?_⟩)) (by repeat (first | exact True.intro | refine And.intro ?_ ?_ | exact DLead.same | exact rfl | refine ⟨_, _, rfl, rfl, ?_⟩ | refine ⟨_, rfl, ?_⟩ | refine ⟨_, _, rfl, ?_, ?_⟩)) hEa rfl rfl rfl rfl) rfl ?_
          refine AL.yes rfl rfl rfl ?_
          refine AL.p (by exact mv1 rfl) rfl ?_
          refine AL.yes rfl rfl rfl ?_
          refine AL.p (by exact g_cmp rfl rfl rfl) rfl ?_
          refine AL.p (by exact g_pickT (r := .d _) rfl rfl) rfl ?_
          refine AL.nil (th_n ?_)
          refine AC.condD rfl (fun h7 => ?_) (fun h7 => ?_)
          ·refine AC.region ?_
           refine AL.p (by exact mv2 rfl) rfl ?_
           refine AL.p (by exact mv1 rfl) rfl ?_
           refine AL.q (by exact h_litF rfl rfl rfl rfl rfl rfl rfl rfl) rfl ?_
           refine AL.q (by exact h_appendI (rdN c l last j) [(j : Int)] (.own rfl rfl (ints_len _).symm) (.view rfl) (by rw [List.length_append]; simp only [List.length_cons, List.length_nil]; omega) (by simp)) rfl ?_
           refine AL.p (by exact as2 rfl) rfl ?_
           refine AL.nil (ib_n (th_n (AC.region ?_)))
           refine AL.p (by exact g_arith rfl rfl rfl (by exact wrap_i64 (by omega))) rfl ?_
           refine AL.p (by exact mv1 rfl) rfl ?_
           refine AL.nil (th_n ?_)
           (have e := hY h6 h7; exact ⟨j + 1, by omega, by omega, Weak.ren _ [(100, 100), (101, 101), (102, 102), (103, _)] hC rfl (by rw [e]; repeat (first | exact True.intro | refine And.intro ?_ ?_ | exact DLead.same | exact rfl | refine ⟨_, rfl, ?_⟩)) (by rw [e]; repeat (first | exact True.intro | refine And.intro ?_ ?_ | exact DLead.same | exact rfl | refine ⟨_, _, rfl, rfl, ?_⟩ | refine ⟨_, rfl, ?_⟩ | refine ⟨_, _, rfl, ?_, ?_⟩)) rfl rfl rfl⟩)
          ·refine AC.skip (ib_n (th_n (AC.region ?_)))
           refine AL.p (by exact g_arith rfl rfl rfl (by exact wrap_i64 (by omega))) rfl ?_
           refine AL.p (by exact mv1 rfl) rfl ?_
           refine AL.nil (th_n ?_)
           (have e := hNo (fun q => h7 q.2); exact ⟨j + 1, by omega, by omega, Weak.ren _ [(100, 100), (101, 101), (102, 102), (103, 103)] hC rfl (by rw [e]; repeat (first | exact True.intro | refine And.intro ?_ ?_ | exact DLead.same | exact rfl | refine ⟨_, rfl, ?_⟩)) (by rw [e]; repeat (first | exact True.intro | refine And.intro ?_ ?_ | exact DLead.same | exact rfl | refine ⟨_, _, rfl, rfl, ?_⟩ | refine ⟨_, rfl, ?_⟩ | refine ⟨_, _, rfl, ?_, ?_⟩)) rfl rfl rfl⟩)
         ·refine AL.not rfl rfl rfl rfl rfl ?_
          refine AL.not rfl rfl rfl rfl rfl ?_
          refine AL.not rfl rfl rfl rfl rfl ?_
          refine AL.not rfl rfl rfl rfl rfl ?_
          refine AL.not rfl rfl rfl rfl rfl ?_
          refine AL.not rfl rfl rfl rfl rfl ?_
          refine AL.p (by exact g_pickF (r := .d _) rfl rfl) rfl ?_
          refine AL.nil (th_n ?_)
          refine AC.condF rfl ?_
          refine AC.skip (ib_n (th_n (AC.region ?_)))
          refine AL.p (by exact g_arith rfl rfl rfl (by exact wrap_i64 (by omega))) rfl ?_
          refine AL.p (by exact mv1 rfl) rfl ?_
          refine AL.nil (th_n ?_)
          (have e := hNo (fun q => h6 q.1); exact ⟨j + 1, by omega, by omega, Weak.ren _ [(100, 100), (101, 101), (102, 102), (103, 103)] hC rfl (by rw [e]; repeat (first | exact True.intro | refine And.intro ?_ ?_ | exact DLead.same | exact rfl | refine ⟨_, rfl, ?_⟩)) (by rw [e]; repeat (first | exact True.intro | refine And.intro ?_ ?_ | exact DLead.same | exact rfl | refine ⟨_, _, rfl, rfl, ?_⟩ | refine ⟨_, rfl, ?_⟩ | refine ⟨_, _, rfl, ?_, ?_⟩)) rfl rfl rfl⟩)
        ·refine AC.exit (th_e (th_e (ib_y (th_n (AC.seq (AC.seq ?_))))))
         have hjj : j = c.since.length := by omega
         subst hjj
         have hrj := hrl c.since.length
         obtain ⟨rd, hrd⟩ : ∃ rd, rd = rdN c l last c.since.length := ⟨_, rfl⟩
         rw [← hrd] at hno hyes hrj hnone ⊢
         refine AC.region ?_
         refine AL.p (by exact mv2 rfl) rfl ?_
         refine AL.p (by exact g_len_own (sz := 1) (els := []) (e' := 0) rfl rfl (by simp only [maxLen]; omega)) rfl ?_
         refine AL.p (by exact g_cmp rfl rfl rfl) rfl ?_
         refine AL.nil (th_n ?_)
         refine AC.condD rfl (fun h6 => ?_) (fun h6 => ?_)
         ·refine AC.exit (th_e ?_)
          refine ib_no rfl ?_
          refine th_e (th_e (ib_y (th_n (AC.seq ?_))))
          refine AC.drawn' mixed_ok [[], [], [1], [1,2], [1,2,3], [0], [0,1,2,3,4,5], [0,1,2,3,4,5,6]] (by decide) ?_
          refine DF.op 0 [] 8 rfl rfl rfl (.free rfl (NOp.of (by exact mv2 rfl))) rfl ?_
          refine DF.op 1 [] 8 rfl rfl rfl (.free rfl (NOp.of (by exact mv3 rfl))) rfl ?_
          refine DF.op 2 [1] 8 rfl rfl rfl (.free rfl (NOp.of (by exact g_nilP rfl))) rfl ?_
          refine DF.op 3 [1,2] 8 rfl rfl rfl (.free rfl (NOp.of (by exact g_fa_ptr rfl rfl rfl rfl rfl))) rfl ?_
          refine DF.op 4 [1,2,3] 8 rfl rfl rfl (.free rfl (NOp.of (by exact g_load_ptr rfl rfl rfl rfl rfl))) rfl ?_
          refine DF.op 5 [0] 8 rfl rfl rfl (.free rfl (NOp.of (by exact as2 rfl))) rfl ?_
          refine DF.op 6 [0,1,2,3,4,5] 8 rfl rfl rfl (.free rfl (NOp.of (by exact as1 rfl))) rfl ?_
          refine DF.op 7 [0,1,2,3,4,5,6] 8 rfl rfl rfl (.free rfl (NOp.of (by exact as1 rfl))) rfl ?_
          refine DF.fin (ps := [(0,1),(0,2),(0,3),(0,4),(1,0),(1,5),(2,0),(2,5),(3,0),(3,5),(4,0),(4,5),(5,1),(5,2),(5,3),(5,4)]) 8 rfl (by decide +kernel) (by decide +kernel) (by rfl) ?_
          refine th_n ?_
          refine AC.weak (Weak.freeze (i := 6) rfl rfl (ownl _ _) (ownt _ _)) ?_
          refine AC.ret (bq_r ?_)
          (have e2 := hno (List.eq_nil_of_length_eq_zero (by omega)); rw [e2, if_neg (by simp)] at hrun; rw [← hrun] at e; exact ret0 rfl (by rw [e]; repeat (first | exact rfl | exact DLead.same | refine ⟨_, _, rfl, ?_, ?_⟩ | refine ⟨_, rfl, ?_⟩)))
         ·refine AC.skip (th_n (AC.seq ?_))
          obtain ⟨u, hu, heb, hrg, hSe⟩ := hyes (fun q => h6 (by rw [q]; rfl))
          have hpos : (0 : Int) < rd.length := by omega
          have h5' := Int.tmod_nonneg (rd.length : Int) hdr.1
          have h6' := Int.tmod_lt_of_pos ds[k] hpos
          have hlt : (ds[k].tmod rd.length).toNat < rd.length := by omega
          have hI3 : ds[k].tmod rd.length = ((ds[k].tmod rd.length).toNat : Int) := by omega
          have hrow3 : (ints rd)[(ds[k].tmod rd.length).toNat]? = some [dI ((u : Nat) : Int)] := by rw [List.getElem?_map, hrg]; rfl
          have hEu := ckEarliest_spec s c l u hb (by omega)
          obtain ⟨ea, heaE⟩ : ∃ ea, ea = earI c l u := ⟨_, rfl⟩
          rw [← heaE] at heb hSe hEu
          have h7' := Int.tmod_nonneg (last - ea + 1) hdr.1
          have h8' := Int.tmod_lt_of_pos ds[k] (show 0 < last - ea + 1 by omega)
          have hFi := ckFire_spec s c (u : Int) (ea + ds[k].tmod (last - ea + 1)) hB hg hI.m hI.len
          obtain ⟨F, hF⟩ : ∃ F, F = fireP s.net c (u : Int) (ea + ds[k].tmod (last - ea + 1)) := ⟨_, rfl⟩
          rw [← hF] at hFi hSe
          refine AC.region ?_
          refine AL.p (by exact mv2 rfl) rfl ?_
          refine AL.p (by exact mv1 rfl) rfl ?_
          refine AL.p (by exact mv2 rfl) rfl ?_
          refine AL.p (by exact g_len_own (sz := 1) (els := []) (e' := 0) rfl rfl (by simp only [maxLen]; omega)) rfl ?_
          refine AL.p (by exact g_rem (c := ds[k].tmod rd.length) rfl rfl (by omega) rfl) rfl ?_
          refine AL.p (by exact g_ia_own (i := (ds[k].tmod rd.length).toNat) (l := rd.length) rfl rfl rfl rfl rfl hI3 hlt (Nat.mul_one _)) rfl ?_
          refine AL.p (by exact g_load_arr1 rfl rfl rfl rfl hrow3) rfl ?_
          refine AL.p (by exact as1 rfl) rfl ?_
          refine AL.nil (th_n (AC.seq (AC.region ?_)))
          refine AL.p (by exact mv3 rfl) rfl ?_
          refine AL.p (by exact mv1 rfl) rfl ?_
          refine AL.p (by exact mv1 rfl) rfl ?_
          refine AL.q (by exact h_fun (cs := [100, 101]) en_ckEarliest rfl rfl (by repeat (first | exact rfl | exact DLead.same | refine ⟨_, _, rfl, ?_, ?_⟩ | refine ⟨_, rfl, ?_⟩)) (by repeat (first | exact True.intro | refine And.intro ?_ ?_ | exact DLead.same | exact rfl | refine ⟨_, _, rfl, rfl, ?_⟩ | refine ⟨_, rfl, ?_⟩ | refine ⟨_, _, rfl, ?_, ?_⟩)) hEu rfl rfl rfl rfl) rfl ?_
          refine AL.p (by exact as1 rfl) rfl ?_
          refine AL.nil (th_n (AC.seq (AC.region ?_)))
          refine AL.p (by exact mv1 rfl) rfl ?_
          refine AL.p (by exact mv1 rfl) rfl ?_
          refine AL.p (by exact mv1 rfl) rfl ?_
          refine AL.p (by exact mv1 rfl) rfl ?_
          refine AL.p (by exact g_arith rfl rfl rfl (by exact wrap_i64 (by omega))) rfl ?_
          refine AL.p (by exact g_arith rfl rfl rfl (by exact wrap_i64 (by omega))) rfl ?_
          refine AL.p (by exact g_rem (c := ds[k].tmod (last - ea + 1)) rfl rfl (by omega) rfl) rfl ?_
          refine AL.p (by exact g_arith rfl rfl rfl (by exact wrap_i64 (by omega))) rfl ?_
          refine AL.p (by exact as1 rfl) rfl ?_
          refine AL.nil (th_n (AC.seq (AC.seq (AC.region ?_))))
          refine AL.p (by exact mv3 rfl) rfl ?_
          refine AL.p (by exact mv1 rfl) rfl ?_
          refine AL.p (by exact mv1 rfl) rfl ?_
          refine AL.q (by exact h_fun (cs := [100, 101]) en_ckFire rfl rfl (by repeat (first | exact rfl | exact DLead.same | refine ⟨_, _, rfl, ?_, ?_⟩ | refine ⟨_, rfl, ?_⟩)) (by repeat (first | exact True.intro | refine And.intro ?_ ?_ | exact DLead.same | exact rfl | refine ⟨_, _, rfl, rfl, ?_⟩ | refine ⟨_, rfl, ?_⟩ | refine ⟨_, _, rfl, ?_, ?_⟩)) hFi rfl rfl rfl rfl) rfl ?_
          refine AL.p (by exact g_not rfl) rfl ?_
          refine AL.nil (th_n ?_)
          refine AC.condB rfl (fun h7 => ?_) (fun h7 => ?_)
          ·refine AC.exit (th_e ?_)
           refine ib_no rfl ?_
           refine th_e (th_e (ib_y (th_n (AC.seq ?_))))
           refine AC.drawn' mixed_ok [[], [], [1], [1,2], [1,2,3], [0], [0,1,2,3,4,5], [0,1,2,3,4,5,6]] (by decide) ?_
           refine DF.op 0 [] 8 rfl rfl rfl (.free rfl (NOp.of (by exact mv2 rfl))) rfl ?_
           refine DF.op 1 [] 8 rfl rfl rfl (.free rfl (NOp.of (by exact mv3 rfl))) rfl ?_
           refine DF.op 2 [1] 8 rfl rfl rfl (.free rfl (NOp.of (by exact g_nilP rfl))) rfl ?_
           refine DF.op 3 [1,2] 8 rfl rfl rfl (.free rfl (NOp.of (by exact g_fa_ptr rfl rfl rfl rfl rfl))) rfl ?_
           refine DF.op 4 [1,2,3] 8 rfl rfl rfl (.free rfl (NOp.of (by exact g_load_ptr rfl rfl rfl rfl rfl))) rfl ?_
           refine DF.op 5 [0] 8 rfl rfl rfl (.free rfl (NOp.of (by exact as2 rfl))) rfl ?_
           refine DF.op 6 [0,1,2,3,4,5] 8 rfl rfl rfl (.free rfl (NOp.of (by exact as1 rfl))) rfl ?_
           refine DF.op 7 [0,1,2,3,4,5,6] 8 rfl rfl rfl (.free rfl (NOp.of (by exact as1 rfl))) rfl ?_
           refine DF.fin (ps := [(0,1),(0,2),(0,3),(0,4),(1,0),(1,5),(2,0),(2,5),(3,0),(3,5),(4,0),(4,5),(5,1),(5,2),(5,3),(5,4)]) 8 rfl (by decide +kernel) (by decide +kernel) (by rfl) ?_
           refine th_n ?_
           refine AC.weak (Weak.freeze (i := 6) rfl rfl (ownl _ _) (ownt _ _)) ?_
           refine AC.ret (bq_r ?_)
           (have q8 : F.2 = false := (by simpa using h7); rw [hSe, if_neg (by rw [q8]; simp)] at hrun; rw [← hrun] at e; exact ret0 rfl (by rw [e]; repeat (first | exact rfl | exact DLead.same | refine ⟨_, _, rfl, ?_, ?_⟩ | refine ⟨_, rfl, ?_⟩)))
          ·refine AC.skip (th_n (AC.region ?_))
           refine AL.p (by exact mv2 rfl) rfl ?_
           refine AL.p (by exact mv1 rfl) rfl ?_
           refine AL.p (by exact mv1 rfl) rfl ?_
           refine AL.p (by exact g_build rfl rfl rfl) rfl ?_
           refine AL.q (by exact h_litF rfl rfl rfl rfl rfl rfl rfl rfl) rfl ?_
           refine AL.q (by exact h_appendF acc [⟨ea + ds[k].tmod (last - ea + 1), u⟩] (.own rfl rfl (tfL_len _).symm) (.view rfl) (by rw [List.length_append]; simp only [List.length_cons, List.length_nil]; omega) (by simp)) rfl ?_
           refine AL.p (by exact as2 rfl) rfl ?_
           refine AL.nil (ib_n (th_n (AC.region ?_)))
           refine AL.p (by exact g_arith rfl rfl rfl (by exact wrap_i64 (by omega))) rfl ?_
           refine AL.p (by exact mv1 rfl) rfl ?_
           refine AL.nil (th_n ?_)
           have q8 : F.2 = true := by simpa using h7
           have hrun2 := hrun
           rw [hSe, if_pos q8] at hrun2
           rw [hSe] at hI2
           exact ⟨(k + 1, F.1, acc ++ [⟨ea + ds[k].tmod (last - ea + 1), u⟩]), ⟨by omega, hI2.mono (by omega), by rw [List.length_append]; simp only [List.length_cons, List.length_nil]; omega, hrun2⟩, by dsimp only; omega, Weak.ren _ [(100, 100), (101, _), (102, _)] hC rfl (by repeat (first | exact True.intro | refine And.intro ?_ ?_ | exact DLead.same | exact rfl | refine ⟨_, rfl, ?_⟩)) (by repeat (first | exact True.intro | refine And.intro ?_ ?_ | exact DLead.same | exact rfl | refine ⟨_, _, rfl, rfl, ?_⟩ | refine ⟨_, rfl, ?_⟩ | refine ⟨_, _, rfl, ?_, ?_⟩)) rfl rfl rfl⟩
     ·refine AC.exit (th_e (th_e (ib_y (th_n (AC.seq ?_)))))
      refine AC.drawn' mixed_ok [[], [], [1], [1,2], [1,2,3], [0], [0,1,2,3,4,5], [0,1,2,3,4,5,6]] (by decide) ?_
      refine DF.op 0 [] 8 rfl rfl rfl (.free rfl (NOp.of (by exact mv2 rfl))) rfl ?_
      refine DF.op 1 [] 8 rfl rfl rfl (.free rfl (NOp.of (by exact mv3 rfl))) rfl ?_
      refine DF.op 2 [1] 8 rfl rfl rfl (.free rfl (NOp.of (by exact g_nilP rfl))) rfl ?_
      refine DF.op 3 [1,2] 8 rfl rfl rfl (.free rfl (NOp.of (by exact g_fa_ptr rfl rfl rfl rfl rfl))) rfl ?_
      refine DF.op 4 [1,2,3] 8 rfl rfl rfl (.free rfl (NOp.of (by exact g_load_ptr rfl rfl rfl rfl rfl))) rfl ?_
      refine DF.op 5 [0] 8 rfl rfl rfl (.free rfl (NOp.of (by exact as2 rfl))) rfl ?_
      refine DF.op 6 [0,1,2,3,4,5] 8 rfl rfl rfl (.free rfl (NOp.of (by exact as1 rfl))) rfl ?_
      refine DF.op 7 [0,1,2,3,4,5,6] 8 rfl rfl rfl (.free rfl (NOp.of (by exact as1 rfl))) rfl ?_
      refine DF.fin (ps := [(0,1),(0,2),(0,3),(0,4),(1,0),(1,5),(2,0),(2,5),(3,0),(3,5),(4,0),(4,5),(5,1),(5,2),(5,3),(5,4)]) 8 rfl (by decide +kernel) (by decide +kernel) (by rfl) ?_
      refine th_n ?_
      refine AC.weak (Weak.freeze (i := 6) rfl rfl (ownl _ _) (ownt _ _)) ?_
      refine AC.ret (bq_r ?_)
      (have e2 : k = ds.length := (by omega); rw [e2, List.drop_length, runQ] at hrun; rw [← hrun] at e; exact ret0 rfl (by rw [e]; repeat (first | exact rfl | exact DLead.same | refine ⟨_, _, rfl, ?_, ?_⟩ | refine ⟨_, rfl, ?_⟩)))
theorem en_iSim : Enters Tryz.prog 20 := enters_of Tryz.func20 rfl rfl
def chkB (N : Net) (c : Ck) (l : List Dl) (x : Tf) : Bool :=
 (decide (0 ≤ x.t) && decide (x.t ≤ (N.ts.length : Int) - 1)) && (decide (0 ≤ iAt c.since x.t.toNat) && ((decide (earI c l x.t.toNat ≤ x.tm) && decide (x.tm ≤ lsN c.since l c.since.length)) && (fireQ N c x.t.toNat x.tm).2))
def checkQ (N : Net) (l : List Dl) : List Tf → Ck → Bool
 | [], _ => true
 | x :: xs, c => if chkB N c l x = true then checkQ N l xs (fireQ N c x.t.toNat x.tm).1 else false
def timeK (run : List Tf) (k : Nat) : Bool := !decide ((run.getD k ⟨0, 0⟩).tm < 0) && !(decide (0 < k) && decide ((run.getD (k - 1) ⟨0, 0⟩).tm > (run.getD k ⟨0, 0⟩).tm))
def timesB (run : List Tf) : Bool := allK (timeK run) run.length && decide ((run.length : Int) ≤ 60)
def fAt (l : List Tf) (k : Nat) : Tf := l.getD k ⟨0, 0⟩
theorem fAt_nat {l : List Tf} {k : Nat} (h : k < l.length) : fAt l k = l[k] := by unfold fAt; rw [List.getD_eq_getElem?_getD, List.getElem?_eq_getElem h]; rfl
theorem tfLA_get {l : List Tf} {k : Nat} (h : k < l.length) : (tfL l)[k]? = some [dI (fAt l k).tm, dI (fAt l k).t] := by rw [fAt_nat h]; exact tfL_get h
theorem timeK_no {run : List Tf} {k : Nat} (h : (fAt run k).tm < 0 ∨ (0 < k ∧ (fAt run (k - 1)).tm > (fAt run k).tm)) : timeK run k = false := by
 show (!decide ((fAt run k).tm < 0) && !(decide (0 < k) && decide ((fAt run (k - 1)).tm > (fAt run k).tm))) = false
 rcases h with h | ⟨h, h'⟩
 ·rw [decide_eq_true h]; rfl
 ·rw [decide_eq_true h, decide_eq_true h']; simp
theorem timeK_yes {run : List Tf} {k : Nat} (h : ¬ (fAt run k).tm < 0) (h' : 0 < k → ¬ (fAt run (k - 1)).tm > (fAt run k).tm) : timeK run k = true := by
 show (!decide ((fAt run k).tm < 0) && !(decide (0 < k) && decide ((fAt run (k - 1)).tm > (fAt run k).tm))) = true
 rw [decide_eq_false h]
 by_cases hk : 0 < k
 ·rw [decide_eq_true hk, decide_eq_false (h' hk)]; rfl
 ·rw [decide_eq_false hk]; rfl
set_option maxHeartbeats 4000000 in
theorem areTimes_spec (run : List Tf) (hn : run.length ≤ 100000) : ASpec Tryz.prog 31 [.d (vTfs run)] [] (Pure1 (aT (timesB run))) := by
 refine ASpec.of Tryz.func31 rfl rfl fun C hC => ?_
 refine AC.seq (AC.region ?_)
 refine AL.p (by exact as1 rfl) rfl ?_
 refine AL.nil (th_n (AC.seq (AC.seq (AC.region ?_))))
 refine AL.p (by exact mv1 rfl) rfl ?_
 refine AL.p (by exact g_len_view (k := run.length) rfl rfl (tfL_len _)) rfl ?_
 refine AL.p (by exact mv1 rfl) rfl ?_
 refine AL.nil (th_n (AC.block ?_))
 refine AC.loop (ι := Nat) (fun k => ⟨34, 200, [(0, .d (vTfs run)), (5, .d (vTfs run)), (6, aI run.length), (7, aI k)], []⟩) (fun k => k ≤ run.length ∧ ∀ j, j < k → timeK run j = true) (fun k => run.length - k) (0) ?_ (⟨Nat.zero_le _, fun j hj => by omega⟩) ?_
 ·refine Weak.ren _ [] hC rfl ?_ ?_ rfl rfl rfl <;> repeat (first | exact True.intro | refine And.intro ?_ ?_ | exact DLead.same)
 ·intro k ⟨hk, hall⟩
  refine AC.seq (AC.region ?_)
  refine AL.p (by exact g_cmp rfl rfl rfl) rfl ?_
  refine AL.nil (th_n (AC.seq ?_))
  refine AC.condD rfl (fun h0 => ?_) (fun h0 => ?_)
  ·refine AC.skip (th_n (AC.seq (AC.block (AC.seq ?_))))
   have hk1 : k < run.length := by omega
   have hget := tfLA_get hk1
   have hpre : 0 < k → (tfL run)[k - 1]? = some [dI (fAt run (k - 1)).tm, dI (fAt run (k - 1)).t] := fun q => tfLA_get (by omega)
   refine AC.region ?_
   refine AL.p (by exact mv1 rfl) rfl ?_
   refine AL.p (by exact g_ia_view rfl rfl rfl rfl rfl (by rfl) (by assumption)) rfl ?_
   refine AL.p (by exact g_load_refN rfl rfl rfl rfl) rfl ?_
   refine AL.q (by exact h_alloc rfl) rfl ?_
   refine AL.p (by exact as1 rfl) rfl ?_
   refine AL.q (by exact h_store rfl rfl rfl rfl rfl rfl) rfl ?_
   refine AL.nil (th_n (AC.seq ?_))
   refine AC.drawn' mixed_ok [[], [0], [0,1], [0,1,2], [0,1,2,3], [0,1,2,3,4], [0,1,2,3,4,5], [0,1,2,3,4,5,6], [0,1,2,3,4,5,6], [0,1,2,3,4,5,6,8], [0,1,2,3,4,5,6,7,8,9], [0,1,2,3,4,5,6,7,8,9,10], [0,1,2,3,4,5,6,7,8,9,10,11], [0,1,2,3,4,5,6], [0,1,2,3,4,5,6,13], [0,1,2,3,4,5,6,7,8,9,10,11,12,13,14], [0,1,2,3,4,5,6,7,8,9,10,11,12,13,14,15], [0,1,2,3,4,5,6,7,8,9,10,11,12,13,14,15,16]] (by decide) ?_
   refine DF.op 0 [] 18 rfl rfl rfl (.free rfl (NOp.of (by exact g_fa_ptr rfl rfl rfl rfl rfl))) rfl ?_
   refine DF.op 1 [0] 18 rfl rfl rfl (.free rfl (NOp.of (by exact g_load_ptr rfl rfl rfl rfl rfl))) rfl ?_
   refine DF.op 2 [0,1] 18 rfl rfl rfl (.free rfl (NOp.of (by exact g_cmp rfl rfl rfl))) rfl ?_
   refine DF.op 3 [0,1,2] 18 rfl rfl rfl (.free rfl (NOp.of (by exact mv1 rfl))) rfl ?_
   refine DF.caseD 3 rfl (fun h1 => ?_) (fun h1 => ?_)
   ·refine DF.op (ids := []) 4 [0,1,2,3] 18 rfl rfl rfl (.no rfl rfl rfl rfl rfl rfl) rfl ?_
    refine DF.op (ids := []) 5 [0,1,2,3,4] 18 rfl rfl rfl (.no rfl rfl rfl rfl rfl rfl) rfl ?_
    refine DF.op (ids := []) 6 [0,1,2,3,4,5] 18 rfl rfl rfl (.no rfl rfl rfl rfl rfl rfl) rfl ?_
    refine DF.op (ids := []) 7 [0,1,2,3,4,5,6] 18 rfl rfl rfl (.noU rfl rfl rfl rfl) rfl ?_
    refine DF.op (ids := []) 8 [0,1,2,3,4,5,6] 18 rfl rfl rfl (.noU rfl rfl rfl rfl) rfl ?_
    refine DF.op (ids := []) 9 [0,1,2,3,4,5,6,8] 18 rfl rfl rfl (.noU rfl rfl rfl rfl) rfl ?_
    refine DF.op (ids := []) 10 (List.range 10) 18 rfl rfl rfl (.noU rfl rfl rfl rfl) rfl ?_
    refine DF.op (ids := []) 11 (List.range 11) 18 rfl rfl rfl (.noU rfl rfl rfl rfl) rfl ?_
    refine DF.op (ids := []) 12 (List.range 12) 18 rfl rfl rfl (.noU rfl rfl rfl rfl) rfl ?_
    refine DF.op (ids := []) 13 [0,1,2,3,4,5,6] 18 rfl rfl rfl (.noU rfl rfl rfl rfl) rfl ?_
    refine DF.op (ids := []) 14 [0,1,2,3,4,5,6,13] 18 rfl rfl rfl (.noU rfl rfl rfl rfl) rfl ?_
    refine DF.op (ids := []) 15 (List.range 15) 18 rfl rfl rfl (.noU rfl rfl rfl rfl) rfl ?_
    refine DF.op (ids := []) 16 (List.range 16) 18 rfl rfl rfl (.no rfl rfl rfl rfl rfl rfl) rfl ?_
    refine DF.op 17 (List.range 17) 18 rfl rfl rfl (.free rfl (NOp.of (by exact g_pickT (r := .d _) rfl rfl))) rfl ?_
    refine DF.fin (ps := [(7,8),(7,9),(7,13),(7,14),(8,7),(8,13),(8,14),(9,7),(9,13),(9,14),(10,13),(10,14),(11,13),(11,14),(12,13),(12,14),(13,7),(13,8),(13,9),(13,10),(13,11),(13,12),(14,7),(14,8),(14,9),(14,10),(14,11),(14,12)]) 18 rfl (by decide +kernel) (by decide +kernel) (by rfl) ?_
    refine th_n ?_
    refine AC.condT rfl ?_
    refine AC.seq (AC.region ?_)
    refine AL.p (by exact as1 rfl) rfl ?_
    refine AL.nil (th_n (AC.ret (ib_r (th_r (th_r (ib_r (th_r (bq_r ?_))))))))
    have e : timeK run k = false := timeK_no (by exact .inl h1)
    exact ret1 rfl (by unfold timesB; rw [allK_no hk1 e, Bool.false_and])
   ·refine DF.op 4 [0,1,2,3] 18 rfl rfl rfl (.yes rfl rfl rfl rfl (NOp.of (by exact mv1 rfl))) rfl ?_
    refine DF.op 5 [0,1,2,3,4] 18 rfl rfl rfl (.yes rfl rfl rfl rfl (NOp.of (by exact g_cmp rfl rfl rfl))) rfl ?_
    refine DF.op 6 [0,1,2,3,4,5] 18 rfl rfl rfl (.yes rfl rfl rfl rfl (NOp.of (by exact mv1 rfl))) rfl ?_
    refine DF.caseD 6 rfl (fun h2 => ?_) (fun h2 => ?_)
    ·refine DF.op 7 [0,1,2,3,4,5,6] 18 rfl rfl rfl (.yes rfl rfl rfl rfl (NOp.of (by exact mv1 rfl))) rfl ?_
     refine DF.op 8 [0,1,2,3,4,5,6] 18 rfl rfl rfl (.yes rfl rfl rfl rfl (NOp.of (by exact mv1 rfl))) rfl ?_
     refine DF.op 9 [0,1,2,3,4,5,6,8] 18 rfl rfl rfl (.yes rfl rfl rfl rfl (NOp.of (by exact g_arith rfl rfl rfl (by exact wrap_i64 (by omega))))) rfl ?_
     refine DF.op 10 (List.range 10) 18 rfl rfl rfl (.yes rfl rfl rfl rfl (NOp.of (by exact g_ia_view (i := k - 1) rfl rfl rfl rfl rfl (by omega) (hpre (by omega))))) rfl ?_
     refine DF.op 11 (List.range 11) 18 rfl rfl rfl (.yes rfl rfl rfl rfl (NOp.of (by exact g_fa_ref rfl rfl rfl rfl rfl rfl))) rfl ?_
     refine DF.op 12 (List.range 12) 18 rfl rfl rfl (.yes rfl rfl rfl rfl (NOp.of (by exact g_load_ref rfl rfl rfl))) rfl ?_
     refine DF.op 13 [0,1,2,3,4,5,6] 18 rfl rfl rfl (.yes rfl rfl rfl rfl (NOp.of (by exact g_fa_ptr rfl rfl rfl rfl rfl))) rfl ?_
     refine DF.op 14 [0,1,2,3,4,5,6,13] 18 rfl rfl rfl (.yes rfl rfl rfl rfl (NOp.of (by exact g_load_ptr rfl rfl rfl rfl rfl))) rfl ?_
     refine DF.op 15 (List.range 15) 18 rfl rfl rfl (.yes rfl rfl rfl rfl (NOp.of (by exact g_cmp rfl rfl rfl))) rfl ?_
     refine DF.op 16 (List.range 16) 18 rfl rfl rfl (.yes rfl rfl rfl rfl (NOp.of (by exact g_pickT (r := .d _) rfl rfl))) rfl ?_
     refine DF.op 17 (List.range 17) 18 rfl rfl rfl (.free rfl (NOp.of (by exact g_pickF (r := .d _) rfl rfl))) rfl ?_
     refine DF.fin (ps := [(7,8),(7,9),(7,13),(7,14),(8,7),(8,13),(8,14),(9,7),(9,13),(9,14),(10,13),(10,14),(11,13),(11,14),(12,13),(12,14),(13,7),(13,8),(13,9),(13,10),(13,11),(13,12),(14,7),(14,8),(14,9),(14,10),(14,11),(14,12)]) 18 rfl (by decide +kernel) (by decide +kernel) (by rfl) ?_
     refine th_n ?_
     refine AC.condD rfl (fun h3 => ?_) (fun h3 => ?_)
     ·refine AC.seq (AC.region ?_)
      refine AL.p (by exact as1 rfl) rfl ?_
      refine AL.nil (th_n (AC.ret (ib_r (th_r (th_r (ib_r (th_r (bq_r ?_))))))))
      have e : timeK run k = false := timeK_no (by exact .inr ⟨by omega, h3⟩)
      exact ret1 rfl (by unfold timesB; rw [allK_no hk1 e, Bool.false_and])
     ·refine AC.skip (ib_n (th_n (AC.region ?_)))
      refine AL.p (by exact g_arith rfl rfl rfl (by exact wrap_i64 (by omega))) rfl ?_
      refine AL.p (by exact mv1 rfl) rfl ?_
      refine AL.nil (th_n ?_)
      have e : timeK run k = true := timeK_yes h1 (fun q => by exact h3)
      exact ⟨k + 1, ⟨by omega, fun j hj2 => by rcases Nat.lt_succ_iff_lt_or_eq.1 hj2 with h | rfl; exact hall j h; exact e⟩, by omega, Weak.ren _ [] hC rfl (by repeat (first | exact True.intro | refine And.intro ?_ ?_ | exact DLead.same)) (by repeat (exact True.intro)) rfl rfl rfl⟩
    ·refine DF.op (ids := []) 7 [0,1,2,3,4,5,6] 18 rfl rfl rfl (.no rfl rfl rfl rfl rfl rfl) rfl ?_
     refine DF.op (ids := []) 8 [0,1,2,3,4,5,6] 18 rfl rfl rfl (.no rfl rfl rfl rfl rfl rfl) rfl ?_
     refine DF.op (ids := []) 9 [0,1,2,3,4,5,6,8] 18 rfl rfl rfl (.no rfl rfl rfl rfl rfl rfl) rfl ?_
     refine DF.op (ids := []) 10 (List.range 10) 18 rfl rfl rfl (.no rfl rfl rfl rfl rfl rfl) rfl ?_
     refine DF.op (ids := []) 11 (List.range 11) 18 rfl rfl rfl (.no rfl rfl rfl rfl rfl rfl) rfl ?_
     refine DF.op (ids := []) 12 (List.range 12) 18 rfl rfl rfl (.no rfl rfl rfl rfl rfl rfl) rfl ?_
     refine DF.op (ids := []) 13 [0,1,2,3,4,5,6] 18 rfl rfl rfl (.no rfl rfl rfl rfl rfl rfl) rfl ?_
     refine DF.op (ids := []) 14 [0,1,2,3,4,5,6,13] 18 rfl rfl rfl (.no rfl rfl rfl rfl rfl rfl) rfl ?_
     refine DF.op (ids := []) 15 (List.range 15) 18 rfl rfl rfl (.no rfl rfl rfl rfl rfl rfl) rfl ?_
     refine DF.op 16 (List.range 16) 18 rfl rfl rfl (.yes rfl rfl rfl rfl (NOp.of (by exact g_pickF (r := .d _) rfl rfl))) rfl ?_
     refine DF.op 17 (List.range 17) 18 rfl rfl rfl (.free rfl (NOp.of (by exact g_pickF (r := .d _) rfl rfl))) rfl ?_
     refine DF.fin (ps := [(7,8),(7,9),(7,13),(7,14),(8,7),(8,13),(8,14),(9,7),(9,13),(9,14),(10,13),(10,14),(11,13),(11,14),(12,13),(12,14),(13,7),(13,8),(13,9),(13,10),(13,11),(13,12),(14,7),(14,8),(14,9),(14,10),(14,11),(14,12)]) 18 rfl (by decide +kernel) (by decide +kernel) (by rfl) ?_
     refine th_n ?_
     refine AC.condF rfl ?_
     refine AC.skip (ib_n (th_n (AC.region ?_)))
     refine AL.p (by exact g_arith rfl rfl rfl (by exact wrap_i64 (by omega))) rfl ?_
     refine AL.p (by exact mv1 rfl) rfl ?_
     refine AL.nil (th_n ?_)
     have e : timeK run k = true := timeK_yes h1 (fun q => by (exfalso; omega))
     exact ⟨k + 1, ⟨by omega, fun j hj2 => by rcases Nat.lt_succ_iff_lt_or_eq.1 hj2 with h | rfl; exact hall j h; exact e⟩, by omega, Weak.ren _ [] hC rfl (by repeat (first | exact True.intro | refine And.intro ?_ ?_ | exact DLead.same)) (by repeat (exact True.intro)) rfl rfl rfl⟩
  ·refine AC.exit (th_e (th_e (ib_y (th_n (AC.seq (AC.region ?_))))))
   refine AL.p (by exact mv1 rfl) rfl ?_
   refine AL.p (by exact g_len_view (k := run.length) rfl rfl (tfL_len _)) rfl ?_
   refine AL.p (by exact g_cmp rfl rfl rfl) rfl ?_
   refine AL.p (by exact as1 rfl) rfl ?_
   refine AL.nil (th_n (AC.ret (bq_r ?_)))
   exact ret1 rfl (by unfold timesB; rw [allK_yes (fun j hj => hall j (by omega)), Bool.true_and])
theorem en_areTimes : Enters Tryz.prog 31 := enters_of Tryz.func31 rfl rfl
set_option maxHeartbeats 4000000 in
theorem l23Times_spec (run : List Tf) (hn : run.length ≤ 100000) : ASpec Tryz.prog 34 [.d (vTfs run)] [] (Pure1 (aT (timesB run))) := by
 refine ASpec.of Tryz.func34 rfl rfl fun C hC => ?_
 refine AC.seq (AC.region ?_)
 refine AL.p (by exact as1 rfl) rfl ?_
 refine AL.nil (th_n (AC.seq (AC.seq (AC.region ?_))))
 refine AL.p (by exact mv1 rfl) rfl ?_
 refine AL.p (by exact g_len_view (k := run.length) rfl rfl (tfL_len _)) rfl ?_
 refine AL.p (by exact mv1 rfl) rfl ?_
 refine AL.nil (th_n (AC.block ?_))
 refine AC.loop (ι := Nat) (fun k => ⟨34, 200, [(0, .d (vTfs run)), (5, .d (vTfs run)), (6, aI run.length), (7, aI k)], []⟩) (fun k => k ≤ run.length ∧ ∀ j, j < k → timeK run j = true) (fun k => run.length - k) (0) ?_ (⟨Nat.zero_le _, fun j hj => by omega⟩) ?_
 ·refine Weak.ren _ [] hC rfl ?_ ?_ rfl rfl rfl <;> repeat (first | exact True.intro | refine And.intro ?_ ?_ | exact DLead.same)
 ·intro k ⟨hk, hall⟩
  refine AC.seq (AC.region ?_)
  refine AL.p (by exact g_cmp rfl rfl rfl) rfl ?_
  refine AL.nil (th_n (AC.seq ?_))
  refine AC.condD rfl (fun h0 => ?_) (fun h0 => ?_)
  ·refine AC.skip (th_n (AC.seq (AC.block (AC.seq ?_))))
   have hk1 : k < run.length := by omega
   have hget := tfLA_get hk1
   have hpre : 0 < k → (tfL run)[k - 1]? = some [dI (fAt run (k - 1)).tm, dI (fAt run (k - 1)).t] := fun q => tfLA_get (by omega)
   refine AC.region ?_
   refine AL.p (by exact mv1 rfl) rfl ?_
   refine AL.p (by exact g_ia_view rfl rfl rfl rfl rfl (by rfl) (by assumption)) rfl ?_
   refine AL.p (by exact g_load_refN rfl rfl rfl rfl) rfl ?_
   refine AL.q (by exact h_alloc rfl) rfl ?_
   refine AL.p (by exact as1 rfl) rfl ?_
   refine AL.q (by exact h_store rfl rfl rfl rfl rfl rfl) rfl ?_
   refine AL.nil (th_n (AC.seq ?_))
   refine AC.drawn' mixed_ok [[], [0], [0,1], [0,1,2], [0,1,2,3], [0,1,2,3,4], [0,1,2,3,4,5], [0,1,2,3,4,5,6], [0,1,2,3,4,5,6], [0,1,2,3,4,5,6,8], [0,1,2,3,4,5,6,7,8,9], [0,1,2,3,4,5,6,7,8,9,10], [0,1,2,3,4,5,6,7,8,9,10,11], [0,1,2,3,4,5,6], [0,1,2,3,4,5,6,13], [0,1,2,3,4,5,6,7,8,9,10,11,12,13,14], [0,1,2,3,4,5,6,7,8,9,10,11,12,13,14,15], [0,1,2,3,4,5,6,7,8,9,10,11,12,13,14,15,16]] (by decide) ?_
   refine DF.op 0 [] 18 rfl rfl rfl (.free rfl (NOp.of (by exact g_fa_ptr rfl rfl rfl rfl rfl))) rfl ?_
   refine DF.op 1 [0] 18 rfl rfl rfl (.free rfl (NOp.of (by exact g_load_ptr rfl rfl rfl rfl rfl))) rfl ?_
   refine DF.op 2 [0,1] 18 rfl rfl rfl (.free rfl (NOp.of (by exact g_cmp rfl rfl rfl))) rfl ?_
   refine DF.op 3 [0,1,2] 18 rfl rfl rfl (.free rfl (NOp.of (by exact mv1 rfl))) rfl ?_
   refine DF.caseD 3 rfl (fun h1 => ?_) (fun h1 => ?_)
   ·refine DF.op (ids := []) 4 [0,1,2,3] 18 rfl rfl rfl (.no rfl rfl rfl rfl rfl rfl) rfl ?_
    refine DF.op (ids := []) 5 [0,1,2,3,4] 18 rfl rfl rfl (.no rfl rfl rfl rfl rfl rfl) rfl ?_
    refine DF.op (ids := []) 6 [0,1,2,3,4,5] 18 rfl rfl rfl (.no rfl rfl rfl rfl rfl rfl) rfl ?_
    refine DF.op (ids := []) 7 [0,1,2,3,4,5,6] 18 rfl rfl rfl (.noU rfl rfl rfl rfl) rfl ?_
    refine DF.op (ids := []) 8 [0,1,2,3,4,5,6] 18 rfl rfl rfl (.noU rfl rfl rfl rfl) rfl ?_
    refine DF.op (ids := []) 9 [0,1,2,3,4,5,6,8] 18 rfl rfl rfl (.noU rfl rfl rfl rfl) rfl ?_
    refine DF.op (ids := []) 10 (List.range 10) 18 rfl rfl rfl (.noU rfl rfl rfl rfl) rfl ?_
    refine DF.op (ids := []) 11 (List.range 11) 18 rfl rfl rfl (.noU rfl rfl rfl rfl) rfl ?_
    refine DF.op (ids := []) 12 (List.range 12) 18 rfl rfl rfl (.noU rfl rfl rfl rfl) rfl ?_
    refine DF.op (ids := []) 13 [0,1,2,3,4,5,6] 18 rfl rfl rfl (.noU rfl rfl rfl rfl) rfl ?_
    refine DF.op (ids := []) 14 [0,1,2,3,4,5,6,13] 18 rfl rfl rfl (.noU rfl rfl rfl rfl) rfl ?_
    refine DF.op (ids := []) 15 (List.range 15) 18 rfl rfl rfl (.noU rfl rfl rfl rfl) rfl ?_
    refine DF.op (ids := []) 16 (List.range 16) 18 rfl rfl rfl (.no rfl rfl rfl rfl rfl rfl) rfl ?_
    refine DF.op 17 (List.range 17) 18 rfl rfl rfl (.free rfl (NOp.of (by exact g_pickT (r := .d _) rfl rfl))) rfl ?_
    refine DF.fin (ps := [(7,8),(7,9),(7,13),(7,14),(8,7),(8,13),(8,14),(9,7),(9,13),(9,14),(10,13),(10,14),(11,13),(11,14),(12,13),(12,14),(13,7),(13,8),(13,9),(13,10),(13,11),(13,12),(14,7),(14,8),(14,9),(14,10),(14,11),(14,12)]) 18 rfl (by decide +kernel) (by decide +kernel) (by rfl) ?_
    refine th_n ?_
    refine AC.condT rfl ?_
    refine AC.seq (AC.region ?_)
    refine AL.p (by exact as1 rfl) rfl ?_
    refine AL.nil (th_n (AC.ret (ib_r (th_r (th_r (ib_r (th_r (bq_r ?_))))))))
    have e : timeK run k = false := timeK_no (by exact .inl h1)
    exact ret1 rfl (by unfold timesB; rw [allK_no hk1 e, Bool.false_and])
   ·refine DF.op 4 [0,1,2,3] 18 rfl rfl rfl (.yes rfl rfl rfl rfl (NOp.of (by exact mv1 rfl))) rfl ?_
    refine DF.op 5 [0,1,2,3,4] 18 rfl rfl rfl (.yes rfl rfl rfl rfl (NOp.of (by exact g_cmp rfl rfl rfl))) rfl ?_
    refine DF.op 6 [0,1,2,3,4,5] 18 rfl rfl rfl (.yes rfl rfl rfl rfl (NOp.of (by exact mv1 rfl))) rfl ?_
    refine DF.caseD 6 rfl (fun h2 => ?_) (fun h2 => ?_)
    ·refine DF.op 7 [0,1,2,3,4,5,6] 18 rfl rfl rfl (.yes rfl rfl rfl rfl (NOp.of (by exact mv1 rfl))) rfl ?_
     refine DF.op 8 [0,1,2,3,4,5,6] 18 rfl rfl rfl (.yes rfl rfl rfl rfl (NOp.of (by exact mv1 rfl))) rfl ?_
     refine DF.op 9 [0,1,2,3,4,5,6,8] 18 rfl rfl rfl (.yes rfl rfl rfl rfl (NOp.of (by exact g_arith rfl rfl rfl (by exact wrap_i64 (by omega))))) rfl ?_
     refine DF.op 10 (List.range 10) 18 rfl rfl rfl (.yes rfl rfl rfl rfl (NOp.of (by exact g_ia_view (i := k - 1) rfl rfl rfl rfl rfl (by omega) (hpre (by omega))))) rfl ?_
     refine DF.op 11 (List.range 11) 18 rfl rfl rfl (.yes rfl rfl rfl rfl (NOp.of (by exact g_fa_ref rfl rfl rfl rfl rfl rfl))) rfl ?_
     refine DF.op 12 (List.range 12) 18 rfl rfl rfl (.yes rfl rfl rfl rfl (NOp.of (by exact g_load_ref rfl rfl rfl))) rfl ?_
     refine DF.op 13 [0,1,2,3,4,5,6] 18 rfl rfl rfl (.yes rfl rfl rfl rfl (NOp.of (by exact g_fa_ptr rfl rfl rfl rfl rfl))) rfl ?_
     refine DF.op 14 [0,1,2,3,4,5,6,13] 18 rfl rfl rfl (.yes rfl rfl rfl rfl (NOp.of (by exact g_load_ptr rfl rfl rfl rfl rfl))) rfl ?_
     refine DF.op 15 (List.range 15) 18 rfl rfl rfl (.yes rfl rfl rfl rfl (NOp.of (by exact g_cmp rfl rfl rfl))) rfl ?_
     refine DF.op 16 (List.range 16) 18 rfl rfl rfl (.yes rfl rfl rfl rfl (NOp.of (by exact g_pickT (r := .d _) rfl rfl))) rfl ?_
     refine DF.op 17 (List.range 17) 18 rfl rfl rfl (.free rfl (NOp.of (by exact g_pickF (r := .d _) rfl rfl))) rfl ?_
     refine DF.fin (ps := [(7,8),(7,9),(7,13),(7,14),(8,7),(8,13),(8,14),(9,7),(9,13),(9,14),(10,13),(10,14),(11,13),(11,14),(12,13),(12,14),(13,7),(13,8),(13,9),(13,10),(13,11),(13,12),(14,7),(14,8),(14,9),(14,10),(14,11),(14,12)]) 18 rfl (by decide +kernel) (by decide +kernel) (by rfl) ?_
     refine th_n ?_
     refine AC.condD rfl (fun h3 => ?_) (fun h3 => ?_)
     ·refine AC.seq (AC.region ?_)
      refine AL.p (by exact as1 rfl) rfl ?_
      refine AL.nil (th_n (AC.ret (ib_r (th_r (th_r (ib_r (th_r (bq_r ?_))))))))
      have e : timeK run k = false := timeK_no (by exact .inr ⟨by omega, h3⟩)
      exact ret1 rfl (by unfold timesB; rw [allK_no hk1 e, Bool.false_and])
     ·refine AC.skip (ib_n (th_n (AC.region ?_)))
      refine AL.p (by exact g_arith rfl rfl rfl (by exact wrap_i64 (by omega))) rfl ?_
      refine AL.p (by exact mv1 rfl) rfl ?_
      refine AL.nil (th_n ?_)
      have e : timeK run k = true := timeK_yes h1 (fun q => by exact h3)
      exact ⟨k + 1, ⟨by omega, fun j hj2 => by rcases Nat.lt_succ_iff_lt_or_eq.1 hj2 with h | rfl; exact hall j h; exact e⟩, by omega, Weak.ren _ [] hC rfl (by repeat (first | exact True.intro | refine And.intro ?_ ?_ | exact DLead.same)) (by repeat (exact True.intro)) rfl rfl rfl⟩
    ·refine DF.op (ids := []) 7 [0,1,2,3,4,5,6] 18 rfl rfl rfl (.no rfl rfl rfl rfl rfl rfl) rfl ?_
     refine DF.op (ids := []) 8 [0,1,2,3,4,5,6] 18 rfl rfl rfl (.no rfl rfl rfl rfl rfl rfl) rfl ?_
     refine DF.op (ids := []) 9 [0,1,2,3,4,5,6,8] 18 rfl rfl rfl (.no rfl rfl rfl rfl rfl rfl) rfl ?_
     refine DF.op (ids := []) 10 (List.range 10) 18 rfl rfl rfl (.no rfl rfl rfl rfl rfl rfl) rfl ?_
     refine DF.op (ids := []) 11 (List.range 11) 18 rfl rfl rfl (.no rfl rfl rfl rfl rfl rfl) rfl ?_
     refine DF.op (ids := []) 12 (List.range 12) 18 rfl rfl rfl (.no rfl rfl rfl rfl rfl rfl) rfl ?_
     refine DF.op (ids := []) 13 [0,1,2,3,4,5,6] 18 rfl rfl rfl (.no rfl rfl rfl rfl rfl rfl) rfl ?_
     refine DF.op (ids := []) 14 [0,1,2,3,4,5,6,13] 18 rfl rfl rfl (.no rfl rfl rfl rfl rfl rfl) rfl ?_
     refine DF.op (ids := []) 15 (List.range 15) 18 rfl rfl rfl (.no rfl rfl rfl rfl rfl rfl) rfl ?_
     refine DF.op 16 (List.range 16) 18 rfl rfl rfl (.yes rfl rfl rfl rfl (NOp.of (by exact g_pickF (r := .d _) rfl rfl))) rfl ?_
     refine DF.op 17 (List.range 17) 18 rfl rfl rfl (.free rfl (NOp.of (by exact g_pickF (r := .d _) rfl rfl))) rfl ?_
     refine DF.fin (ps := [(7,8),(7,9),(7,13),(7,14),(8,7),(8,13),(8,14),(9,7),(9,13),(9,14),(10,13),(10,14),(11,13),(11,14),(12,13),(12,14),(13,7),(13,8),(13,9),(13,10),(13,11),(13,12),(14,7),(14,8),(14,9),(14,10),(14,11),(14,12)]) 18 rfl (by decide +kernel) (by decide +kernel) (by rfl) ?_
     refine th_n ?_
     refine AC.condF rfl ?_
     refine AC.skip (ib_n (th_n (AC.region ?_)))
     refine AL.p (by exact g_arith rfl rfl rfl (by exact wrap_i64 (by omega))) rfl ?_
     refine AL.p (by exact mv1 rfl) rfl ?_
     refine AL.nil (th_n ?_)
     have e : timeK run k = true := timeK_yes h1 (fun q => by (exfalso; omega))
     exact ⟨k + 1, ⟨by omega, fun j hj2 => by rcases Nat.lt_succ_iff_lt_or_eq.1 hj2 with h | rfl; exact hall j h; exact e⟩, by omega, Weak.ren _ [] hC rfl (by repeat (first | exact True.intro | refine And.intro ?_ ?_ | exact DLead.same)) (by repeat (exact True.intro)) rfl rfl rfl⟩
  ·refine AC.exit (th_e (th_e (ib_y (th_n (AC.seq (AC.region ?_))))))
   refine AL.p (by exact mv1 rfl) rfl ?_
   refine AL.p (by exact g_len_view (k := run.length) rfl rfl (tfL_len _)) rfl ?_
   refine AL.p (by exact g_cmp rfl rfl rfl) rfl ?_
   refine AL.p (by exact as1 rfl) rfl ?_
   refine AL.nil (th_n (AC.ret (bq_r ?_)))
   exact ret1 rfl (by unfold timesB; rw [allK_yes (fun j hj => hall j (by omega)), Bool.true_and])
theorem en_l23Times : Enters Tryz.prog 34 := enters_of Tryz.func34 rfl rfl
end Go.Proofs.YtmacodlgmebikaaGreatDoor
