
/- Contracts of the functions of the program and of the reference, each proved by a walk through its code. -/
import Derived.WalkKit
import Derived.WalkSpells
import Derived.WalkLawsBesides
import Derived.Deep.Draws
import Derived.Lib.Hide
import Derived.Maps.AppendAt
import Derived.OwnWalk
import Derived.Deep.MidRow
import Derived.Laws.ResultCell
import Derived.Deep.Upon
import Derived.Great.FillDense
import Derived.Laws.Tables
import Derived.Laws.BytesArg
import Derived.Laws.MakeOwn
import Derived.Great.BuildSlice
import Derived.ArgAppend
import Derived.Deep.AppendSrc
import Derived.Test.YtijnganhpnmhaaaGreatProg
import Derived.KernelRfl
import Derived.Orders
import Derived.Laws.IdiomStrings
import Derived.Lib.AppendZerosOnto
import Derived.ProofKit
import Derived.OpenShut
import Derived.Laws.IdiomCopy
import Derived.Shelf.Bits.Mul64
import Derived.Test.YtijnganhpnmhaaaGreatRows
import Derived.Laws.StructEq
import Derived.ChangeKeysEq
import Derived.Below
import Derived.Laws.Small
import Derived.Test.YtijnganhpnmhaaaGreatGTm7
set_option linter.all false
set_option maxRecDepth 20000
namespace Go.Proofs.YtijnganhpnmhaaaGreat
open Go.RowKit
def runQ (N : Net) (l : List Dl) : List Int → Ck → List Tf → List Tf × Ck
 | [], c, acc => (acc, c)
 | d :: ds, c, acc => if (stepQ N c l d).2.2 = true then runQ N l ds (stepQ N c l d).2.1 (acc ++ [(stepQ N c l d).1]) else (acc, (stepQ N c l d).2.1)
theorem runQ_len (N : Net) (l : List Dl) : ∀ (ds : List Int) (c : Ck) (acc : List Tf), (runQ N l ds c acc).1.length ≤ acc.length + ds.length
 | [], c, acc => Nat.le_refl _
 | d :: ds, c, acc => by
  rw [runQ]
  split
  ·have := runQ_len N l ds (stepQ N c l d).2.1 (acc ++ [(stepQ N c l d).1])
   rw [List.length_append] at this
   simp only [List.length_cons, List.length_nil] at this ⊢
   omega
  ·dsimp only; omega
def drawsB (ds : List Int) : Bool := ds.all fun d => decide (0 ≤ d) && decide (d ≤ 999)
theorem drawsB_in {ds : List Int} (h : drawsB ds = true) : ∀ d, d ∈ ds → 0 ≤ d ∧ d ≤ 999 := fun d hd => by
 have := List.all_eq_true.1 h d hd
 simpa using this
def simOk (s : Stg) (l : List Dl) (ds : List Int) : Bool := validD s l && (!decide ((ds.length : Int) > 60) && drawsB ds)
def simR (s : Stg) (l : List Dl) (ds : List Int) : List Tf × List UInt8 × Bool :=
 if simOk s l ds = true then ((runQ s.net l ds (newK s) []).1, (runQ s.net l ds (newK s) []).2.mark, true) else ([], [], false)
set_option maxHeartbeats 1000000 in
theorem l1All_spec (ds : List Int) (lo hi : Int) (hl : ds.length ≤ 2000000) : ASpec Tryz.prog 30 [.d (vI ds), aI lo, aI hi] [] (Pure1 (aT (ds.all fun d => decide (lo ≤ d) && decide (d ≤ hi)))) := by
 refine ASpec.of Tryz.func30 rfl rfl fun C hC => ?_
 refine AC.seq ?_
 refine AC.region ?_
 refine AL.p (by exact as1 rfl) rfl ?_
 refine AL.nil ?_
 refine th_n ?_
 refine AC.seq ?_
 refine AC.seq ?_
 refine AC.region ?_
 refine AL.p (by exact mv1 rfl) rfl ?_
 refine AL.p (by exact g_len_view rfl rfl (by exact List.length_map _)) rfl ?_
 refine AL.p (by exact mv1 rfl) rfl ?_
 refine AL.nil ?_
 refine th_n ?_
 refine AC.block ?_
 refine AC.loop (ι := Nat) (fun k => ⟨21, 100, [(1, aI lo), (2, aI hi), (9, .d (vI ds)), (10, aI ds.length), (11, aI k)], []⟩) (fun k => k ≤ ds.length ∧ ∀ j (hj : j < ds.length), j < k → (decide (lo ≤ ds[j]) && decide (ds[j] ≤ hi)) = true) (fun k => ds.length - k) (0) ?_ (⟨Nat.zero_le _, fun j _ hj => by omega⟩) ?_
 ·refine Weak.ren _ [] hC rfl ?_ ?_ rfl rfl rfl <;> repeat (first | exact True.intro | refine And.intro ?_ ?_ | exact DLead.same)
 ·intro k ⟨hk, hall⟩
  refine AC.seq ?_
  refine AC.region ?_
  refine AL.p (by exact g_cmp rfl rfl rfl) rfl ?_
  refine AL.nil ?_
  refine th_n ?_
  refine AC.seq ?_
  refine AC.condD rfl (fun h0 => ?_) (fun h0 => ?_)
  ·refine AC.skip ?_
   refine th_n ?_
   refine AC.seq ?_
   refine AC.block ?_
   refine AC.seq ?_
   have hk1 : k < ds.length := by omega
   have hget := ints_at hk1
   have hL := l1In_spec ds[k] lo hi
   obtain ⟨b, hb⟩ : ∃ b, b = (decide (lo ≤ ds[k]) && decide (ds[k] ≤ hi)) := ⟨_, rfl⟩
   rw [← hb] at hL
   refine AC.region ?_
   refine AL.p (by exact g_ia_view rfl rfl rfl rfl rfl (by rfl) (by assumption)) rfl ?_
   refine AL.p (by exact g_load_ref rfl rfl rfl) rfl ?_
   refine AL.p (by exact as1 rfl) rfl ?_
   refine AL.nil ?_
   refine th_n ?_
   refine AC.seq ?_
   refine AC.region ?_
   refine AL.p (by exact mv1 rfl) rfl ?_
   refine AL.p (by exact mv1 rfl) rfl ?_
   refine AL.p (by exact mv1 rfl) rfl ?_
   refine AL.q (by exact h_pure en_l1In rfl rfl (by repeat (first | exact rfl | exact DLead.same | refine ⟨_, _, rfl, ?_, ?_⟩)) hL rfl) rfl ?_
   refine AL.p (by exact g_not rfl) rfl ?_
   refine AL.nil ?_
   refine th_n ?_
   refine AC.condB rfl (fun h1 => ?_) (fun h1 => ?_)
   ·refine AC.seq ?_
    refine AC.region ?_
    refine AL.p (by exact as1 rfl) rfl ?_
    refine AL.nil ?_
    refine th_n ?_
    refine AC.ret ?_
    refine ib_r ?_
    refine th_r ?_
    refine th_r ?_
    refine ib_r ?_
    refine th_r ?_
    refine bq_r ?_
    exact ret1 rfl (by rw [List.all_eq_false.2 ⟨_, List.getElem_mem hk1, by rw [← hb, show b = false by simpa using h1]; simp⟩])
   ·refine AC.skip ?_
    refine ib_n ?_
    refine th_n ?_
    refine AC.region ?_
    refine AL.p (by exact g_arith rfl rfl rfl (by exact wrap_i64 (by omega))) rfl ?_
    refine AL.p (by exact mv1 rfl) rfl ?_
    refine AL.nil ?_
    refine th_n ?_
    exact ⟨k + 1, ⟨by omega, fun j hj hj2 => by rcases Nat.lt_succ_iff_lt_or_eq.1 hj2 with h | rfl; exact hall j hj h; exact hb.symm.trans (by simpa using h1)⟩, by omega, Weak.ren _ [] hC rfl (by repeat (first | exact True.intro | refine And.intro ?_ ?_ | exact DLead.same)) (by repeat (exact True.intro)) rfl rfl rfl⟩
  ·refine AC.exit ?_
   refine th_e ?_
   refine th_e ?_
   refine ib_y ?_
   refine th_n ?_
   refine AC.seq ?_
   refine AC.region ?_
   refine AL.p (by exact as1 rfl) rfl ?_
   refine AL.nil ?_
   refine th_n ?_
   refine AC.ret ?_
   refine bq_r ?_
   exact ret1 rfl (by rw [List.all_eq_true.2 (fun x hx => by obtain ⟨j, hj, rfl⟩ := List.getElem_of_mem hx; exact hall j hj (by omega))])
theorem en_l1All : Enters Tryz.prog 30 := enters_of Tryz.func30 rfl rfl
set_option maxHeartbeats 8000000 in
theorem l23Run_spec (s : Stg) (l : List Dl) (ds : List Int) (hB : StgB s) (hv : validD s l = true) (hl : ds.length ≤ 60) (hds : ∀ d, d ∈ ds → 0 ≤ d ∧ d ≤ 999) : ASpec Tryz.prog 31 [stgA s, .d (vDls l), .d (vI ds)] [] (Fun1 (.tup [.own 0 (runQ s.net l ds (newK s) []).1.length, aS (bstr (runQ s.net l ds (newK s) []).2.mark)]) [(0, .arr 49 2 (tfL (runQ s.net l ds (newK s) []).1))]) := by
 obtain ⟨hg, hd⟩ := Dok.of hv
 have hgn := (goodS_bits hg).1
 have hK := newK_I hg
 have hN := l23New_spec s hB hg
 obtain ⟨Z, hZ⟩ : ∃ Z, Z = runQ s.net l ds (newK s) [] := ⟨_, rfl⟩
 rw [← hZ]
 obtain ⟨K, hKK⟩ : ∃ K, K = newK s := ⟨_, rfl⟩
 rw [← hKK] at hK hN hZ
 clear hKK
 refine ASpec.of Tryz.func31 rfl rfl fun C hC => ?_
 refine AC.seq ?_
 refine AC.region ?_
 refine AL.q (by exact h_boxF rfl rfl) rfl ?_
 refine AL.p (by exact as1 rfl) rfl ?_
 refine AL.p (by exact as1 rfl) rfl ?_
 refine AL.nil ?_
 refine th_n ?_
 refine AC.seq ?_
 refine AC.region ?_
 refine AL.p (by exact g_load_refN rfl rfl rfl rfl) rfl ?_
 refine AL.q (by exact h_fun (cs := []) en_l23New rfl rfl (by repeat (first | exact rfl | exact DLead.same | refine ⟨_, _, rfl, ?_, ?_⟩ | refine ⟨_, rfl, ?_⟩)) (by repeat (exact True.intro)) hN rfl rfl rfl rfl) rfl ?_
 refine AL.p (by exact as3 rfl) rfl ?_
 refine AL.nil ?_
 refine th_n ?_
 refine AC.seq ?_
 refine AC.region ?_
 refine AL.p (by exact as1 rfl) rfl ?_
 refine AL.nil ?_
 refine th_n ?_
 refine AC.seq ?_
 refine AC.seq ?_
 refine AC.region ?_
 refine AL.p (by exact mv1 rfl) rfl ?_
 refine AL.p (by exact g_len_view rfl rfl (by exact List.length_map _)) rfl ?_
 refine AL.p (by exact mv1 rfl) rfl ?_
 refine AL.nil ?_
 refine th_n ?_
 refine AC.block ?_
 refine AC.loop (ι := Nat × Ck × List Tf) (fun x => ⟨41, 900, [(1, .d (vDls l)), (8, .ptr 100 0), (9, .own 102 x.2.2.length), (16, .d (vI ds)), (17, aI ds.length), (18, aI x.1)], chL (lkChs s.net x.2.1 100 101) ++ [(102, some (.arr 49 2 (tfL x.2.2)))]⟩) (fun x => x.1 ≤ ds.length ∧ CkI s.net x.2.1 (100 * x.1) ∧ x.2.2.length ≤ x.1 ∧ runQ s.net l (ds.drop x.1) x.2.1 x.2.2 = Z) (fun x => ds.length - x.1) ((0, K, [])) ?_ (⟨Nat.zero_le _, hK, Nat.le_refl _, hZ.symm⟩) ?_
 ·exact (Weak.nilOwn (i := 9) (e := 49) (sz := 2) rfl (by decide)).trans (Weak.ren _ [(100, _), (101, _), (102, _)] hC rfl (by repeat (first | exact True.intro | refine And.intro ?_ ?_ | exact DLead.same | exact rfl | refine ⟨_, rfl, ?_⟩)) (by repeat (first | exact True.intro | refine And.intro ?_ ?_ | exact DLead.same | exact rfl | refine ⟨_, _, rfl, rfl, ?_⟩ | refine ⟨_, rfl, ?_⟩ | refine ⟨_, _, rfl, ?_, ?_⟩)) rfl rfl rfl)
 ·rintro ⟨k, c, acc⟩ ⟨hk, hI, hal, hrun⟩
  dsimp only at hk hI hal hrun ⊢
  refine AC.seq ?_
  refine AC.region ?_
  refine AL.p (by exact g_cmp rfl rfl rfl) rfl ?_
  refine AL.nil ?_
  refine th_n ?_
  refine AC.seq ?_
  refine AC.condD rfl (fun h0 => ?_) (fun h0 => ?_)
  ·refine AC.skip ?_
   refine th_n ?_
   refine AC.seq ?_
   refine AC.block ?_
   refine AC.seq ?_
   have hk1 : k < ds.length := by omega
   have hget := ints_at hk1
   have hdr := hds _ (List.getElem_mem hk1)
   have hSt := lkStep_spec s.net c l ds[k] (100 * k) hB.n hgn hI hd (by omega) hdr
   have hI2 := stepQ_I hI hd (by omega) hdr
   have hdrop : ds.drop k = ds[k] :: ds.drop (k + 1) := List.drop_eq_getElem_cons hk1
   rw [hdrop, runQ] at hrun
   obtain ⟨S, hS⟩ : ∃ S, S = stepQ s.net c l ds[k] := ⟨_, rfl⟩
   rw [← hS] at hSt hI2 hrun
   refine AC.region ?_
   refine AL.p (by exact g_ia_view rfl rfl rfl rfl rfl (by rfl) (by assumption)) rfl ?_
   refine AL.p (by exact g_load_ref rfl rfl rfl) rfl ?_
   refine AL.p (by exact as1 rfl) rfl ?_
   refine AL.nil ?_
   refine th_n ?_
   refine AC.seq ?_
   refine AC.region ?_
   refine AL.p (by exact mv3 rfl) rfl ?_
   refine AL.p (by exact mv1 rfl) rfl ?_
   refine AL.p (by exact mv1 rfl) rfl ?_
   refine AL.q (by exact h_fun (cs := [100, 101]) en_lkStep rfl rfl (by repeat (first | exact rfl | exact DLead.same | refine ⟨_, _, rfl, ?_, ?_⟩ | refine ⟨_, rfl, ?_⟩)) (by repeat (first | exact True.intro | refine And.intro ?_ ?_ | exact DLead.same | exact rfl | refine ⟨_, _, rfl, rfl, ?_⟩ | refine ⟨_, rfl, ?_⟩ | refine ⟨_, _, rfl, ?_, ?_⟩)) hSt rfl rfl rfl rfl) rfl ?_
   refine AL.p (by exact mv5 rfl) rfl ?_
   refine AL.p (by exact g_extract (r := .agg _) rfl rfl) rfl ?_
   refine AL.p (by exact g_extract (r := .d _) rfl rfl) rfl ?_
   refine AL.q (by exact h_alloc rfl) rfl ?_
   refine AL.q (by exact h_store rfl rfl rfl rfl rfl rfl) rfl ?_
   refine AL.p (by exact as1 rfl) rfl ?_
   refine AL.nil ?_
   refine th_n ?_
   refine AC.seq ?_
   refine AC.seq ?_
   refine AC.region ?_
   refine AL.p (by exact mv1 rfl) rfl ?_
   refine AL.p (by exact g_not rfl) rfl ?_
   refine AL.nil ?_
   refine th_n ?_
   refine AC.condB rfl (fun h1 => ?_) (fun h1 => ?_)
   ·refine AC.exit ?_
    refine th_e ?_
    refine ib_no rfl ?_
    refine th_e ?_
    refine th_e ?_
    refine ib_y ?_
    refine th_n ?_
    refine AC.seq ?_
    refine AC.drawn' mixed_ok [[], [], [1], [1,2], [1,2,3], [0], [0,1,2,3,4,5]] (by decide) ?_
    refine DF.op 0 [] 7 rfl rfl rfl (.free rfl (NOp.of (by exact mv2 rfl))) rfl ?_
    refine DF.op 1 [] 7 rfl rfl rfl (.free rfl (NOp.of (by exact mv3 rfl))) rfl ?_
    refine DF.op 2 [1] 7 rfl rfl rfl (.free rfl (NOp.of (by exact g_nilP rfl))) rfl ?_
    refine DF.op 3 [1,2] 7 rfl rfl rfl (.free rfl (NOp.of (by exact g_fa_ptr rfl rfl rfl rfl rfl))) rfl ?_
    refine DF.op 4 [1,2,3] 7 rfl rfl rfl (.free rfl (NOp.of (by exact g_load_ptr rfl rfl rfl rfl rfl))) rfl ?_
    refine DF.op 5 [0] 7 rfl rfl rfl (.free rfl (NOp.of (by exact as2 rfl))) rfl ?_
    refine DF.op 6 [0,1,2,3,4,5] 7 rfl rfl rfl (.free rfl (NOp.of (by exact as1 rfl))) rfl ?_
    refine DF.fin (ps := [(0,1),(0,2),(0,3),(0,4),(1,0),(1,5),(2,0),(2,5),(3,0),(3,5),(4,0),(4,5),(5,1),(5,2),(5,3),(5,4)]) 7 rfl (by decide +kernel) (by decide +kernel) (by rfl) ?_
    refine th_n ?_
    refine AC.ret ?_
    refine bq_r ?_
    (have q1 : S.2.2 = false := (by simpa using h1); rw [if_neg (by rw [q1]; simp)] at hrun; rw [← hrun]; exact retN [(0, 102)] rfl (by repeat (first | exact rfl | exact DLead.same | refine ⟨_, _, rfl, ?_, ?_⟩ | refine ⟨_, rfl, ?_⟩)) (by repeat (first | exact True.intro | refine And.intro ?_ ?_ | exact rfl | refine ⟨_, _, rfl, rfl, ?_⟩)) rfl rfl)
   ·refine AC.skip ?_
    refine th_n ?_
    refine AC.region ?_
    refine AL.p (by exact mv2 rfl) rfl ?_
    refine AL.p (by exact g_load_ptrN rfl rfl rfl rfl rfl) rfl ?_
    refine AL.q (by exact h_litF rfl rfl rfl rfl rfl rfl rfl rfl) rfl ?_
    refine AL.q (by exact h_appendF acc [S.1] (.own rfl rfl (tfL_len _).symm) (.view rfl) (by rw [List.length_append]; simp only [List.length_cons, List.length_nil]; omega) (by simp)) rfl ?_
    refine AL.p (by exact as2 rfl) rfl ?_
    refine AL.nil ?_
    refine ib_n ?_
    refine th_n ?_
    refine AC.region ?_
    refine AL.p (by exact g_arith rfl rfl rfl (by exact wrap_i64 (by omega))) rfl ?_
    refine AL.p (by exact mv1 rfl) rfl ?_
    refine AL.nil ?_
    refine th_n ?_
    have q1 : S.2.2 = true := by simpa using h1
    rw [if_pos q1] at hrun
    exact ⟨(k + 1, S.2.1, acc ++ [S.1]), ⟨by omega, hI2.mono (by omega), by rw [List.length_append]; simp only [List.length_cons, List.length_nil]; omega, hrun⟩, by dsimp only; omega, Weak.ren _ [(100, 100), (101, 101), (102, _)] hC rfl (by repeat (first | exact True.intro | refine And.intro ?_ ?_ | exact DLead.same | exact rfl | refine ⟨_, rfl, ?_⟩)) (by repeat (first | exact True.intro | refine And.intro ?_ ?_ | exact DLead.same | exact rfl | refine ⟨_, _, rfl, rfl, ?_⟩ | refine ⟨_, rfl, ?_⟩ | refine ⟨_, _, rfl, ?_, ?_⟩)) rfl rfl rfl⟩
  ·refine AC.exit ?_
   refine th_e ?_
   refine th_e ?_
   refine ib_y ?_
   refine th_n ?_
   refine AC.seq ?_
   refine AC.drawn' mixed_ok [[], [], [1], [1,2], [1,2,3], [0], [0,1,2,3,4,5]] (by decide) ?_
   refine DF.op 0 [] 7 rfl rfl rfl (.free rfl (NOp.of (by exact mv2 rfl))) rfl ?_
   refine DF.op 1 [] 7 rfl rfl rfl (.free rfl (NOp.of (by exact mv3 rfl))) rfl ?_
   refine DF.op 2 [1] 7 rfl rfl rfl (.free rfl (NOp.of (by exact g_nilP rfl))) rfl ?_
   refine DF.op 3 [1,2] 7 rfl rfl rfl (.free rfl (NOp.of (by exact g_fa_ptr rfl rfl rfl rfl rfl))) rfl ?_
   refine DF.op 4 [1,2,3] 7 rfl rfl rfl (.free rfl (NOp.of (by exact g_load_ptr rfl rfl rfl rfl rfl))) rfl ?_
   refine DF.op 5 [0] 7 rfl rfl rfl (.free rfl (NOp.of (by exact as2 rfl))) rfl ?_
   refine DF.op 6 [0,1,2,3,4,5] 7 rfl rfl rfl (.free rfl (NOp.of (by exact as1 rfl))) rfl ?_
   refine DF.fin (ps := [(0,1),(0,2),(0,3),(0,4),(1,0),(1,5),(2,0),(2,5),(3,0),(3,5),(4,0),(4,5),(5,1),(5,2),(5,3),(5,4)]) 7 rfl (by decide +kernel) (by decide +kernel) (by rfl) ?_
   refine th_n ?_
   refine AC.ret ?_
   refine bq_r ?_
   (have e : k = ds.length := (by omega); rw [e, List.drop_length, runQ] at hrun; rw [← hrun]; exact retN [(0, 102)] rfl (by repeat (first | exact rfl | exact DLead.same | refine ⟨_, _, rfl, ?_, ?_⟩ | refine ⟨_, rfl, ?_⟩)) (by repeat (first | exact True.intro | refine And.intro ?_ ?_ | exact rfl | refine ⟨_, _, rfl, rfl, ?_⟩)) rfl rfl)
theorem en_l23Run : Enters Tryz.prog 31 := enters_of Tryz.func31 rfl rfl
set_option maxHeartbeats 8000000 in
theorem sSim_spec (s : Stg) (l : List Dl) (ds : List Int) (hB : StgB s) (hl : DlB l) (hd : ds.length ≤ 100000) : ASpec Tryz.prog 6 [stgA s, .d (vDls l), .d (vI ds)] [] (Fun1 (.tup [.own 0 (simR s l ds).1.length, aS (bstr (simR s l ds).2.1), aT (simR s l ds).2.2]) [(0, .arr 49 2 (tfL (simR s l ds).1))]) := by
 have hV := l23Good_spec s l hB hl
 have hA := l1All_spec ds 0 999 (by omega)
 have hR : simR s l ds = if simOk s l ds = true then ((runQ s.net l ds (newK s) []).1, (runQ s.net l ds (newK s) []).2.mark, true) else ([], [], false) := rfl
 have hO : simOk s l ds = (validD s l && (!decide ((ds.length : Int) > 60) && drawsB ds)) := rfl
 have hRun : validD s l = true → ds.length ≤ 60 → drawsB ds = true → _ := fun h1 h2 h3 => l23Run_spec s l ds hB h1 h2 (drawsB_in h3)
 rw [show (ds.all fun d => decide (0 ≤ d) && decide (d ≤ 999)) = drawsB ds from rfl] at hA
 obtain ⟨b1, hb1⟩ : ∃ b, b = validD s l := ⟨_, rfl⟩
 obtain ⟨b2, hb2⟩ : ∃ b, b = drawsB ds := ⟨_, rfl⟩
 rw [← hb1] at hV hO hRun
 rw [← hb2] at hA hO hRun
 rw [hO] at hR
 obtain ⟨Z, hZ⟩ : ∃ Z, Z = runQ s.net l ds (newK s) [] := ⟨_, rfl⟩
 rw [← hZ] at hR hRun
 obtain ⟨R, hRR⟩ : ∃ R, R = simR s l ds := ⟨_, rfl⟩
 rw [← hRR] at hR ⊢
 clear hb1 hb2 hZ hRR hO
 refine ASpec.of Tryz.func6 rfl rfl fun C hC => ?_
 refine AC.seq ?_
 refine AC.region ?_
 refine AL.q (by exact h_boxF rfl rfl) rfl ?_
 refine AL.p (by exact as1 rfl) rfl ?_
 refine AL.p (by exact as1 rfl) rfl ?_
 refine AL.p (by exact as1 rfl) rfl ?_
 refine AL.nil ?_
 refine th_n ?_
 refine AC.seq ?_
 refine AC.seq ?_
 refine AC.region ?_
 refine AL.p (by exact g_load_refN rfl rfl rfl rfl) rfl ?_
 refine AL.p (by exact mv1 rfl) rfl ?_
 refine AL.q (by exact h_pure en_l23Good rfl rfl (by repeat (first | exact rfl | exact DLead.same | refine ⟨_, _, rfl, ?_, ?_⟩ | refine ⟨_, rfl, ?_⟩)) hV rfl) rfl ?_
 refine AL.p (by exact g_not rfl) rfl ?_
 refine AL.p (by exact mv1 rfl) rfl ?_
 refine AL.caseGB rfl rfl (fun h0 => ?_) (fun h0 => ?_)
 ·refine AL.not rfl rfl rfl rfl rfl ?_
  refine AL.not rfl rfl rfl rfl rfl ?_
  refine AL.not rfl rfl rfl rfl rfl ?_
  refine AL.p (by exact g_pickT (r := .d _) rfl rfl) rfl ?_
  refine AL.p (by exact mv1 rfl) rfl ?_
  refine AL.not rfl rfl rfl rfl rfl ?_
  refine AL.not rfl rfl rfl rfl rfl ?_
  refine AL.not rfl rfl rfl rfl rfl ?_
  refine AL.p (by exact g_pickT (r := .d _) rfl rfl) rfl ?_
  refine AL.nil ?_
  refine th_n ?_
  refine AC.condT rfl ?_
  refine AC.seq ?_
  refine AC.region ?_
  refine AL.p (by exact as1 rfl) rfl ?_
  refine AL.p (by exact as1 rfl) rfl ?_
  refine AL.p (by exact as1 rfl) rfl ?_
  refine AL.nil ?_
  refine th_n ?_
  refine AC.weak (Weak.nilOwn (i := 6) (e := 49) (sz := 2) rfl (by decide)) ?_
  refine AC.ret ?_
  refine th_r ?_
  refine bq_r ?_
  have e : R = ([], [], false) := by rw [hR]; refine if_neg ?_; simp only [Bool.and_eq_true, Bool.not_eq_true', decide_eq_false_iff_not]; simp_all
  exact retN [(0, _)] rfl (by rw [e]; repeat (first | exact rfl | exact DLead.same | refine ⟨_, _, rfl, ?_, ?_⟩ | refine ⟨_, rfl, ?_⟩)) (by rw [e]; repeat (first | exact True.intro | refine And.intro ?_ ?_ | exact rfl | refine ⟨_, _, rfl, rfl, ?_⟩)) rfl rfl
 ·refine AL.yes rfl rfl rfl ?_
  refine AL.p (by exact mv1 rfl) rfl ?_
  refine AL.yes rfl rfl rfl ?_
  refine AL.p (by exact g_len_view (k := ds.length) rfl rfl (ints_len _)) rfl ?_
  refine AL.yes rfl rfl rfl ?_
  refine AL.p (by exact g_cmp rfl rfl rfl) rfl ?_
  refine AL.p (by exact g_pickF (r := .d _) rfl rfl) rfl ?_
  refine AL.p (by exact mv1 rfl) rfl ?_
  refine AL.caseG rfl rfl (fun h1 => ?_) (fun h1 => ?_)
  ·refine AL.not rfl rfl rfl rfl rfl ?_
   refine AL.not rfl rfl rfl rfl rfl ?_
   refine AL.not rfl rfl rfl rfl rfl ?_
   refine AL.p (by exact g_pickT (r := .d _) rfl rfl) rfl ?_
   refine AL.nil ?_
   refine th_n ?_
   refine AC.condT rfl ?_
   refine AC.seq ?_
   refine AC.region ?_
   refine AL.p (by exact as1 rfl) rfl ?_
   refine AL.p (by exact as1 rfl) rfl ?_
   refine AL.p (by exact as1 rfl) rfl ?_
   refine AL.nil ?_
   refine th_n ?_
   refine AC.weak (Weak.nilOwn (i := 6) (e := 49) (sz := 2) rfl (by decide)) ?_
   refine AC.ret ?_
   refine th_r ?_
   refine bq_r ?_
   have e : R = ([], [], false) := by rw [hR]; refine if_neg ?_; simp only [Bool.and_eq_true, Bool.not_eq_true', decide_eq_false_iff_not]; simp_all
   exact retN [(0, _)] rfl (by rw [e]; repeat (first | exact rfl | exact DLead.same | refine ⟨_, _, rfl, ?_, ?_⟩ | refine ⟨_, rfl, ?_⟩)) (by rw [e]; repeat (first | exact True.intro | refine And.intro ?_ ?_ | exact rfl | refine ⟨_, _, rfl, rfl, ?_⟩)) rfl rfl
  ·refine AL.yes rfl rfl rfl ?_
   refine AL.p (by exact mv1 rfl) rfl ?_
   refine AL.yes rfl rfl rfl ?_
   refine AL.q (by exact h_pure en_l1All rfl rfl (by repeat (first | exact rfl | exact DLead.same | refine ⟨_, _, rfl, ?_, ?_⟩)) hA rfl) rfl ?_
   refine AL.yes rfl rfl rfl ?_
   refine AL.p (by exact g_not rfl) rfl ?_
   refine AL.p (by exact g_pickF (r := .d _) rfl rfl) rfl ?_
   refine AL.nil ?_
   refine th_n ?_
   refine AC.condB rfl (fun h2 => ?_) (fun h2 => ?_)
   ·refine AC.seq ?_
    refine AC.region ?_
    refine AL.p (by exact as1 rfl) rfl ?_
    refine AL.p (by exact as1 rfl) rfl ?_
    refine AL.p (by exact as1 rfl) rfl ?_
    refine AL.nil ?_
    refine th_n ?_
    refine AC.weak (Weak.nilOwn (i := 6) (e := 49) (sz := 2) rfl (by decide)) ?_
    refine AC.ret ?_
    refine th_r ?_
    refine bq_r ?_
    have e : R = ([], [], false) := by rw [hR]; refine if_neg ?_; simp only [Bool.and_eq_true, Bool.not_eq_true', decide_eq_false_iff_not]; simp_all
    exact retN [(0, _)] rfl (by rw [e]; repeat (first | exact rfl | exact DLead.same | refine ⟨_, _, rfl, ?_, ?_⟩ | refine ⟨_, rfl, ?_⟩)) (by rw [e]; repeat (first | exact True.intro | refine And.intro ?_ ?_ | exact rfl | refine ⟨_, _, rfl, rfl, ?_⟩)) rfl rfl
   ·refine AC.skip ?_
    refine th_n ?_
    refine AC.seq ?_
    have q1 : b1 = true := by simpa using h0
    have q2 : ¬ (ds.length : Int) > 60 := by simpa using h1
    have q3 : b2 = true := by simpa using h2
    have hRn := hRun q1 (by omega) q3
    have e := hR.trans (if_pos (by rw [q1, q3, decide_eq_false q2]; rfl))
    refine AC.region ?_
    refine AL.p (by exact g_load_refN rfl rfl rfl rfl) rfl ?_
    refine AL.p (by exact mv1 rfl) rfl ?_
    refine AL.p (by exact mv1 rfl) rfl ?_
    refine AL.q (by exact h_fun (cs := []) en_l23Run rfl rfl (by repeat (first | exact rfl | exact DLead.same | refine ⟨_, _, rfl, ?_, ?_⟩ | refine ⟨_, rfl, ?_⟩)) (by repeat (exact True.intro)) hRn rfl rfl rfl rfl) rfl ?_
    refine AL.p (by exact mv5 rfl) rfl ?_
    refine AL.p (by exact g_extract (r := .own _ _) rfl rfl) rfl ?_
    refine AL.p (by exact g_extract (r := .d _) rfl rfl) rfl ?_
    refine AL.p (by exact as2 rfl) rfl ?_
    refine AL.p (by exact as1 rfl) rfl ?_
    refine AL.nil ?_
    refine th_n ?_
    refine AC.seq ?_
    refine AC.region ?_
    refine AL.p (by exact mv2 rfl) rfl ?_
    refine AL.p (by exact mv1 rfl) rfl ?_
    refine AL.p (by exact as2 rfl) rfl ?_
    refine AL.p (by exact as1 rfl) rfl ?_
    refine AL.p (by exact as1 rfl) rfl ?_
    refine AL.nil ?_
    refine th_n ?_
    refine AC.ret ?_
    refine bq_r ?_
    exact retN [(0, _)] rfl (by rw [e]; repeat (first | exact rfl | exact DLead.same | refine ⟨_, _, rfl, ?_, ?_⟩ | refine ⟨_, rfl, ?_⟩)) (by rw [e]; repeat (first | exact True.intro | refine And.intro ?_ ?_ | exact rfl | refine ⟨_, _, rfl, rfl, ?_⟩)) rfl rfl
theorem en_sSim : Enters Tryz.prog 6 := enters_of Tryz.func6 rfl rfl
def rdN (c : Ck) (l : List Dl) (last : Int) : Nat → List Int
 | 0 => []
 | k + 1 => if 0 ≤ iAt c.since k ∧ earI c l k ≤ last then rdN c l last k ++ [(k : Int)] else rdN c l last k
theorem rdN_len (c : Ck) (l : List Dl) (last : Int) : ∀ k, (rdN c l last k).length ≤ k
 | 0 => Nat.le_refl _
 | k + 1 => by have := rdN_len c l last k; rw [rdN]; split <;> simp <;> omega
theorem mayN_rd (c : Ck) (l : List Dl) (last : Int) : ∀ k, mayN c l last k = (rdN c l last k).map fun t => ⟨earI c l t.toNat, t⟩
 | 0 => rfl
 | k + 1 => by
  rw [mayN, rdN, mayN_rd c l last k]
  split
  ·rw [List.map_append]; rfl
  ·rfl
theorem dlN_ls {N : Net} {c : Ck} {l : List Dl} {T : Int} (h : CkI N c T) (hd : Dok l N.ts.length) : ∀ k, k ≤ N.ts.length → ((dlN c.since l k).2 = true ∧ lsN c.since l k = (dlN c.since l k).1 ∧ 0 ≤ lsN c.since l k) ∨ ((dlN c.since l k).2 = false ∧ lsN c.since l k = -1 ∧ ∀ j, j < k → iAt c.since j < 0)
 | 0, _ => .inr ⟨rfl, rfl, fun j hj => by omega⟩
 | k + 1, hk => by
  have ih := dlN_ls h hd k (by omega)
  have h2 := hd.b k (by omega)
  rw [dlN, lsN]
  rcases ih with ⟨i1, i2, i3⟩ | ⟨i1, i2, i3⟩
  ·left
   rw [i1, i2]
   rw [i2] at i3
   by_cases hc : 0 ≤ iAt c.since k ∧ iAt c.since k + (dAt l k).high < (dlN c.since l k).1
   ·rw [if_pos ⟨hc.1, .inr hc.2⟩, if_pos ⟨hc.1, .inr hc.2⟩]
    exact ⟨rfl, rfl, by omega⟩
   ·rw [if_neg (fun q => hc ⟨q.1, q.2.resolve_left (by simp)⟩), if_neg (fun q => hc ⟨q.1, q.2.resolve_left (by omega)⟩)]
    exact ⟨i1, rfl, i3⟩
  ·rw [i1, i2]
   by_cases hc : 0 ≤ iAt c.since k
   ·left
    rw [if_pos ⟨hc, .inl rfl⟩, if_pos ⟨hc, .inl (by omega)⟩]
    exact ⟨rfl, rfl, by omega⟩
   ·right
    rw [if_neg (fun q => hc q.1), if_neg (fun q => hc q.1)]
    refine ⟨i1, rfl, fun j hj => ?_⟩
    rcases Nat.lt_succ_iff_lt_or_eq.1 hj with h | rfl
    ·exact i3 j h
    ·omega
theorem rdN_none {c : Ck} {l : List Dl} {last : Int} : ∀ {k : Nat}, (∀ j, j < k → iAt c.since j < 0) → rdN c l last k = []
 | 0, _ => rfl
 | k + 1, h => by
  rw [rdN, if_neg (fun q => by have := h k (by omega); omega)]
  exact rdN_none (fun j hj => h j (by omega))
theorem fireP_Q {N : Net} {c : Ck} {u : Nat} (hu : u < N.ts.length) (he : enB N c.mark u = true) (a : Int) : fireP N c (u : Int) a = fireQ N c u a := by
 have hgD : N.ts.getD u ⟨[], []⟩ = N.ts[u] := by rw [List.getD_eq_getElem?_getD, List.getElem?_eq_getElem hu]; rfl
 have e : fireI N c.mark (u : Int) = fireT N.ts[u] c.mark := by rw [fireI_at hu, ← enB_nat hu, he, if_pos rfl]
 unfold fireP fireQ
 rw [e, hgD, Int.toNat_natCast]
theorem stepQ_no {N : Net} {c : Ck} {l : List Dl} {d : Int} (h : rdN c l (lsN c.since l c.since.length) c.since.length = []) : stepQ N c l d = (⟨0, 0⟩, c, false) := by
 unfold stepQ
 rw [mayN_rd, h, if_pos (by rfl)]
theorem stepQ_yes {N : Net} {c : Ck} {l : List Dl} {T d : Int} (hI : CkI N c T) (hd : Dok l N.ts.length) (hT : 0 ≤ T ∧ T ≤ 800000) (hdr : 0 ≤ d ∧ d ≤ 999) (h : rdN c l (lsN c.since l c.since.length) c.since.length ≠ []) :
  ∃ u : Nat, u < N.ts.length ∧ (0 ≤ earI c l u ∧ earI c l u ≤ lsN c.since l c.since.length) ∧ (rdN c l (lsN c.since l c.since.length) c.since.length)[(d.tmod (rdN c l (lsN c.since l c.since.length) c.since.length).length).toNat]? = some (u : Int) ∧ stepQ N c l d = (⟨earI c l u + d.tmod (lsN c.since l c.since.length - earI c l u + 1), u⟩, fireP N c (u : Int) (earI c l u + d.tmod (lsN c.since l c.since.length - earI c l u + 1))) := by
 have hb := hI.B hd (by omega)
 have hne : mayN c l (lsN c.since l c.since.length) c.since.length ≠ [] := by rw [mayN_rd]; simpa using h
 obtain ⟨u, h1, h2, h3, h4, h5, h6⟩ := stepT_in hb hdr hne
 have hml : (mayN c l (lsN c.since l c.since.length) c.since.length).length = (rdN c l (lsN c.since l c.since.length) c.since.length).length := by rw [mayN_rd, List.length_map]
 have e : stepT c l d = ⟨earI c l u + d.tmod (lsN c.since l c.since.length - earI c l u + 1), u⟩ := by unfold stepT; dsimp only; rw [h6]
 have hpos : 0 < (rdN c l (lsN c.since l c.since.length) c.since.length).length := List.length_pos_iff.2 h
 have hi : (d.tmod (rdN c l (lsN c.since l c.since.length) c.since.length).length).toNat < (rdN c l (lsN c.since l c.since.length) c.since.length).length := by
  have := Int.tmod_lt_of_pos d (show (0 : Int) < (rdN c l (lsN c.since l c.since.length) c.since.length).length by omega)
  have := Int.tmod_nonneg ((rdN c l (lsN c.since l c.since.length) c.since.length).length : Int) hdr.1
  omega
 have hu : u < N.ts.length := by rw [← hI.len]; exact h2
 have h8 : c.now ≤ earI c l u := Int.le_max_right ..
 have h9 := hI.n
 refine ⟨u, hu, by omega, ?_, ?_⟩
 ·rw [hml, mayN_rd, List.getD_eq_getElem?_getD, List.getElem?_map, List.getElem?_eq_getElem hi] at h6
  rw [List.getElem?_eq_getElem hi]
  simp only [Option.map_some, Option.getD_some, Tf.mk.injEq] at h6
  rw [h6.2]
 ·unfold stepQ
  rw [if_neg hne, e, Int.toNat_natCast, fireP_Q hu ((hI.en u hu).1 h3)]
theorem iSim1_spec (d : Int) : ASpec Tryz.prog 23 [aI d] [] (Pure1 (aT (!(decide (0 ≤ d) && decide (d ≤ 999))))) := by
 have hW := within_spec d 0 999
 obtain ⟨b, hb⟩ : ∃ b, b = (decide (0 ≤ d) && decide (d ≤ 999)) := ⟨_, rfl⟩
 rw [← hb] at hW ⊢
 refine ASpec.of Tryz.func23 rfl rfl fun C hC => ?_
 refine AC.seq ?_
 refine AC.region ?_
 refine AL.p (by exact as1 rfl) rfl ?_
 refine AL.nil ?_
 refine th_n ?_
 refine AC.seq ?_
 refine AC.region ?_
 refine AL.p (by exact mv1 rfl) rfl ?_
 refine AL.q (by exact h_pure en_within rfl rfl (by repeat (first | exact rfl | exact DLead.same | refine ⟨_, _, rfl, ?_, ?_⟩)) hW rfl) rfl ?_
 refine AL.p (by exact g_not rfl) rfl ?_
 refine AL.p (by exact as1 rfl) rfl ?_
 refine AL.nil ?_
 refine th_n ?_
 refine AC.ret ?_
 refine bq_r ?_
 exact ret1 rfl rfl
theorem en_iSim1 : Enters Tryz.prog 23 := enters_of Tryz.func23 rfl rfl
set_option maxHeartbeats 16000000 in
theorem iSim_spec (s : Stg) (l : List Dl) (ds : List Int) (hB : StgB s) (hl : DlB l) (hdl : ds.length ≤ 100000) : ASpec Tryz.prog 5 [stgA s, .d (vDls l), .d (vI ds)] [] (Pure1 (.tup [.d (vTfs (simR s l ds).1), aS (bstr (simR s l ds).2.1), aT (simR s l ds).2.2])) := by
 have hV := iVDel_spec s l hB hl
 have hA := containsInt_spec ds (by omega) 23 [] en_iSim1 (fun d => !(decide (0 ≤ d) && decide (d ≤ 999))) (fun t _ => iSim1_spec t)
 have hAe : drawsB ds = !(ds.any fun d => !(decide (0 ≤ d) && decide (d ≤ 999))) := all_not_any _ _
 have hR : simR s l ds = if (validD s l && (!decide ((ds.length : Int) > 60) && drawsB ds)) = true then ((runQ s.net l ds (newK s) []).1, (runQ s.net l ds (newK s) []).2.mark, true) else ([], [], false) := rfl
 have hval := Dok.of (s := s) (l := l)
 have hds := drawsB_in (ds := ds)
 obtain ⟨b1, hb1⟩ : ∃ b, b = validD s l := ⟨_, rfl⟩
 obtain ⟨b2, hb2⟩ : ∃ b, b = ds.any fun d => !(decide (0 ≤ d) && decide (d ≤ 999)) := ⟨_, rfl⟩
 rw [← hb2] at hA hAe
 rw [← hb1] at hV hR hval
 rw [hAe] at hR hds
 obtain ⟨Z, hZ⟩ : ∃ Z, Z = runQ s.net l ds (newK s) [] := ⟨_, rfl⟩
 rw [← hZ] at hR
 obtain ⟨R, hRR⟩ : ∃ R, R = simR s l ds := ⟨_, rfl⟩
 rw [← hRR] at hR ⊢
 clear hb1 hb2 hRR hAe
 refine ASpec.of Tryz.func5 rfl rfl fun C hC => ?_
 refine AC.seq ?_
 refine AC.region ?_
 refine AL.q (by exact h_boxF rfl rfl) rfl ?_
 refine AL.p (by exact as1 rfl) rfl ?_
 refine AL.p (by exact as1 rfl) rfl ?_
 refine AL.p (by exact as1 rfl) rfl ?_
 refine AL.nil ?_
 refine th_n ?_
 refine AC.seq ?_
 refine AC.seq ?_
 refine AC.region ?_
 refine AL.p (by exact g_load_refN rfl rfl rfl rfl) rfl ?_
 refine AL.p (by exact mv1 rfl) rfl ?_
 refine AL.q (by exact h_pure en_iVDel rfl rfl (by repeat (first | exact rfl | exact DLead.same | refine ⟨_, _, rfl, ?_, ?_⟩ | refine ⟨_, rfl, ?_⟩)) hV rfl) rfl ?_
 refine AL.p (by exact g_not rfl) rfl ?_
 refine AL.p (by exact mv1 rfl) rfl ?_
 refine AL.caseGB rfl rfl (fun h0 => ?_) (fun h0 => ?_)
 ·refine AL.not rfl rfl rfl rfl rfl ?_
  refine AL.not rfl rfl rfl rfl rfl ?_
  refine AL.not rfl rfl rfl rfl rfl ?_
  refine AL.p (by exact g_pickT (r := .d _) rfl rfl) rfl ?_
  refine AL.p (by exact mv1 rfl) rfl ?_
  refine AL.not rfl rfl rfl rfl rfl ?_
  refine AL.not rfl rfl rfl rfl rfl ?_
  refine AL.p (by exact g_pickT (r := .d _) rfl rfl) rfl ?_
  refine AL.nil ?_
  refine th_n ?_
  refine AC.condT rfl ?_
  refine AC.seq ?_
  refine AC.region ?_
  refine AL.p (by exact as1 rfl) rfl ?_
  refine AL.p (by exact as1 rfl) rfl ?_
  refine AL.p (by exact as1 rfl) rfl ?_
  refine AL.nil ?_
  refine th_n ?_
  refine AC.ret ?_
  refine th_r ?_
  refine bq_r ?_
  have e : R = ([], [], false) := by rw [hR]; refine if_neg ?_; simp only [Bool.and_eq_true, Bool.not_eq_true', decide_eq_false_iff_not]; simp_all
  exact ret0 rfl (by rw [e]; repeat (first | exact rfl | exact DLead.same | exact DLead.nil | refine ⟨_, _, rfl, ?_, ?_⟩ | refine ⟨_, rfl, ?_⟩))
 ·refine AL.yes rfl rfl rfl ?_
  refine AL.p (by exact mv1 rfl) rfl ?_
  refine AL.yes rfl rfl rfl ?_
  refine AL.p (by exact g_len_view (k := ds.length) rfl rfl (ints_len _)) rfl ?_
  refine AL.yes rfl rfl rfl ?_
  refine AL.p (by exact g_cmp rfl rfl rfl) rfl ?_
  refine AL.p (by exact g_pickF (r := .d _) rfl rfl) rfl ?_
  refine AL.p (by exact mv1 rfl) rfl ?_
  refine AL.caseG rfl rfl (fun h1 => ?_) (fun h1 => ?_)
  ·refine AL.not rfl rfl rfl rfl rfl ?_
   refine AL.not rfl rfl rfl rfl rfl ?_
   refine AL.p (by exact g_pickT (r := .d _) rfl rfl) rfl ?_
   refine AL.nil ?_
   refine th_n ?_
   refine AC.condT rfl ?_
   refine AC.seq ?_
   refine AC.region ?_
   refine AL.p (by exact as1 rfl) rfl ?_
   refine AL.p (by exact as1 rfl) rfl ?_
   refine AL.p (by exact as1 rfl) rfl ?_
   refine AL.nil ?_
   refine th_n ?_
   refine AC.ret ?_
   refine th_r ?_
   refine bq_r ?_
   have e : R = ([], [], false) := by rw [hR]; refine if_neg ?_; simp only [Bool.and_eq_true, Bool.not_eq_true', decide_eq_false_iff_not]; simp_all
   exact ret0 rfl (by rw [e]; repeat (first | exact rfl | exact DLead.same | exact DLead.nil | refine ⟨_, _, rfl, ?_, ?_⟩ | refine ⟨_, rfl, ?_⟩))
  ·refine AL.yes rfl rfl rfl ?_
   refine AL.p (by exact mv1 rfl) rfl ?_
   refine AL.yes rfl rfl rfl ?_
   refine AL.q (by exact h_pure en_containsInt rfl rfl (by exact ⟨_, _, rfl, .same, _, _, rfl, ⟨_, rfl, rfl⟩, rfl⟩) hA rfl) rfl ?_
   refine AL.p (by exact g_pickF (r := .d _) rfl rfl) rfl ?_
   refine AL.nil ?_
   refine th_n ?_
   refine AC.condB rfl (fun h2 => ?_) (fun h2 => ?_)
   ·refine AC.seq ?_
    refine AC.region ?_
    refine AL.p (by exact as1 rfl) rfl ?_
    refine AL.p (by exact as1 rfl) rfl ?_
    refine AL.p (by exact as1 rfl) rfl ?_
    refine AL.nil ?_
    refine th_n ?_
    refine AC.ret ?_
    refine th_r ?_
    refine bq_r ?_
    have e : R = ([], [], false) := by rw [hR]; refine if_neg ?_; simp only [Bool.and_eq_true, Bool.not_eq_true', decide_eq_false_iff_not]; simp_all
    exact ret0 rfl (by rw [e]; repeat (first | exact rfl | exact DLead.same | exact DLead.nil | refine ⟨_, _, rfl, ?_, ?_⟩ | refine ⟨_, rfl, ?_⟩))
   ·refine AC.skip ?_
    refine th_n ?_
    refine AC.seq ?_
    have q1 : b1 = true := by simpa using h0
    have q2 : ¬ (ds.length : Int) > 60 := by simpa using h1
    have q3 : b2 = false := by simpa using h2
    have e := hR.trans (if_pos (by rw [q1, q3, decide_eq_false q2]; rfl))
    obtain ⟨hg, hd⟩ := hval q1
    have hdsb := hds (by rw [q3]; rfl)
    have hgn := (goodS_bits hg).1
    have hK := newK_I hg
    have hN := newClock_spec s hB hg
    have htl : s.net.ts.length ≤ 24 := by have := goodS_few hg; have := (goodS_bits hg).2.2; omega
    obtain ⟨K, hKK⟩ : ∃ K, K = newK s := ⟨_, rfl⟩
    rw [← hKK] at hK hN hZ
    clear hKK
    refine AC.region ?_
    refine AL.p (by exact g_load_refN rfl rfl rfl rfl) rfl ?_
    refine AL.q (by exact h_fun (cs := []) en_newClock rfl rfl (by repeat (first | exact rfl | exact DLead.same | refine ⟨_, _, rfl, ?_, ?_⟩ | refine ⟨_, rfl, ?_⟩)) (by repeat (exact True.intro)) hN rfl rfl rfl rfl) rfl ?_
    refine AL.q (by exact h_lit rfl rfl rfl rfl rfl rfl rfl rfl) rfl ?_
    refine AL.p (by exact as3 rfl) rfl ?_
    refine AL.p (by exact as2 rfl) rfl ?_
    refine AL.nil ?_
    refine th_n ?_
    refine AC.seq ?_
    refine AC.seq ?_
    refine AC.region ?_
    refine AL.p (by exact mv1 rfl) rfl ?_
    refine AL.p (by exact g_len_view rfl rfl (by exact List.length_map _)) rfl ?_
    refine AL.p (by exact mv1 rfl) rfl ?_
    refine AL.nil ?_
    refine th_n ?_
    refine AC.block ?_
    refine AC.loop (ι := Nat × Ck × List Tf) (fun x => ⟨116, 900, [(1, .d (vDls l)), (9, .ptr 100 0), (10, .own 102 x.2.2.length), (37, .d (vI ds)), (38, aI ds.length), (39, aI x.1)], chL (ckChs s x.2.1 100 101) ++ [(102, some (.arr 49 2 (tfL x.2.2)))]⟩) (fun x => x.1 ≤ ds.length ∧ CkI s.net x.2.1 (100 * x.1) ∧ x.2.2.length ≤ x.1 ∧ runQ s.net l (ds.drop x.1) x.2.1 x.2.2 = Z) (fun x => ds.length - x.1) ((0, K, [])) ?_ (⟨Nat.zero_le _, hK, Nat.le_refl _, hZ.symm⟩) ?_
    ·exact Weak.ren _ [(100, _), (101, _), (102, _)] hC rfl (by repeat (first | exact True.intro | refine And.intro ?_ ?_ | exact DLead.same | exact rfl | refine ⟨_, rfl, ?_⟩)) (by repeat (first | exact True.intro | refine And.intro ?_ ?_ | exact DLead.same | exact rfl | refine ⟨_, _, rfl, rfl, ?_⟩ | refine ⟨_, rfl, ?_⟩ | refine ⟨_, _, rfl, ?_, ?_⟩)) rfl rfl rfl
    ·rintro ⟨k, c, acc⟩ ⟨hk, hI, hal, hrun⟩
     dsimp only at hk hI hal hrun ⊢
     refine AC.seq ?_
     refine AC.region ?_
     refine AL.p (by exact g_cmp rfl rfl rfl) rfl ?_
     refine AL.nil ?_
     refine th_n ?_
     refine AC.seq ?_
     refine AC.condD rfl (fun h3 => ?_) (fun h3 => ?_)
     ·refine AC.skip ?_
      refine th_n ?_
      refine AC.seq ?_
      refine AC.block ?_
      refine AC.seq ?_
      have hk1 : k < ds.length := by omega
      have hget := ints_at hk1
      have hdr := hdsb _ (List.getElem_mem hk1)
      have hb := hI.B hd (by omega)
      have hcl := hI.len
      have hD := ckDeadline_spec s c l hb (by omega)
      have hcase := dlN_ls hI hd c.since.length (by omega)
      have hI2 := stepQ_I hI hd (by omega) hdr
      have hno := stepQ_no (N := s.net) (c := c) (l := l) (d := ds[k])
      have hyes := stepQ_yes hI hd (by omega) hdr
      have hrl := rdN_len c l (lsN c.since l c.since.length)
      have hlin := lsN_in hb c.since.length (Nat.le_refl _)
      have hdrop : ds.drop k = ds[k] :: ds.drop (k + 1) := List.drop_eq_getElem_cons hk1
      rw [hdrop, runQ] at hrun
      have hnone : (dlN c.since l c.since.length).2 = false → rdN c l (lsN c.since l c.since.length) c.since.length = [] := fun q => by rcases hcase with h | h; (rw [h.1] at q; cases q); exact rdN_none h.2.2
      have hls : (dlN c.since l c.since.length).2 = true → (dlN c.since l c.since.length).1 = lsN c.since l c.since.length := fun q => by rcases hcase with h | h; exact h.2.1.symm; (rw [h.1] at q; cases q)
      obtain ⟨S, hS⟩ : ∃ S, S = stepQ s.net c l ds[k] := ⟨_, rfl⟩
      rw [← hS] at hI2 hno hyes hrun
      obtain ⟨D, hDD⟩ : ∃ D, D = dlN c.since l c.since.length := ⟨_, rfl⟩
      rw [← hDD] at hD hnone hls
      obtain ⟨last, hlast⟩ : ∃ last, last = lsN c.since l c.since.length := ⟨_, rfl⟩
      rw [← hlast] at hno hyes hrl hlin hnone hls
      clear hcase hDD hS
      refine AC.region ?_
      refine AL.p (by exact g_ia_view rfl rfl rfl rfl rfl (by rfl) (by assumption)) rfl ?_
      refine AL.p (by exact g_load_ref rfl rfl rfl) rfl ?_
      refine AL.p (by exact as1 rfl) rfl ?_
      refine AL.nil ?_
      refine th_n ?_
      refine AC.seq ?_
      refine AC.region ?_
      refine AL.p (by exact mv3 rfl) rfl ?_
      refine AL.p (by exact mv1 rfl) rfl ?_
      refine AL.q (by exact h_fun (cs := [100, 101]) en_ckDeadline rfl rfl (by repeat (first | exact rfl | exact DLead.same | refine ⟨_, _, rfl, ?_, ?_⟩ | refine ⟨_, rfl, ?_⟩)) (by repeat (first | exact True.intro | refine And.intro ?_ ?_ | exact DLead.same | exact rfl | refine ⟨_, _, rfl, rfl, ?_⟩ | refine ⟨_, rfl, ?_⟩ | refine ⟨_, _, rfl, ?_, ?_⟩)) hD rfl rfl rfl rfl) rfl ?_
      refine AL.p (by exact mv5 rfl) rfl ?_
      refine AL.p (by exact g_extract (r := .d _) rfl rfl) rfl ?_
      refine AL.p (by exact g_extract (r := .d _) rfl rfl) rfl ?_
      refine AL.p (by exact as1 rfl) rfl ?_
      refine AL.p (by exact as1 rfl) rfl ?_
      refine AL.nil ?_
      refine th_n ?_
      refine AC.seq ?_
      refine AC.seq ?_
      refine AC.region ?_
      refine AL.p (by exact mv1 rfl) rfl ?_
      refine AL.p (by exact g_not rfl) rfl ?_
      refine AL.nil ?_
      refine th_n ?_
      refine AC.condB rfl (fun h4 => ?_) (fun h4 => ?_)
      ·refine AC.exit ?_
       refine th_e ?_
       refine ib_no rfl ?_
       refine th_e ?_
       refine th_e ?_
       refine ib_y ?_
       refine th_n ?_
       refine AC.seq ?_
       refine AC.drawn' mixed_ok [[], [], [1], [1,2], [1,2,3], [0], [0,1,2,3,4,5], [0,1,2,3,4,5,6]] (by decide) ?_
       refine DF.op 0 [] 8 rfl rfl rfl (.free rfl (NOp.of (by exact mv2 rfl))) rfl ?_
       refine DF.op 1 [] 8 rfl rfl rfl (.free rfl (NOp.of (by exact mv3 rfl))) rfl ?_
       refine DF.op 2 [1] 8 rfl rfl rfl (.free rfl (NOp.of (by exact g_nilP rfl))) rfl ?_
       refine DF.op 3 [1,2] 8 rfl rfl rfl (.free rfl (NOp.of (by exact g_fa_ptr rfl rfl rfl rfl rfl))) rfl ?_
       refine DF.op 4 [1,2,3] 8 rfl rfl rfl (.free rfl (NOp.of (by exact g_load_ptr rfl rfl rfl rfl rfl))) rfl ?_
       refine DF.op 5 [0] 8 rfl rfl rfl (.free rfl (NOp.of (by exact as2 rfl))) rfl ?_
       refine DF.op 6 [0,1,2,3,4,5] 8 rfl rfl rfl (.free rfl (NOp.of (by exact as1 rfl))) rfl ?_
       refine DF.op 7 [0,1,2,3,4,5,6] 8 rfl rfl rfl (.free rfl (NOp.of (by exact as1 rfl))) rfl ?_
       refine DF.fin (ps := [(0,1),(0,2),(0,3),(0,4),(1,0),(1,5),(2,0),(2,5),(3,0),(3,5),(4,0),(4,5),(5,1),(5,2),(5,3),(5,4)]) 8 rfl (by decide +kernel) (by decide +kernel) (by rfl) ?_
       refine th_n ?_
       refine AC.weak (Weak.freeze (i := 6) rfl rfl (ownl _ _) (ownt _ _)) ?_
       refine AC.ret ?_
       refine bq_r ?_
       (have e2 := hno (hnone (by simpa using h4)); rw [e2, if_neg (by simp)] at hrun; rw [← hrun] at e; exact ret0 rfl (by rw [e]; repeat (first | exact rfl | exact DLead.same | refine ⟨_, _, rfl, ?_, ?_⟩ | refine ⟨_, rfl, ?_⟩)))
      ·refine AC.skip ?_
       refine th_n ?_
       refine AC.seq ?_
       have hDt : D.2 = true := by simpa using h4
       have hDl := hls hDt
       rw [hDl]
       refine AC.region ?_
       refine AL.q (by exact h_lit rfl rfl rfl rfl rfl rfl rfl rfl) rfl ?_
       refine AL.p (by exact as2 rfl) rfl ?_
       refine AL.nil ?_
       refine th_n ?_
       refine AC.seq ?_
       refine AC.seq ?_
       refine AC.region ?_
       refine AL.p (by exact mv3 rfl) rfl ?_
       refine AL.p (by exact g_nilP rfl) rfl ?_
       refine AL.p (by exact g_fa_ptr rfl rfl rfl rfl rfl) rfl ?_
       refine AL.p (by exact g_load_ptr rfl rfl rfl rfl rfl) rfl ?_
       refine AL.p (by exact g_len_own (sz := 1) (els := []) (e' := 0) rfl rfl (by simp only [maxLen]; omega)) rfl ?_
       refine AL.p (by exact mv1 rfl) rfl ?_
       refine AL.nil ?_
       refine th_n ?_
       refine AC.block ?_
       refine AC.loop (ι := Nat) (fun j => ⟨116, 1500, [(1, .d (vDls l)), (9, .ptr 100 0), (10, .own 102 acc.length), (12, aI ds[k]), (13, aI last), (15, .own 103 (rdN c l last j).length), (37, .d (vI ds)), (38, aI ds.length), (39, aI k), (55, .own 101 c.since.length), (56, aI c.since.length), (57, aI j)], chL (ckChs s c 100 101) ++ [(102, some (.arr 49 2 (tfL acc))), (103, some (.arr 3 1 (ints (rdN c l last j))))]⟩) (fun j => j ≤ c.since.length) (fun j => c.since.length - j) (0) ?_ (Nat.zero_le _) ?_
       ·exact Weak.ren _ [(100, 100), (101, 101), (102, 102), (103, _)] hC rfl (by repeat (first | exact True.intro | refine And.intro ?_ ?_ | exact DLead.same | exact rfl | refine ⟨_, rfl, ?_⟩)) (by repeat (first | exact True.intro | refine And.intro ?_ ?_ | exact DLead.same | exact rfl | refine ⟨_, _, rfl, rfl, ?_⟩ | refine ⟨_, rfl, ?_⟩ | refine ⟨_, _, rfl, ?_, ?_⟩)) rfl rfl rfl
       ·intro j hj
        refine AC.seq ?_
        refine AC.region ?_
        refine AL.p (by exact g_cmp rfl rfl rfl) rfl ?_
        refine AL.nil ?_
        refine th_n ?_
        refine AC.seq ?_
        refine AC.condD rfl (fun h5 => ?_) (fun h5 => ?_)
        ·refine AC.skip ?_
         refine th_n ?_
         refine AC.seq ?_
         refine AC.block ?_
         refine AC.seq ?_
         have hj1 : j < c.since.length := by omega
         have hrow := ints_iAt hj1
         have hEa := ckEarliest_spec s c l j hb hj1
         have hrj := hrl j
         have hY : 0 ≤ iAt c.since j → earI c l j ≤ last → rdN c l last (j + 1) = rdN c l last j ++ [(j : Int)] := fun h h' => by rw [rdN, if_pos ⟨h, h'⟩]
         have hNo : ¬ (0 ≤ iAt c.since j ∧ earI c l j ≤ last) → rdN c l last (j + 1) = rdN c l last j := fun h => by rw [rdN, if_neg h]
         obtain ⟨ea, hea⟩ : ∃ ea, ea = earI c l j := ⟨_, rfl⟩
         rw [← hea] at hEa hY hNo
         refine AC.region ?_
         refine AL.p (by exact mv1 rfl) rfl ?_
         refine AL.p (by exact g_ia_own (i := j) (l := c.since.length) rfl rfl rfl rfl rfl rfl hj1 (Nat.mul_one _)) rfl ?_
         refine AL.p (by exact g_load_arr1 rfl rfl rfl rfl (by assumption)) rfl ?_
         refine AL.p (by exact as1 rfl) rfl ?_
         refine AL.p (by exact as1 rfl) rfl ?_
         refine AL.nil ?_
         refine th_n ?_
         refine AC.seq ?_
         refine AC.region ?_
         refine AL.p (by exact mv1 rfl) rfl ?_
         refine AL.p (by exact g_cmp rfl rfl rfl) rfl ?_
         refine AL.p (by exact mv1 rfl) rfl ?_
         refine AL.caseG rfl rfl (fun h6 => ?_) (fun h6 => ?_)
         ·refine AL.yes rfl rfl rfl ?_
          refine AL.p (by exact mv3 rfl) rfl ?_
          refine AL.yes rfl rfl rfl ?_
          refine AL.p (by exact mv1 rfl) rfl ?_
          refine AL.yes rfl rfl rfl ?_
          refine AL.p (by exact mv1 rfl) rfl ?_
          refine AL.yes rfl rfl rfl ?_
          refine AL.q (by exact h_fun (cs := [100, 101]) en_ckEarliest rfl rfl (by repeat (first | exact rfl | exact DLead.same | refine ⟨_, _, rfl, ?_, ?_⟩ | refine ⟨_, rfl, ?_⟩)) (by repeat (first | exact True.intro | refine And.intro ?_ ?_ | exact DLead.same | exact rfl | refine ⟨_, _, rfl, rfl, ?_⟩ | refine ⟨_, rfl, ?_⟩ | refine ⟨_, _, rfl, ?_, ?_⟩)) hEa rfl rfl rfl rfl) rfl ?_
          refine AL.yes rfl rfl rfl ?_
          refine AL.p (by exact mv1 rfl) rfl ?_
          refine AL.yes rfl rfl rfl ?_
          refine AL.p (by exact g_cmp rfl rfl rfl) rfl ?_
          refine AL.p (by exact g_pickT (r := .d _) rfl rfl) rfl ?_
          refine AL.nil ?_
          refine th_n ?_
          refine AC.condD rfl (fun h7 => ?_) (fun h7 => ?_)
          ·refine AC.region ?_
           refine AL.p (by exact mv2 rfl) rfl ?_
           refine AL.p (by exact mv1 rfl) rfl ?_
           refine AL.q (by exact h_litF rfl rfl rfl rfl rfl rfl rfl rfl) rfl ?_
           refine AL.q (by exact h_appendI (rdN c l last j) [(j : Int)] (.own rfl rfl (ints_len _).symm) (.view rfl) (by rw [List.length_append]; simp only [List.length_cons, List.length_nil]; omega) (by simp)) rfl ?_
           refine AL.p (by exact as2 rfl) rfl ?_
           refine AL.nil ?_
           refine ib_n ?_
           refine th_n ?_
           refine AC.region ?_
           refine AL.p (by exact g_arith rfl rfl rfl (by exact wrap_i64 (by omega))) rfl ?_
           refine AL.p (by exact mv1 rfl) rfl ?_
           refine AL.nil ?_
           refine th_n ?_
           (have e := hY h6 h7; exact ⟨j + 1, by omega, by omega, Weak.ren _ [(100, 100), (101, 101), (102, 102), (103, _)] hC rfl (by rw [e]; repeat (first | exact True.intro | refine And.intro ?_ ?_ | exact DLead.same | exact rfl | refine ⟨_, rfl, ?_⟩)) (by rw [e]; repeat (first | exact True.intro | refine And.intro ?_ ?_ | exact DLead.same | exact rfl | refine ⟨_, _, rfl, rfl, ?_⟩ | refine ⟨_, rfl, ?_⟩ | refine ⟨_, _, rfl, ?_, ?_⟩)) rfl rfl rfl⟩)
          ·refine AC.skip ?_
           refine ib_n ?_
           refine th_n ?_
           refine AC.region ?_
           refine AL.p (by exact g_arith rfl rfl rfl (by exact wrap_i64 (by omega))) rfl ?_
           refine AL.p (by exact mv1 rfl) rfl ?_
           refine AL.nil ?_
           refine th_n ?_
           (have e := hNo (fun q => h7 q.2); exact ⟨j + 1, by omega, by omega, Weak.ren _ [(100, 100), (101, 101), (102, 102), (103, 103)] hC rfl (by rw [e]; repeat (first | exact True.intro | refine And.intro ?_ ?_ | exact DLead.same | exact rfl | refine ⟨_, rfl, ?_⟩)) (by rw [e]; repeat (first | exact True.intro | refine And.intro ?_ ?_ | exact DLead.same | exact rfl | refine ⟨_, _, rfl, rfl, ?_⟩ | refine ⟨_, rfl, ?_⟩ | refine ⟨_, _, rfl, ?_, ?_⟩)) rfl rfl rfl⟩)
         ·refine AL.not rfl rfl rfl rfl rfl ?_
          refine AL.not rfl rfl rfl rfl rfl ?_
          refine AL.not rfl rfl rfl rfl rfl ?_
          refine AL.not rfl rfl rfl rfl rfl ?_
          refine AL.not rfl rfl rfl rfl rfl ?_
          refine AL.not rfl rfl rfl rfl rfl ?_
          refine AL.p (by exact g_pickF (r := .d _) rfl rfl) rfl ?_
          refine AL.nil ?_
          refine th_n ?_
          refine AC.condF rfl ?_
          refine AC.skip ?_
          refine ib_n ?_
          refine th_n ?_
          refine AC.region ?_
          refine AL.p (by exact g_arith rfl rfl rfl (by exact wrap_i64 (by omega))) rfl ?_
          refine AL.p (by exact mv1 rfl) rfl ?_
          refine AL.nil ?_
          refine th_n ?_
          (have e := hNo (fun q => h6 q.1); exact ⟨j + 1, by omega, by omega, Weak.ren _ [(100, 100), (101, 101), (102, 102), (103, 103)] hC rfl (by rw [e]; repeat (first | exact True.intro | refine And.intro ?_ ?_ | exact DLead.same | exact rfl | refine ⟨_, rfl, ?_⟩)) (by rw [e]; repeat (first | exact True.intro | refine And.intro ?_ ?_ | exact DLead.same | exact rfl | refine ⟨_, _, rfl, rfl, ?_⟩ | refine ⟨_, rfl, ?_⟩ | refine ⟨_, _, rfl, ?_, ?_⟩)) rfl rfl rfl⟩)
        ·refine AC.exit ?_
         refine th_e ?_
         refine th_e ?_
         refine ib_y ?_
         refine th_n ?_
         refine AC.seq ?_
         refine AC.seq ?_
         have hjj : j = c.since.length := by omega
         subst hjj
         have hrj := hrl c.since.length
         obtain ⟨rd, hrd⟩ : ∃ rd, rd = rdN c l last c.since.length := ⟨_, rfl⟩
         rw [← hrd] at hno hyes hrj hnone ⊢
         refine AC.region ?_
         refine AL.p (by exact mv2 rfl) rfl ?_
         refine AL.p (by exact g_len_own (sz := 1) (els := []) (e' := 0) rfl rfl (by simp only [maxLen]; omega)) rfl ?_
         refine AL.p (by exact g_cmp rfl rfl rfl) rfl ?_
         refine AL.nil ?_
         refine th_n ?_
         refine AC.condD rfl (fun h6 => ?_) (fun h6 => ?_)
         ·refine AC.exit ?_
          refine th_e ?_
          refine ib_no rfl ?_
          refine th_e ?_
          refine th_e ?_
          refine ib_y ?_
          refine th_n ?_
          refine AC.seq ?_
          refine AC.drawn' mixed_ok [[], [], [1], [1,2], [1,2,3], [0], [0,1,2,3,4,5], [0,1,2,3,4,5,6]] (by decide) ?_
          refine DF.op 0 [] 8 rfl rfl rfl (.free rfl (NOp.of (by exact mv2 rfl))) rfl ?_
          refine DF.op 1 [] 8 rfl rfl rfl (.free rfl (NOp.of (by exact mv3 rfl))) rfl ?_
          refine DF.op 2 [1] 8 rfl rfl rfl (.free rfl (NOp.of (by exact g_nilP rfl))) rfl ?_
          refine DF.op 3 [1,2] 8 rfl rfl rfl (.free rfl (NOp.of (by exact g_fa_ptr rfl rfl rfl rfl rfl))) rfl ?_
          refine DF.op 4 [1,2,3] 8 rfl rfl rfl (.free rfl (NOp.of (by exact g_load_ptr rfl rfl rfl rfl rfl))) rfl ?_
          refine DF.op 5 [0] 8 rfl rfl rfl (.free rfl (NOp.of (by exact as2 rfl))) rfl ?_
          refine DF.op 6 [0,1,2,3,4,5] 8 rfl rfl rfl (.free rfl (NOp.of (by exact as1 rfl))) rfl ?_
          refine DF.op 7 [0,1,2,3,4,5,6] 8 rfl rfl rfl (.free rfl (NOp.of (by exact as1 rfl))) rfl ?_
          refine DF.fin (ps := [(0,1),(0,2),(0,3),(0,4),(1,0),(1,5),(2,0),(2,5),(3,0),(3,5),(4,0),(4,5),(5,1),(5,2),(5,3),(5,4)]) 8 rfl (by decide +kernel) (by decide +kernel) (by rfl) ?_
          refine th_n ?_
          refine AC.weak (Weak.freeze (i := 6) rfl rfl (ownl _ _) (ownt _ _)) ?_
          refine AC.ret ?_
          refine bq_r ?_
          (have e2 := hno (List.eq_nil_of_length_eq_zero (by omega)); rw [e2, if_neg (by simp)] at hrun; rw [← hrun] at e; exact ret0 rfl (by rw [e]; repeat (first | exact rfl | exact DLead.same | refine ⟨_, _, rfl, ?_, ?_⟩ | refine ⟨_, rfl, ?_⟩)))
         ·refine AC.skip ?_
          refine th_n ?_
          refine AC.seq ?_
          obtain ⟨u, hu, heb, hrg, hSe⟩ := hyes (fun q => h6 (by rw [q]; rfl))
          have hpos : (0 : Int) < rd.length := by omega
          have h5' := Int.tmod_nonneg (rd.length : Int) hdr.1
          have h6' := Int.tmod_lt_of_pos ds[k] hpos
          have hlt : (ds[k].tmod rd.length).toNat < rd.length := by omega
          have hI3 : ds[k].tmod rd.length = ((ds[k].tmod rd.length).toNat : Int) := by omega
          have hrow3 : (ints rd)[(ds[k].tmod rd.length).toNat]? = some [dI ((u : Nat) : Int)] := by rw [List.getElem?_map, hrg]; rfl
          have hEu := ckEarliest_spec s c l u hb (by omega)
          obtain ⟨ea, heaE⟩ : ∃ ea, ea = earI c l u := ⟨_, rfl⟩
          rw [← heaE] at heb hSe hEu
          have h7' := Int.tmod_nonneg (last - ea + 1) hdr.1
          have h8' := Int.tmod_lt_of_pos ds[k] (show 0 < last - ea + 1 by omega)
          have hFi := ckFire_spec s c (u : Int) (ea + ds[k].tmod (last - ea + 1)) hB hg hI.m hI.len
          obtain ⟨F, hF⟩ : ∃ F, F = fireP s.net c (u : Int) (ea + ds[k].tmod (last - ea + 1)) := ⟨_, rfl⟩
          rw [← hF] at hFi hSe
          refine AC.region ?_
          refine AL.p (by exact mv2 rfl) rfl ?_
          refine AL.p (by exact mv1 rfl) rfl ?_
          refine AL.p (by exact mv2 rfl) rfl ?_
          refine AL.p (by exact g_len_own (sz := 1) (els := []) (e' := 0) rfl rfl (by simp only [maxLen]; omega)) rfl ?_
          refine AL.p (by exact g_rem (c := ds[k].tmod rd.length) rfl rfl (by omega) rfl) rfl ?_
          refine AL.p (by exact g_ia_own (i := (ds[k].tmod rd.length).toNat) (l := rd.length) rfl rfl rfl rfl rfl hI3 hlt (Nat.mul_one _)) rfl ?_
          refine AL.p (by exact g_load_arr1 rfl rfl rfl rfl hrow3) rfl ?_
          refine AL.p (by exact as1 rfl) rfl ?_
          refine AL.nil ?_
          refine th_n ?_
          refine AC.seq ?_
          refine AC.region ?_
          refine AL.p (by exact mv3 rfl) rfl ?_
          refine AL.p (by exact mv1 rfl) rfl ?_
          refine AL.p (by exact mv1 rfl) rfl ?_
          refine AL.q (by exact h_fun (cs := [100, 101]) en_ckEarliest rfl rfl (by repeat (first | exact rfl | exact DLead.same | refine ⟨_, _, rfl, ?_, ?_⟩ | refine ⟨_, rfl, ?_⟩)) (by repeat (first | exact True.intro | refine And.intro ?_ ?_ | exact DLead.same | exact rfl | refine ⟨_, _, rfl, rfl, ?_⟩ | refine ⟨_, rfl, ?_⟩ | refine ⟨_, _, rfl, ?_, ?_⟩)) hEu rfl rfl rfl rfl) rfl ?_
          refine AL.p (by exact as1 rfl) rfl ?_
          refine AL.nil ?_
          refine th_n ?_
          refine AC.seq ?_
          refine AC.region ?_
          refine AL.p (by exact mv1 rfl) rfl ?_
          refine AL.p (by exact mv1 rfl) rfl ?_
          refine AL.p (by exact mv1 rfl) rfl ?_
          refine AL.p (by exact mv1 rfl) rfl ?_
          refine AL.p (by exact g_arith rfl rfl rfl (by exact wrap_i64 (by omega))) rfl ?_
          refine AL.p (by exact g_arith rfl rfl rfl (by exact wrap_i64 (by omega))) rfl ?_
          refine AL.p (by exact g_rem (c := ds[k].tmod (last - ea + 1)) rfl rfl (by omega) rfl) rfl ?_
          refine AL.p (by exact g_arith rfl rfl rfl (by exact wrap_i64 (by omega))) rfl ?_
          refine AL.p (by exact as1 rfl) rfl ?_
          refine AL.nil ?_
          refine th_n ?_
          refine AC.seq ?_
          refine AC.seq ?_
          refine AC.region ?_
          refine AL.p (by exact mv3 rfl) rfl ?_
          refine AL.p (by exact mv1 rfl) rfl ?_
          refine AL.p (by exact mv1 rfl) rfl ?_
          refine AL.q (by exact h_fun (cs := [100, 101]) en_ckFire rfl rfl (by repeat (first | exact rfl | exact DLead.same | refine ⟨_, _, rfl, ?_, ?_⟩ | refine ⟨_, rfl, ?_⟩)) (by repeat (first | exact True.intro | refine And.intro ?_ ?_ | exact DLead.same | exact rfl | refine ⟨_, _, rfl, rfl, ?_⟩ | refine ⟨_, rfl, ?_⟩ | refine ⟨_, _, rfl, ?_, ?_⟩)) hFi rfl rfl rfl rfl) rfl ?_
          refine AL.p (by exact g_not rfl) rfl ?_
          refine AL.nil ?_
          refine th_n ?_
          refine AC.condB rfl (fun h7 => ?_) (fun h7 => ?_)
          ·refine AC.exit ?_
           refine th_e ?_
           refine ib_no rfl ?_
           refine th_e ?_
           refine th_e ?_
           refine ib_y ?_
           refine th_n ?_
           refine AC.seq ?_
           refine AC.drawn' mixed_ok [[], [], [1], [1,2], [1,2,3], [0], [0,1,2,3,4,5], [0,1,2,3,4,5,6]] (by decide) ?_
           refine DF.op 0 [] 8 rfl rfl rfl (.free rfl (NOp.of (by exact mv2 rfl))) rfl ?_
           refine DF.op 1 [] 8 rfl rfl rfl (.free rfl (NOp.of (by exact mv3 rfl))) rfl ?_
           refine DF.op 2 [1] 8 rfl rfl rfl (.free rfl (NOp.of (by exact g_nilP rfl))) rfl ?_
           refine DF.op 3 [1,2] 8 rfl rfl rfl (.free rfl (NOp.of (by exact g_fa_ptr rfl rfl rfl rfl rfl))) rfl ?_
           refine DF.op 4 [1,2,3] 8 rfl rfl rfl (.free rfl (NOp.of (by exact g_load_ptr rfl rfl rfl rfl rfl))) rfl ?_
           refine DF.op 5 [0] 8 rfl rfl rfl (.free rfl (NOp.of (by exact as2 rfl))) rfl ?_
           refine DF.op 6 [0,1,2,3,4,5] 8 rfl rfl rfl (.free rfl (NOp.of (by exact as1 rfl))) rfl ?_
           refine DF.op 7 [0,1,2,3,4,5,6] 8 rfl rfl rfl (.free rfl (NOp.of (by exact as1 rfl))) rfl ?_
           refine DF.fin (ps := [(0,1),(0,2),(0,3),(0,4),(1,0),(1,5),(2,0),(2,5),(3,0),(3,5),(4,0),(4,5),(5,1),(5,2),(5,3),(5,4)]) 8 rfl (by decide +kernel) (by decide +kernel) (by rfl) ?_
           refine th_n ?_
           refine AC.weak (Weak.freeze (i := 6) rfl rfl (ownl _ _) (ownt _ _)) ?_
           refine AC.ret ?_
           refine bq_r ?_
           (have q8 : F.2 = false := (by simpa using h7); rw [hSe, if_neg (by rw [q8]; simp)] at hrun; rw [← hrun] at e; exact ret0 rfl (by rw [e]; repeat (first | exact rfl | exact DLead.same | refine ⟨_, _, rfl, ?_, ?_⟩ | refine ⟨_, rfl, ?_⟩)))
          ·refine AC.skip ?_
           refine th_n ?_
           refine AC.region ?_
           refine AL.p (by exact mv2 rfl) rfl ?_
           refine AL.p (by exact mv1 rfl) rfl ?_
           refine AL.p (by exact mv1 rfl) rfl ?_
           refine AL.p (by exact g_build rfl rfl rfl) rfl ?_
           refine AL.q (by exact h_litF rfl rfl rfl rfl rfl rfl rfl rfl) rfl ?_
           refine AL.q (by exact h_appendF acc [⟨ea + ds[k].tmod (last - ea + 1), u⟩] (.own rfl rfl (tfL_len _).symm) (.view rfl) (by rw [List.length_append]; simp only [List.length_cons, List.length_nil]; omega) (by simp)) rfl ?_
           refine AL.p (by exact as2 rfl) rfl ?_
           refine AL.nil ?_
           refine ib_n ?_
           refine th_n ?_
           refine AC.region ?_
           refine AL.p (by exact g_arith rfl rfl rfl (by exact wrap_i64 (by omega))) rfl ?_
           refine AL.p (by exact mv1 rfl) rfl ?_
           refine AL.nil ?_
           refine th_n ?_
           have q8 : F.2 = true := by simpa using h7
           have hrun2 := hrun
           rw [hSe, if_pos q8] at hrun2
           rw [hSe] at hI2
           exact ⟨(k + 1, F.1, acc ++ [⟨ea + ds[k].tmod (last - ea + 1), u⟩]), ⟨by omega, hI2.mono (by omega), by rw [List.length_append]; simp only [List.length_cons, List.length_nil]; omega, hrun2⟩, by dsimp only; omega, Weak.ren _ [(100, 100), (101, _), (102, _)] hC rfl (by repeat (first | exact True.intro | refine And.intro ?_ ?_ | exact DLead.same | exact rfl | refine ⟨_, rfl, ?_⟩)) (by repeat (first | exact True.intro | refine And.intro ?_ ?_ | exact DLead.same | exact rfl | refine ⟨_, _, rfl, rfl, ?_⟩ | refine ⟨_, rfl, ?_⟩ | refine ⟨_, _, rfl, ?_, ?_⟩)) rfl rfl rfl⟩
     ·refine AC.exit ?_
      refine th_e ?_
      refine th_e ?_
      refine ib_y ?_
      refine th_n ?_
      refine AC.seq ?_
      refine AC.drawn' mixed_ok [[], [], [1], [1,2], [1,2,3], [0], [0,1,2,3,4,5], [0,1,2,3,4,5,6]] (by decide) ?_
      refine DF.op 0 [] 8 rfl rfl rfl (.free rfl (NOp.of (by exact mv2 rfl))) rfl ?_
      refine DF.op 1 [] 8 rfl rfl rfl (.free rfl (NOp.of (by exact mv3 rfl))) rfl ?_
      refine DF.op 2 [1] 8 rfl rfl rfl (.free rfl (NOp.of (by exact g_nilP rfl))) rfl ?_
      refine DF.op 3 [1,2] 8 rfl rfl rfl (.free rfl (NOp.of (by exact g_fa_ptr rfl rfl rfl rfl rfl))) rfl ?_
      refine DF.op 4 [1,2,3] 8 rfl rfl rfl (.free rfl (NOp.of (by exact g_load_ptr rfl rfl rfl rfl rfl))) rfl ?_
      refine DF.op 5 [0] 8 rfl rfl rfl (.free rfl (NOp.of (by exact as2 rfl))) rfl ?_
      refine DF.op 6 [0,1,2,3,4,5] 8 rfl rfl rfl (.free rfl (NOp.of (by exact as1 rfl))) rfl ?_
      refine DF.op 7 [0,1,2,3,4,5,6] 8 rfl rfl rfl (.free rfl (NOp.of (by exact as1 rfl))) rfl ?_
      refine DF.fin (ps := [(0,1),(0,2),(0,3),(0,4),(1,0),(1,5),(2,0),(2,5),(3,0),(3,5),(4,0),(4,5),(5,1),(5,2),(5,3),(5,4)]) 8 rfl (by decide +kernel) (by decide +kernel) (by rfl) ?_
      refine th_n ?_
      refine AC.weak (Weak.freeze (i := 6) rfl rfl (ownl _ _) (ownt _ _)) ?_
      refine AC.ret ?_
      refine bq_r ?_
      (have e2 : k = ds.length := (by omega); rw [e2, List.drop_length, runQ] at hrun; rw [← hrun] at e; exact ret0 rfl (by rw [e]; repeat (first | exact rfl | exact DLead.same | refine ⟨_, _, rfl, ?_, ?_⟩ | refine ⟨_, rfl, ?_⟩)))
theorem en_iSim : Enters Tryz.prog 5 := enters_of Tryz.func5 rfl rfl
def chkB (N : Net) (c : Ck) (l : List Dl) (x : Tf) : Bool :=
 (decide (0 ≤ x.t) && decide (x.t ≤ (N.ts.length : Int) - 1)) && (decide (0 ≤ iAt c.since x.t.toNat) && ((decide (earI c l x.t.toNat ≤ x.tm) && decide (x.tm ≤ lsN c.since l c.since.length)) && (fireQ N c x.t.toNat x.tm).2))
def checkQ (N : Net) (l : List Dl) : List Tf → Ck → Bool
 | [], _ => true
 | x :: xs, c => if chkB N c l x = true then checkQ N l xs (fireQ N c x.t.toNat x.tm).1 else false
def trR (s : Stg) (l : List Dl) (run : List Tf) : Bool × Bool := if (validD s l && !decide ((run.length : Int) > 60)) = true then (checkQ s.net l run (newK s), true) else (false, false)
theorem chkB_I {N : Net} {c : Ck} {l : List Dl} {T : Int} {x : Tf} (h : CkI N c T) (hd : Dok l N.ts.length) (hT : 0 ≤ T) (hx : chkB N c l x = true) : CkI N (fireQ N c x.t.toNat x.tm).1 (T + 100) := by
 simp only [chkB, Bool.and_eq_true, decide_eq_true_eq] at hx
 obtain ⟨⟨h1, h2⟩, h3, ⟨h4, h5⟩, h6⟩ := hx
 have h7 := lsN_le h hd hT c.since.length (by rw [h.len]; exact Nat.le_refl _)
 have h8 : c.now ≤ earI c l x.t.toNat := Int.le_max_right ..
 have h9 := h.n
 exact fireQ_I h (by omega) (by omega) (by omega)
set_option maxHeartbeats 16000000 in
theorem l23Check_spec (s : Stg) (l : List Dl) (run : List Tf) (hB : StgB s) (hv : validD s l = true) (hl : run.length ≤ 60) (hr : ∀ x, x ∈ run → -1000000 ≤ x.tm ∧ x.tm ≤ 1000000 ∧ -1000000 ≤ x.t ∧ x.t ≤ 1000000) : ASpec Tryz.prog 34 [stgA s, .d (vDls l), .d (vTfs run)] [] (Pure1 (aT (checkQ s.net l run (newK s)))) := by
 obtain ⟨hg, hd⟩ := Dok.of hv
 have hgn := (goodS_bits hg).1
 have hK := newK_I hg
 have hN := l23New_spec s hB hg
 have htl : s.net.ts.length ≤ 24 := by have := goodS_few hg; have := (goodS_bits hg).2.2; omega
 have hdl := hd.e
 obtain ⟨Z, hZ⟩ : ∃ Z, Z = checkQ s.net l run (newK s) := ⟨_, rfl⟩
 rw [← hZ]
 obtain ⟨K, hKK⟩ : ∃ K, K = newK s := ⟨_, rfl⟩
 rw [← hKK] at hK hN hZ
 clear hKK
 refine ASpec.of Tryz.func34 rfl rfl fun C hC => ?_
 refine AC.seq ?_
 refine AC.region ?_
 refine AL.q (by exact h_boxF rfl rfl) rfl ?_
 refine AL.p (by exact as1 rfl) rfl ?_
 refine AL.nil ?_
 refine th_n ?_
 refine AC.seq ?_
 refine AC.region ?_
 refine AL.p (by exact g_load_refN rfl rfl rfl rfl) rfl ?_
 refine AL.q (by exact h_fun (cs := []) en_l23New rfl rfl (by repeat (first | exact rfl | exact DLead.same | refine ⟨_, _, rfl, ?_, ?_⟩ | refine ⟨_, rfl, ?_⟩)) (by repeat (exact True.intro)) hN rfl rfl rfl rfl) rfl ?_
 refine AL.p (by exact as3 rfl) rfl ?_
 refine AL.nil ?_
 refine th_n ?_
 refine AC.seq ?_
 refine AC.seq ?_
 refine AC.region ?_
 refine AL.p (by exact mv1 rfl) rfl ?_
 refine AL.p (by exact g_len_view (k := run.length) rfl rfl (tfL_len _)) rfl ?_
 refine AL.p (by exact mv1 rfl) rfl ?_
 refine AL.nil ?_
 refine th_n ?_
 refine AC.block ?_
 refine AC.loop (ι := Nat × Ck) (fun x => ⟨83, 900, [(1, .d (vDls l)), (7, .ptr 100 0), (12, .d (vTfs run)), (13, aI run.length), (14, aI x.1)], chL (lkChs s.net x.2 100 101)⟩) (fun x => x.1 ≤ run.length ∧ CkI s.net x.2 (100 * x.1) ∧ checkQ s.net l (run.drop x.1) x.2 = Z) (fun x => run.length - x.1) ((0, K)) ?_ (⟨Nat.zero_le _, hK, hZ.symm⟩) ?_
 ·exact Weak.ren _ [(100, _), (101, _)] hC rfl (by repeat (first | exact True.intro | refine And.intro ?_ ?_ | exact DLead.same | exact rfl | refine ⟨_, rfl, ?_⟩)) (by repeat (first | exact True.intro | refine And.intro ?_ ?_ | exact DLead.same | exact rfl | refine ⟨_, _, rfl, rfl, ?_⟩ | refine ⟨_, rfl, ?_⟩ | refine ⟨_, _, rfl, ?_, ?_⟩)) rfl rfl rfl
 ·rintro ⟨k, c⟩ ⟨hk, hI, hrun⟩
  dsimp only at hk hI hrun ⊢
  refine AC.seq ?_
  refine AC.region ?_
  refine AL.p (by exact g_cmp rfl rfl rfl) rfl ?_
  refine AL.nil ?_
  refine th_n ?_
  refine AC.seq ?_
  refine AC.condD rfl (fun h0 => ?_) (fun h0 => ?_)
  ·refine AC.skip ?_
   refine th_n ?_
   refine AC.seq ?_
   refine AC.block ?_
   refine AC.seq ?_
   have hk1 : k < run.length := by omega
   have hget := tfL_get hk1
   have hxb := hr _ (List.getElem_mem hk1)
   have hb := hI.B hd (by omega)
   have hcl := hI.len
   have hL1 := l1In_spec run[k].t 0 ((s.net.ts.length : Int) - 1)
   have hLs := lkLast_spec s.net c l hb (by omega)
   have hlin := lsN_in hb c.since.length (Nat.le_refl _)
   have hdrop : run.drop k = run[k] :: run.drop (k + 1) := List.drop_eq_getElem_cons hk1
   rw [hdrop, checkQ] at hrun
   have hCI := chkB_I (x := run[k]) hI hd (by omega)
   obtain ⟨x, hx⟩ : ∃ x, x = run[k] := ⟨_, rfl⟩
   rw [← hx] at hget hxb hL1 hrun hCI
   have hch : chkB s.net c l x = ((decide (0 ≤ x.t) && decide (x.t ≤ (s.net.ts.length : Int) - 1)) && (decide (0 ≤ iAt c.since x.t.toNat) && ((decide (earI c l x.t.toNat ≤ x.tm) && decide (x.tm ≤ lsN c.since l c.since.length)) && (fireQ s.net c x.t.toNat x.tm).2))) := rfl
   have hTi : (decide (0 ≤ x.t) && decide (x.t ≤ (s.net.ts.length : Int) - 1)) = true → x.t = ((x.t.toNat : Nat) : Int) ∧ x.t.toNat < s.net.ts.length := fun q => by simp only [Bool.and_eq_true, decide_eq_true_eq] at q; omega
   have hear : earI c l x.t.toNat = max (iAt c.since x.t.toNat + (dAt l x.t.toNat).low) c.now := rfl
   obtain ⟨b1, hb1⟩ : ∃ b, b = (decide (0 ≤ x.t) && decide (x.t ≤ (s.net.ts.length : Int) - 1)) := ⟨_, rfl⟩
   rw [← hb1] at hL1 hch hTi
   have hrw : b1 = true → (ints c.since)[x.t.toNat]? = some [dI (iAt c.since x.t.toNat)] := fun q => ints_iAt (by have := hTi q; omega)
   have hrl : b1 = true → (dlL l)[x.t.toNat]? = some [dI (dAt l x.t.toNat).low, dI (dAt l x.t.toNat).high] := fun q => dlL_get (by have := hTi q; omega)
   have hbb : b1 = true → _ := fun q => hb.at (k := x.t.toNat) (by have := hTi q; omega)
   have hFi : b1 = true → ASpec Tryz.prog 59 [.ptr 0 0, aI x.t, aI x.tm] (lkChs s.net c 0 1) (Fun1 (aT (fireQ s.net c x.t.toNat x.tm).2) (lkChs s.net (fireQ s.net c x.t.toNat x.tm).1 0 1)) := fun q => by have := lkFire_spec s.net c x.t.toNat x.tm hB.n hgn hI.m hI.len (hTi q).2; rwa [← (hTi q).1] at this
   obtain ⟨F, hF⟩ : ∃ F, F = fireQ s.net c x.t.toNat x.tm := ⟨_, rfl⟩
   rw [← hF] at hFi hch hrun hCI
   obtain ⟨last, hlast⟩ : ∃ last, last = lsN c.since l c.since.length := ⟨_, rfl⟩
   rw [← hlast] at hLs hch hlin
   clear hx hb1 hF hlast
   refine AC.region ?_
   refine AL.p (by exact g_ia_view rfl rfl rfl rfl rfl (by rfl) (by assumption)) rfl ?_
   refine AL.p (by exact g_load_refN rfl rfl rfl rfl) rfl ?_
   refine AL.q (by exact h_alloc rfl) rfl ?_
   refine AL.q (by exact h_store rfl rfl rfl rfl rfl rfl) rfl ?_
   refine AL.nil ?_
   refine th_n ?_
   refine AC.seq ?_
   refine AC.drawn' mixed_ok [[], [0], [], [2], [2,3], [0,1,2,3,4], [0,1,2,3,4,5], [0,1,2,3,4,5,6], [0,1,2,3,4,5,6,7], [0,1,2,3,4,5,6,7,8], [0,1,2,3,4,5,6,7,8,9], [0,1,2,3,4,5,6,7,8,9,10], [0,1,2,3,4,5,6,7], [0,1,2,3,4,5,6,7,12], [0,1,2,3,4,5,6,7,8,9,10,11,12,13], [0,1,2,3,4,5,6,7,8,9,10,11,12,13,14], [0,1,2,3,4,5,6,7,8,9,10,11,12,13,14,15], [0,1,2,3,4,5,6,7,8,9,10,11,12,13,14,15,16], [0,1,2,3,4,5,6,7,8,9,10,11,12,13,14,15,16,17], [0,1,2,3,4,5,6,7,8,9,10,11,12,13,14,15,16,17,18], [0,1,2,3,4,5,6,7,8,9,10,11,12,13,14,15,16,17,18,19], [0,1,2,3,4,5,6,7,8,9,10,11,12,13,14,15,16,17,18], [0,1,2,3,4,5,6,7,8,9,10,11,12,13,14,15,16,17,18,21], [0,1,2,3,4,5,6,7,8,9,10,11,12,13,14,15,16,17,18,21,22], [0,1,2,3,4,5,6,7,8,9,10,11,12,13,14,15,16,17,18,21,22,23], [0,1,2,3,4,5,6,7,8,9,10,11,12,13,14,15,16,17,18,19,20,21,22,23,24], [0,1,2,3,4,5,6,7,8,9,10,11,12,13,14,15,16,17,18,19,20,21,22,23,24,25], [0,1,2,3,4,5,6,7,8,9,10,11,12,13,14,15,16,17,18,19,20,21,22,23,24,25,26], [0,1,2,3,4,5,6,7,8,9,10,11,12,13,14,15,16,17,18,19,20,21,22,23,24,25,26,27], [0,1,2,3,4,5,6,7,8,9,10,11,12,13,14,15,16,17,18,19,20,21,22,23,24,25,26,27,28], [0,1,2,3,4,5,6,7,8,9,10,11,12,13,14,15,16,17,18,19,20,21,22,23,24,25,26,27], [0,1,2,3,4,5,6,7,8,9,10,11,12,13,14,15,16,17,18,19,20,21,22,23,24,25,26,27,30], [0,1,2,3,4,5,6,7,8,9,10,11,12,13,14,15,16,17,18,19,20,21,22,23,24,25,26,27,30,31], [0,1,2,3,4,5,6,7,8,9,10,11,12,13,14,15,16,17,18,19,20,21,22,23,24,25,26,27,30,31,32], [0,1,2,3,4,5,6,7,8,9,10,11,12,13,14,15,16,17,18,19,20,21,22,23,24,25,26,27], [0,1,2,3,4,5,6,7,8,9,10,11,12,13,14,15,16,17,18,19,20,21,22,23,24,25,26,27,34], [0,1,2,3,4,5,6,7,8,9,10,11,12,13,14,15,16,17,18,19,20,21,22,23,24,25,26,27,30,31,32,33,34,35], [0,1,2,3,4,5,6,7,8,9,10,11,12,13,14,15,16,17,18,19,20,21,22,23,24,25,26,27,30,31,32,33,34,35,36], [0,1,2,3,4,5,6,7,8,9,10,11,12,13,14,15,16,17,18,19,20,21,22,23,24,25,26,27], [0,1,2,3,4,5,6,7,8,9,10,11,12,13,14,15,16,17,18,19,20,21,22,23,24,25,26,27], [0,1,2,3,4,5,6,7,8,9,10,11,12,13,14,15,16,17,18,19,20,21,22,23,24,25,26,27,39], [0,1,2,3,4,5,6,7,8,9,10,11,12,13,14,15,16,17,18,19,20,21,22,23,24,25,26,27,38,39,40], [0,1,2,3,4,5,6,7,8,9,10,11,12,13,14,15,16,17,18,19,20,21,22,23,24,25,26,27,38,39,40,41], [0,1,2,3,4,5,6,7,8,9,10,11,12,13,14,15,16,17,18,19,20,21,22,23,24,25,26,27,38,39,40,41,42], [0,1,2,3,4,5,6,7,8,9,10,11,12,13,14,15,16,17,18,19,20,21,22,23,24,25,26,27,30,31,32,33,34,35,36,37,38,39,40,41,42,43], [0,1,2,3,4,5,6,7,8,9,10,11,12,13,14,15,16,17,18,19,20,21,22,23,24,25,26,27,28,29,30,31,32,33,34,35,36,37,38,39,40,41,42,43,44], [0,1,2,3,4,5,6,7,8,9,10,11,12,13,14,15,16,17,18,19,20,21,22,23,24,25,26,27,28,29,30,31,32,33,34,35,36,37,38,39,40,41,42,43,44,45], [0,1,2,3,4,5,6,7,8,9,10,11,12,13,14,15,16,17,18,19,20,21,22,23,24,25,26,27,28,29,30,31,32,33,34,35,36,37,38,39,40,41,42,43,44,45,46], [0,1,2,3,4,5,6,7,8,9,10,11,12,13,14,15,16,17,18,19,20,21,22,23,24,25,26,27,28,29,30,31,32,33,34,35,36,37,38,39,40,41,42,43,44,45,46,47], [0,1,2,3,4,5,6,7,8,9,10,11,12,13,14,15,16,17,18,19,20,21,22,23,24,25,26,27,28,29,30,31,32,33,34,35,36,37,38,39,40,41,42,43,44,45,46,47,48], [0,1,2,3,4,5,6,7,8,9,10,11,12,13,14,15,16,17,18,19,20,21,22,23,24,25,26,27,28,29,30,31,32,33,34,35,36,37,38,39,40,41,42,43,44,45,46,47], [0,1,2,3,4,5,6,7,8,9,10,11,12,13,14,15,16,17,18,19,20,21,22,23,24,25,26,27,28,29,30,31,32,33,34,35,36,37,38,39,40,41,42,43,44,45,46,47], [0,1,2,3,4,5,6,7,8,9,10,11,12,13,14,15,16,17,18,19,20,21,22,23,24,25,26,27,28,29,30,31,32,33,34,35,36,37,38,39,40,41,42,43,44,45,46,47,50,51], [0,1,2,3,4,5,6,7,8,9,10,11,12,13,14,15,16,17,18,19,20,21,22,23,24,25,26,27,28,29,30,31,32,33,34,35,36,37,38,39,40,41,42,43,44,45,46,47,48,49,50,51,52], [0,1,2,3,4,5,6,7,8,9,10,11,12,13,14,15,16,17,18,19,20,21,22,23,24,25,26,27,28,29,30,31,32,33,34,35,36,37,38,39,40,41,42,43,44,45,46,47,48,49,50,51,52,53], [0,1,2,3,4,5,6,7,8,9,10,11,12,13,14,15,16,17,18,19,20,21,22,23,24,25,26,27,28,29,30,31,32,33,34,35,36,37,38,39,40,41,42,43,44,45,46,47,48,49,50,51,52,53,54], [0,1,2,3,4,5,6,7,8,9,10,11,12,13,14,15,16,17,18,19,20,21,22,23,24,25,26,27,28,29,30,31,32,33,34,35,36,37,38,39,40,41,42,43,44,45,46,47,48,49,50,51,52,53,54,55], [0,1,2,3,4,5,6,7,8,9,10,11,12,13,14,15,16,17,18,19,20,21,22,23,24,25,26,27,28,29,30,31,32,33,34,35,36,37,38,39,40,41,42,43,44,45,46,47,48,49,50,51,52,53,54,55], [0,1,2,3,4,5,6,7,8,9,10,11,12,13,14,15,16,17,18,19,20,21,22,23,24,25,26,27,28,29,30,31,32,33,34,35,36,37,38,39,40,41,42,43,44,45,46,47,48,49,50,51,52,53,54,55,57], [0,1,2,3,4,5,6,7,8,9,10,11,12,13,14,15,16,17,18,19,20,21,22,23,24,25,26,27,28,29,30,31,32,33,34,35,36,37,38,39,40,41,42,43,44,45,46,47,48,49,50,51,52,53,54,55], [0,1,2,3,4,5,6,7,8,9,10,11,12,13,14,15,16,17,18,19,20,21,22,23,24,25,26,27,28,29,30,31,32,33,34,35,36,37,38,39,40,41,42,43,44,45,46,47,48,49,50,51,52,53,54,55,59], [0,1,2,3,4,5,6,7,8,9,10,11,12,13,14,15,16,17,18,19,20,21,22,23,24,25,26,27,28,29,30,31,32,33,34,35,36,37,38,39,40,41,42,43,44,45,46,47,48,49,50,51,52,53,54,55,56,57,58,59,60], [0,1,2,3,4,5,6,7,8,9,10,11,12,13,14,15,16,17,18,19,20,21,22,23,24,25,26,27,28,29,30,31,32,33,34,35,36,37,38,39,40,41,42,43,44,45,46,47,48,49,50,51,52,53,54,55,56,57,58,59,60,61], [0,1,2,3,4,5,6,7,8,9,10,11,12,13,14,15,16,17,18,19,20,21,22,23,24,25,26,27,28,29,30,31,32,33,34,35,36,37,38,39,40,41,42,43,44,45,46,47,48,49,50,51,52,53,54,55,56,57,58,59,60,61,62]] (by decide) ?_
   refine DF.op 0 [] 64 rfl rfl rfl (.free rfl (NOp.of (by exact g_fa_ptr rfl rfl rfl rfl rfl))) rfl ?_
   refine DF.op 1 [0] 64 rfl rfl rfl (.free rfl (NOp.of (by exact g_load_ptr rfl rfl rfl rfl rfl))) rfl ?_
   refine DF.op 2 [] 64 rfl rfl rfl (.free rfl (NOp.of (by exact mv1 rfl))) rfl ?_
   refine DF.op 3 [2] 64 rfl rfl rfl (.free rfl (NOp.of (by exact g_len_view (k := s.net.ts.length) rfl rfl ((dlL_len _).trans hdl)))) rfl ?_
   refine DF.op 4 [2,3] 64 rfl rfl rfl (.free rfl (NOp.of (by exact g_arith rfl rfl rfl (by exact wrap_i64 (by omega))))) rfl ?_
   refine DF.op 5 [0,1,2,3,4] 64 rfl rfl rfl (.free rfl (by exact h_pure en_l1In rfl rfl (by repeat (first | exact rfl | exact DLead.same | refine ⟨_, _, rfl, ?_, ?_⟩)) hL1 rfl)) rfl ?_
   refine DF.op 6 [0,1,2,3,4,5] 64 rfl rfl rfl (.free rfl (NOp.of (by exact g_not rfl))) rfl ?_
   refine DF.op 7 [0,1,2,3,4,5,6] 64 rfl rfl rfl (.free rfl (NOp.of (by exact mv1 rfl))) rfl ?_
   refine DF.caseB 7 rfl (fun h1 => ?_) (fun h1 => ?_)
   ·refine DF.op (ids := []) 8 [0,1,2,3,4,5,6,7] 64 rfl rfl rfl (.no rfl rfl rfl rfl rfl rfl) rfl ?_
    refine DF.op (ids := []) 9 [0,1,2,3,4,5,6,7,8] 64 rfl rfl rfl (.no rfl rfl rfl rfl rfl rfl) rfl ?_
    refine DF.op (ids := []) 10 [0,1,2,3,4,5,6,7,8,9] 64 rfl rfl rfl (.no rfl rfl rfl rfl rfl rfl) rfl ?_
    refine DF.op (ids := []) 11 [0,1,2,3,4,5,6,7,8,9,10] 64 rfl rfl rfl (.no rfl rfl rfl rfl rfl rfl) rfl ?_
    refine DF.op (ids := []) 12 [0,1,2,3,4,5,6,7] 64 rfl rfl rfl (.no rfl rfl rfl rfl rfl rfl) rfl ?_
    refine DF.op (ids := []) 13 [0,1,2,3,4,5,6,7,12] 64 rfl rfl rfl (.no rfl rfl rfl rfl rfl rfl) rfl ?_
    refine DF.op (ids := []) 14 [0,1,2,3,4,5,6,7,8,9,10,11,12,13] 64 rfl rfl rfl (.no rfl rfl rfl rfl rfl rfl) rfl ?_
    refine DF.op (ids := []) 15 [0,1,2,3,4,5,6,7,8,9,10,11,12,13,14] 64 rfl rfl rfl (.no rfl rfl rfl rfl rfl rfl) rfl ?_
    refine DF.op (ids := []) 16 [0,1,2,3,4,5,6,7,8,9,10,11,12,13,14,15] 64 rfl rfl rfl (.no rfl rfl rfl rfl rfl rfl) rfl ?_
    refine DF.op 17 [0,1,2,3,4,5,6,7,8,9,10,11,12,13,14,15,16] 64 rfl rfl rfl (.free rfl (NOp.of (by exact g_pickT (r := .d _) rfl rfl))) rfl ?_
    refine DF.op 18 [0,1,2,3,4,5,6,7,8,9,10,11,12,13,14,15,16,17] 64 rfl rfl rfl (.free rfl (NOp.of (by exact mv1 rfl))) rfl ?_
    refine DF.op (ids := []) 19 [0,1,2,3,4,5,6,7,8,9,10,11,12,13,14,15,16,17,18] 64 rfl rfl rfl (.no rfl rfl rfl rfl rfl rfl) rfl ?_
    refine DF.op (ids := []) 20 [0,1,2,3,4,5,6,7,8,9,10,11,12,13,14,15,16,17,18,19] 64 rfl rfl rfl (.no rfl rfl rfl rfl rfl rfl) rfl ?_
    refine DF.op (ids := []) 21 [0,1,2,3,4,5,6,7,8,9,10,11,12,13,14,15,16,17,18] 64 rfl rfl rfl (.no rfl rfl rfl rfl rfl rfl) rfl ?_
    refine DF.op (ids := []) 22 [0,1,2,3,4,5,6,7,8,9,10,11,12,13,14,15,16,17,18,21] 64 rfl rfl rfl (.no rfl rfl rfl rfl rfl rfl) rfl ?_
    refine DF.op (ids := []) 23 [0,1,2,3,4,5,6,7,8,9,10,11,12,13,14,15,16,17,18,21,22] 64 rfl rfl rfl (.no rfl rfl rfl rfl rfl rfl) rfl ?_
    refine DF.op (ids := []) 24 [0,1,2,3,4,5,6,7,8,9,10,11,12,13,14,15,16,17,18,21,22,23] 64 rfl rfl rfl (.no rfl rfl rfl rfl rfl rfl) rfl ?_
    refine DF.op (ids := []) 25 [0,1,2,3,4,5,6,7,8,9,10,11,12,13,14,15,16,17,18,19,20,21,22,23,24] 64 rfl rfl rfl (.no rfl rfl rfl rfl rfl rfl) rfl ?_
    refine DF.op 26 [0,1,2,3,4,5,6,7,8,9,10,11,12,13,14,15,16,17,18,19,20,21,22,23,24,25] 64 rfl rfl rfl (.free rfl (NOp.of (by exact g_pickT (r := .d _) rfl rfl))) rfl ?_
    refine DF.op 27 [0,1,2,3,4,5,6,7,8,9,10,11,12,13,14,15,16,17,18,19,20,21,22,23,24,25,26] 64 rfl rfl rfl (.free rfl (NOp.of (by exact mv1 rfl))) rfl ?_
    refine DF.op (ids := []) 28 [0,1,2,3,4,5,6,7,8,9,10,11,12,13,14,15,16,17,18,19,20,21,22,23,24,25,26,27] 64 rfl rfl rfl (.no rfl rfl rfl rfl rfl rfl) rfl ?_
    refine DF.op (ids := []) 29 [0,1,2,3,4,5,6,7,8,9,10,11,12,13,14,15,16,17,18,19,20,21,22,23,24,25,26,27,28] 64 rfl rfl rfl (.no rfl rfl rfl rfl rfl rfl) rfl ?_
    refine DF.op (ids := []) 30 [0,1,2,3,4,5,6,7,8,9,10,11,12,13,14,15,16,17,18,19,20,21,22,23,24,25,26,27] 64 rfl rfl rfl (.no rfl rfl rfl rfl rfl rfl) rfl ?_
    refine DF.op (ids := []) 31 [0,1,2,3,4,5,6,7,8,9,10,11,12,13,14,15,16,17,18,19,20,21,22,23,24,25,26,27,30] 64 rfl rfl rfl (.no rfl rfl rfl rfl rfl rfl) rfl ?_
    refine DF.op (ids := []) 32 [0,1,2,3,4,5,6,7,8,9,10,11,12,13,14,15,16,17,18,19,20,21,22,23,24,25,26,27,30,31] 64 rfl rfl rfl (.no rfl rfl rfl rfl rfl rfl) rfl ?_
    refine DF.op (ids := []) 33 [0,1,2,3,4,5,6,7,8,9,10,11,12,13,14,15,16,17,18,19,20,21,22,23,24,25,26,27,30,31,32] 64 rfl rfl rfl (.no rfl rfl rfl rfl rfl rfl) rfl ?_
    refine DF.op (ids := []) 34 [0,1,2,3,4,5,6,7,8,9,10,11,12,13,14,15,16,17,18,19,20,21,22,23,24,25,26,27] 64 rfl rfl rfl (.no rfl rfl rfl rfl rfl rfl) rfl ?_
    refine DF.op (ids := []) 35 [0,1,2,3,4,5,6,7,8,9,10,11,12,13,14,15,16,17,18,19,20,21,22,23,24,25,26,27,34] 64 rfl rfl rfl (.no rfl rfl rfl rfl rfl rfl) rfl ?_
    refine DF.op (ids := []) 36 [0,1,2,3,4,5,6,7,8,9,10,11,12,13,14,15,16,17,18,19,20,21,22,23,24,25,26,27,30,31,32,33,34,35] 64 rfl rfl rfl (.no rfl rfl rfl rfl rfl rfl) rfl ?_
    refine DF.op (ids := []) 37 [0,1,2,3,4,5,6,7,8,9,10,11,12,13,14,15,16,17,18,19,20,21,22,23,24,25,26,27,30,31,32,33,34,35,36] 64 rfl rfl rfl (.no rfl rfl rfl rfl rfl rfl) rfl ?_
    refine DF.op (ids := []) 38 [0,1,2,3,4,5,6,7,8,9,10,11,12,13,14,15,16,17,18,19,20,21,22,23,24,25,26,27] 64 rfl rfl rfl (.no rfl rfl rfl rfl rfl rfl) rfl ?_
    refine DF.op (ids := []) 39 [0,1,2,3,4,5,6,7,8,9,10,11,12,13,14,15,16,17,18,19,20,21,22,23,24,25,26,27] 64 rfl rfl rfl (.no rfl rfl rfl rfl rfl rfl) rfl ?_
    refine DF.op (ids := []) 40 [0,1,2,3,4,5,6,7,8,9,10,11,12,13,14,15,16,17,18,19,20,21,22,23,24,25,26,27,39] 64 rfl rfl rfl (.no rfl rfl rfl rfl rfl rfl) rfl ?_
    refine DF.op (ids := []) 41 [0,1,2,3,4,5,6,7,8,9,10,11,12,13,14,15,16,17,18,19,20,21,22,23,24,25,26,27,38,39,40] 64 rfl rfl rfl (.no rfl rfl rfl rfl rfl rfl) rfl ?_
    refine DF.op (ids := []) 42 [0,1,2,3,4,5,6,7,8,9,10,11,12,13,14,15,16,17,18,19,20,21,22,23,24,25,26,27,38,39,40,41] 64 rfl rfl rfl (.no rfl rfl rfl rfl rfl rfl) rfl ?_
    refine DF.op (ids := []) 43 [0,1,2,3,4,5,6,7,8,9,10,11,12,13,14,15,16,17,18,19,20,21,22,23,24,25,26,27,38,39,40,41,42] 64 rfl rfl rfl (.no rfl rfl rfl rfl rfl rfl) rfl ?_
    refine DF.op (ids := []) 44 [0,1,2,3,4,5,6,7,8,9,10,11,12,13,14,15,16,17,18,19,20,21,22,23,24,25,26,27,30,31,32,33,34,35,36,37,38,39,40,41,42,43] 64 rfl rfl rfl (.no rfl rfl rfl rfl rfl rfl) rfl ?_
    refine DF.op (ids := []) 45 [0,1,2,3,4,5,6,7,8,9,10,11,12,13,14,15,16,17,18,19,20,21,22,23,24,25,26,27,28,29,30,31,32,33,34,35,36,37,38,39,40,41,42,43,44] 64 rfl rfl rfl (.no rfl rfl rfl rfl rfl rfl) rfl ?_
    refine DF.op 46 [0,1,2,3,4,5,6,7,8,9,10,11,12,13,14,15,16,17,18,19,20,21,22,23,24,25,26,27,28,29,30,31,32,33,34,35,36,37,38,39,40,41,42,43,44,45] 64 rfl rfl rfl (.free rfl (NOp.of (by exact g_pickT (r := .d _) rfl rfl))) rfl ?_
    refine DF.op 47 [0,1,2,3,4,5,6,7,8,9,10,11,12,13,14,15,16,17,18,19,20,21,22,23,24,25,26,27,28,29,30,31,32,33,34,35,36,37,38,39,40,41,42,43,44,45,46] 64 rfl rfl rfl (.free rfl (NOp.of (by exact mv1 rfl))) rfl ?_
    refine DF.op (ids := []) 48 [0,1,2,3,4,5,6,7,8,9,10,11,12,13,14,15,16,17,18,19,20,21,22,23,24,25,26,27,28,29,30,31,32,33,34,35,36,37,38,39,40,41,42,43,44,45,46,47] 64 rfl rfl rfl (.no rfl rfl rfl rfl rfl rfl) rfl ?_
    refine DF.op (ids := []) 49 [0,1,2,3,4,5,6,7,8,9,10,11,12,13,14,15,16,17,18,19,20,21,22,23,24,25,26,27,28,29,30,31,32,33,34,35,36,37,38,39,40,41,42,43,44,45,46,47,48] 64 rfl rfl rfl (.no rfl rfl rfl rfl rfl rfl) rfl ?_
    refine DF.op (ids := []) 50 [0,1,2,3,4,5,6,7,8,9,10,11,12,13,14,15,16,17,18,19,20,21,22,23,24,25,26,27,28,29,30,31,32,33,34,35,36,37,38,39,40,41,42,43,44,45,46,47] 64 rfl rfl rfl (.no rfl rfl rfl rfl rfl rfl) rfl ?_
    refine DF.op (ids := []) 51 [0,1,2,3,4,5,6,7,8,9,10,11,12,13,14,15,16,17,18,19,20,21,22,23,24,25,26,27,28,29,30,31,32,33,34,35,36,37,38,39,40,41,42,43,44,45,46,47] 64 rfl rfl rfl (.no rfl rfl rfl rfl rfl rfl) rfl ?_
    refine DF.op (ids := []) 52 [0,1,2,3,4,5,6,7,8,9,10,11,12,13,14,15,16,17,18,19,20,21,22,23,24,25,26,27,28,29,30,31,32,33,34,35,36,37,38,39,40,41,42,43,44,45,46,47,50,51] 64 rfl rfl rfl (.no rfl rfl rfl rfl rfl rfl) rfl ?_
    refine DF.op (ids := []) 53 [0,1,2,3,4,5,6,7,8,9,10,11,12,13,14,15,16,17,18,19,20,21,22,23,24,25,26,27,28,29,30,31,32,33,34,35,36,37,38,39,40,41,42,43,44,45,46,47,48,49,50,51,52] 64 rfl rfl rfl (.no rfl rfl rfl rfl rfl rfl) rfl ?_
    refine DF.op 54 [0,1,2,3,4,5,6,7,8,9,10,11,12,13,14,15,16,17,18,19,20,21,22,23,24,25,26,27,28,29,30,31,32,33,34,35,36,37,38,39,40,41,42,43,44,45,46,47,48,49,50,51,52,53] 64 rfl rfl rfl (.free rfl (NOp.of (by exact g_pickT (r := .d _) rfl rfl))) rfl ?_
    refine DF.op 55 [0,1,2,3,4,5,6,7,8,9,10,11,12,13,14,15,16,17,18,19,20,21,22,23,24,25,26,27,28,29,30,31,32,33,34,35,36,37,38,39,40,41,42,43,44,45,46,47,48,49,50,51,52,53,54] 64 rfl rfl rfl (.free rfl (NOp.of (by exact mv1 rfl))) rfl ?_
    refine DF.op (ids := []) 56 [0,1,2,3,4,5,6,7,8,9,10,11,12,13,14,15,16,17,18,19,20,21,22,23,24,25,26,27,28,29,30,31,32,33,34,35,36,37,38,39,40,41,42,43,44,45,46,47,48,49,50,51,52,53,54,55] 64 rfl rfl rfl (.no rfl rfl rfl rfl rfl rfl) rfl ?_
    refine DF.op (ids := []) 57 [0,1,2,3,4,5,6,7,8,9,10,11,12,13,14,15,16,17,18,19,20,21,22,23,24,25,26,27,28,29,30,31,32,33,34,35,36,37,38,39,40,41,42,43,44,45,46,47,48,49,50,51,52,53,54,55] 64 rfl rfl rfl (.no rfl rfl rfl rfl rfl rfl) rfl ?_
    refine DF.op (ids := []) 58 [0,1,2,3,4,5,6,7,8,9,10,11,12,13,14,15,16,17,18,19,20,21,22,23,24,25,26,27,28,29,30,31,32,33,34,35,36,37,38,39,40,41,42,43,44,45,46,47,48,49,50,51,52,53,54,55,57] 64 rfl rfl rfl (.no rfl rfl rfl rfl rfl rfl) rfl ?_
    refine DF.op (ids := []) 59 [0,1,2,3,4,5,6,7,8,9,10,11,12,13,14,15,16,17,18,19,20,21,22,23,24,25,26,27,28,29,30,31,32,33,34,35,36,37,38,39,40,41,42,43,44,45,46,47,48,49,50,51,52,53,54,55] 64 rfl rfl rfl (.no rfl rfl rfl rfl rfl rfl) rfl ?_
    refine DF.op (ids := []) 60 [0,1,2,3,4,5,6,7,8,9,10,11,12,13,14,15,16,17,18,19,20,21,22,23,24,25,26,27,28,29,30,31,32,33,34,35,36,37,38,39,40,41,42,43,44,45,46,47,48,49,50,51,52,53,54,55,59] 64 rfl rfl rfl (.no rfl rfl rfl rfl rfl rfl) rfl ?_
    refine DF.op (ids := []) 61 [0,1,2,3,4,5,6,7,8,9,10,11,12,13,14,15,16,17,18,19,20,21,22,23,24,25,26,27,28,29,30,31,32,33,34,35,36,37,38,39,40,41,42,43,44,45,46,47,48,49,50,51,52,53,54,55,56,57,58,59,60] 64 rfl rfl rfl (.no rfl rfl rfl rfl rfl rfl) rfl ?_
    refine DF.op (ids := []) 62 [0,1,2,3,4,5,6,7,8,9,10,11,12,13,14,15,16,17,18,19,20,21,22,23,24,25,26,27,28,29,30,31,32,33,34,35,36,37,38,39,40,41,42,43,44,45,46,47,48,49,50,51,52,53,54,55,56,57,58,59,60,61] 64 rfl rfl rfl (.no rfl rfl rfl rfl rfl rfl) rfl ?_
    refine DF.op 63 [0,1,2,3,4,5,6,7,8,9,10,11,12,13,14,15,16,17,18,19,20,21,22,23,24,25,26,27,28,29,30,31,32,33,34,35,36,37,38,39,40,41,42,43,44,45,46,47,48,49,50,51,52,53,54,55,56,57,58,59,60,61,62] 64 rfl rfl rfl (.free rfl (NOp.of (by exact g_pickT (r := .d _) rfl rfl))) rfl ?_
    refine DF.fin (ps := [(0,2),(0,3),(0,4),(1,2),(1,3),(1,4),(2,0),(2,1),(3,0),(3,1),(4,0),(4,1),(8,12),(8,13),(9,12),(9,13),(10,12),(10,13),(11,12),(11,13),(12,8),(12,9),(12,10),(12,11),(13,8),(13,9),(13,10),(13,11),(19,21),(19,22),(19,23),(19,24),(20,21),(20,22),(20,23),(20,24),(21,19),(21,20),(22,19),(22,20),(23,19),(23,20),(24,19),(24,20),(28,30),(28,31),(28,32),(28,33),(28,34),(28,35),(28,36),(28,37),(28,38),(28,39),(28,40),(28,41),(28,42),(28,43),(28,44),(29,30),(29,31),(29,32),(29,33),(29,34),(29,35),(29,36),(29,37),(29,38),(29,39),(29,40),(29,41),(29,42),(29,43),(29,44),(30,28),(30,29),(30,34),(30,35),(30,38),(30,39),(30,40),(30,41),(30,42),(30,43),(31,28),(31,29),(31,34),(31,35),(31,38),(31,39),(31,40),(31,41),(31,42),(31,43),(32,28),(32,29),(32,34),(32,35),(32,38),(32,39),(32,40),(32,41),(32,42),(32,43),(33,28),(33,29),(33,34),(33,35),(33,38),(33,39),(33,40),(33,41),(33,42),(33,43),(34,28),(34,29),(34,30),(34,31),(34,32),(34,33),(34,38),(34,39),(34,40),(34,41),(34,42),(34,43),(35,28),(35,29),(35,30),(35,31),(35,32),(35,33),(35,38),(35,39),(35,40),(35,41),(35,42),(35,43),(36,28),(36,29),(36,38),(36,39),(36,40),(36,41),(36,42),(36,43),(37,28),(37,29),(37,38),(37,39),(37,40),(37,41),(37,42),(37,43),(38,28),(38,29),(38,30),(38,31),(38,32),(38,33),(38,34),(38,35),(38,36),(38,37),(38,39),(38,40),(39,28),(39,29),(39,30),(39,31),(39,32),(39,33),(39,34),(39,35),(39,36),(39,37),(39,38),(40,28),(40,29),(40,30),(40,31),(40,32),(40,33),(40,34),(40,35),(40,36),(40,37),(40,38),(41,28),(41,29),(41,30),(41,31),(41,32),(41,33),(41,34),(41,35),(41,36),(41,37),(42,28),(42,29),(42,30),(42,31),(42,32),(42,33),(42,34),(42,35),(42,36),(42,37),(43,28),(43,29),(43,30),(43,31),(43,32),(43,33),(43,34),(43,35),(43,36),(43,37),(44,28),(44,29),(48,50),(48,51),(48,52),(49,50),(49,51),(49,52),(50,48),(50,49),(50,51),(51,48),(51,49),(51,50),(52,48),(52,49),(56,57),(56,58),(56,59),(56,60),(57,56),(57,59),(57,60),(58,56),(58,59),(58,60),(59,56),(59,57),(59,58),(60,56),(60,57),(60,58)]) 64 rfl (by decide +kernel) (by decide +kernel) (by rfl) ?_
    refine th_n ?_
    refine AC.condT rfl ?_
    refine AC.seq ?_
    refine AC.region ?_
    refine AL.p (by exact as1 rfl) rfl ?_
    refine AL.nil ?_
    refine th_n ?_
    refine AC.ret ?_
    refine ib_r ?_
    refine th_r ?_
    refine th_r ?_
    refine ib_r ?_
    refine th_r ?_
    refine bq_r ?_
    have e : chkB s.net c l x = false := by (rw [hch, show b1 = false by simpa using h1]; rfl)
    rw [e] at hrun
    exact ret1 rfl (by rw [← hrun] <;> rfl)
   ·refine DF.op 8 [0,1,2,3,4,5,6,7] 64 rfl rfl rfl (.yes rfl rfl rfl rfl (NOp.of (by exact mv3 rfl))) rfl ?_
    refine DF.op 9 [0,1,2,3,4,5,6,7,8] 64 rfl rfl rfl (.yes rfl rfl rfl rfl (NOp.of (by exact g_nilP rfl))) rfl ?_
    refine DF.op 10 [0,1,2,3,4,5,6,7,8,9] 64 rfl rfl rfl (.yes rfl rfl rfl rfl (NOp.of (by exact g_fa_ptr rfl rfl rfl rfl rfl))) rfl ?_
    refine DF.op 11 [0,1,2,3,4,5,6,7,8,9,10] 64 rfl rfl rfl (.yes rfl rfl rfl rfl (NOp.of (by exact g_load_ptr rfl rfl rfl rfl rfl))) rfl ?_
    refine DF.op 12 [0,1,2,3,4,5,6,7] 64 rfl rfl rfl (.yes rfl rfl rfl rfl (NOp.of (by exact g_fa_ptr rfl rfl rfl rfl rfl))) rfl ?_
    refine DF.op 13 [0,1,2,3,4,5,6,7,12] 64 rfl rfl rfl (.yes rfl rfl rfl rfl (NOp.of (by exact g_load_ptr rfl rfl rfl rfl rfl))) rfl ?_
    refine DF.op 14 [0,1,2,3,4,5,6,7,8,9,10,11,12,13] 64 rfl rfl rfl (.yes rfl rfl rfl rfl (NOp.of (by exact g_ia_own (i := x.t.toNat) (l := c.since.length) rfl rfl rfl rfl rfl (hTi (by simpa using h1)).1 (by have := (hTi (by simpa using h1)).2; omega) (Nat.mul_one _)))) rfl ?_
    refine DF.op 15 [0,1,2,3,4,5,6,7,8,9,10,11,12,13,14] 64 rfl rfl rfl (.yes rfl rfl rfl rfl (NOp.of (by exact g_load_arr1 rfl rfl rfl rfl (hrw (by simpa using h1))))) rfl ?_
    refine DF.op 16 [0,1,2,3,4,5,6,7,8,9,10,11,12,13,14,15] 64 rfl rfl rfl (.yes rfl rfl rfl rfl (NOp.of (by exact g_cmp rfl rfl rfl))) rfl ?_
    refine DF.op 17 [0,1,2,3,4,5,6,7,8,9,10,11,12,13,14,15,16] 64 rfl rfl rfl (.free rfl (NOp.of (by exact g_pickF (r := .d _) rfl rfl))) rfl ?_
    refine DF.op 18 [0,1,2,3,4,5,6,7,8,9,10,11,12,13,14,15,16,17] 64 rfl rfl rfl (.free rfl (NOp.of (by exact mv1 rfl))) rfl ?_
    refine DF.caseD 18 rfl (fun h2 => ?_) (fun h2 => ?_)
    ·refine DF.op (ids := []) 19 [0,1,2,3,4,5,6,7,8,9,10,11,12,13,14,15,16,17,18] 64 rfl rfl rfl (.no rfl rfl rfl rfl rfl rfl) rfl ?_
     refine DF.op (ids := []) 20 [0,1,2,3,4,5,6,7,8,9,10,11,12,13,14,15,16,17,18,19] 64 rfl rfl rfl (.no rfl rfl rfl rfl rfl rfl) rfl ?_
     refine DF.op (ids := []) 21 [0,1,2,3,4,5,6,7,8,9,10,11,12,13,14,15,16,17,18] 64 rfl rfl rfl (.no rfl rfl rfl rfl rfl rfl) rfl ?_
     refine DF.op (ids := []) 22 [0,1,2,3,4,5,6,7,8,9,10,11,12,13,14,15,16,17,18,21] 64 rfl rfl rfl (.no rfl rfl rfl rfl rfl rfl) rfl ?_
     refine DF.op (ids := []) 23 [0,1,2,3,4,5,6,7,8,9,10,11,12,13,14,15,16,17,18,21,22] 64 rfl rfl rfl (.no rfl rfl rfl rfl rfl rfl) rfl ?_
     refine DF.op (ids := []) 24 [0,1,2,3,4,5,6,7,8,9,10,11,12,13,14,15,16,17,18,21,22,23] 64 rfl rfl rfl (.no rfl rfl rfl rfl rfl rfl) rfl ?_
     refine DF.op (ids := []) 25 [0,1,2,3,4,5,6,7,8,9,10,11,12,13,14,15,16,17,18,19,20,21,22,23,24] 64 rfl rfl rfl (.no rfl rfl rfl rfl rfl rfl) rfl ?_
     refine DF.op 26 [0,1,2,3,4,5,6,7,8,9,10,11,12,13,14,15,16,17,18,19,20,21,22,23,24,25] 64 rfl rfl rfl (.free rfl (NOp.of (by exact g_pickT (r := .d _) rfl rfl))) rfl ?_
     refine DF.op 27 [0,1,2,3,4,5,6,7,8,9,10,11,12,13,14,15,16,17,18,19,20,21,22,23,24,25,26] 64 rfl rfl rfl (.free rfl (NOp.of (by exact mv1 rfl))) rfl ?_
     refine DF.op (ids := []) 28 [0,1,2,3,4,5,6,7,8,9,10,11,12,13,14,15,16,17,18,19,20,21,22,23,24,25,26,27] 64 rfl rfl rfl (.no rfl rfl rfl rfl rfl rfl) rfl ?_
     refine DF.op (ids := []) 29 [0,1,2,3,4,5,6,7,8,9,10,11,12,13,14,15,16,17,18,19,20,21,22,23,24,25,26,27,28] 64 rfl rfl rfl (.no rfl rfl rfl rfl rfl rfl) rfl ?_
     refine DF.op (ids := []) 30 [0,1,2,3,4,5,6,7,8,9,10,11,12,13,14,15,16,17,18,19,20,21,22,23,24,25,26,27] 64 rfl rfl rfl (.no rfl rfl rfl rfl rfl rfl) rfl ?_
     refine DF.op (ids := []) 31 [0,1,2,3,4,5,6,7,8,9,10,11,12,13,14,15,16,17,18,19,20,21,22,23,24,25,26,27,30] 64 rfl rfl rfl (.no rfl rfl rfl rfl rfl rfl) rfl ?_
     refine DF.op (ids := []) 32 [0,1,2,3,4,5,6,7,8,9,10,11,12,13,14,15,16,17,18,19,20,21,22,23,24,25,26,27,30,31] 64 rfl rfl rfl (.no rfl rfl rfl rfl rfl rfl) rfl ?_
     refine DF.op (ids := []) 33 [0,1,2,3,4,5,6,7,8,9,10,11,12,13,14,15,16,17,18,19,20,21,22,23,24,25,26,27,30,31,32] 64 rfl rfl rfl (.no rfl rfl rfl rfl rfl rfl) rfl ?_
     refine DF.op (ids := []) 34 [0,1,2,3,4,5,6,7,8,9,10,11,12,13,14,15,16,17,18,19,20,21,22,23,24,25,26,27] 64 rfl rfl rfl (.no rfl rfl rfl rfl rfl rfl) rfl ?_
     refine DF.op (ids := []) 35 [0,1,2,3,4,5,6,7,8,9,10,11,12,13,14,15,16,17,18,19,20,21,22,23,24,25,26,27,34] 64 rfl rfl rfl (.no rfl rfl rfl rfl rfl rfl) rfl ?_
     refine DF.op (ids := []) 36 [0,1,2,3,4,5,6,7,8,9,10,11,12,13,14,15,16,17,18,19,20,21,22,23,24,25,26,27,30,31,32,33,34,35] 64 rfl rfl rfl (.no rfl rfl rfl rfl rfl rfl) rfl ?_
     refine DF.op (ids := []) 37 [0,1,2,3,4,5,6,7,8,9,10,11,12,13,14,15,16,17,18,19,20,21,22,23,24,25,26,27,30,31,32,33,34,35,36] 64 rfl rfl rfl (.no rfl rfl rfl rfl rfl rfl) rfl ?_
     refine DF.op (ids := []) 38 [0,1,2,3,4,5,6,7,8,9,10,11,12,13,14,15,16,17,18,19,20,21,22,23,24,25,26,27] 64 rfl rfl rfl (.no rfl rfl rfl rfl rfl rfl) rfl ?_
     refine DF.op (ids := []) 39 [0,1,2,3,4,5,6,7,8,9,10,11,12,13,14,15,16,17,18,19,20,21,22,23,24,25,26,27] 64 rfl rfl rfl (.no rfl rfl rfl rfl rfl rfl) rfl ?_
     refine DF.op (ids := []) 40 [0,1,2,3,4,5,6,7,8,9,10,11,12,13,14,15,16,17,18,19,20,21,22,23,24,25,26,27,39] 64 rfl rfl rfl (.no rfl rfl rfl rfl rfl rfl) rfl ?_
     refine DF.op (ids := []) 41 [0,1,2,3,4,5,6,7,8,9,10,11,12,13,14,15,16,17,18,19,20,21,22,23,24,25,26,27,38,39,40] 64 rfl rfl rfl (.no rfl rfl rfl rfl rfl rfl) rfl ?_
     refine DF.op (ids := []) 42 [0,1,2,3,4,5,6,7,8,9,10,11,12,13,14,15,16,17,18,19,20,21,22,23,24,25,26,27,38,39,40,41] 64 rfl rfl rfl (.no rfl rfl rfl rfl rfl rfl) rfl ?_
     refine DF.op (ids := []) 43 [0,1,2,3,4,5,6,7,8,9,10,11,12,13,14,15,16,17,18,19,20,21,22,23,24,25,26,27,38,39,40,41,42] 64 rfl rfl rfl (.no rfl rfl rfl rfl rfl rfl) rfl ?_
     refine DF.op (ids := []) 44 [0,1,2,3,4,5,6,7,8,9,10,11,12,13,14,15,16,17,18,19,20,21,22,23,24,25,26,27,30,31,32,33,34,35,36,37,38,39,40,41,42,43] 64 rfl rfl rfl (.no rfl rfl rfl rfl rfl rfl) rfl ?_
     refine DF.op (ids := []) 45 [0,1,2,3,4,5,6,7,8,9,10,11,12,13,14,15,16,17,18,19,20,21,22,23,24,25,26,27,28,29,30,31,32,33,34,35,36,37,38,39,40,41,42,43,44] 64 rfl rfl rfl (.no rfl rfl rfl rfl rfl rfl) rfl ?_
     refine DF.op 46 [0,1,2,3,4,5,6,7,8,9,10,11,12,13,14,15,16,17,18,19,20,21,22,23,24,25,26,27,28,29,30,31,32,33,34,35,36,37,38,39,40,41,42,43,44,45] 64 rfl rfl rfl (.free rfl (NOp.of (by exact g_pickT (r := .d _) rfl rfl))) rfl ?_
     refine DF.op 47 [0,1,2,3,4,5,6,7,8,9,10,11,12,13,14,15,16,17,18,19,20,21,22,23,24,25,26,27,28,29,30,31,32,33,34,35,36,37,38,39,40,41,42,43,44,45,46] 64 rfl rfl rfl (.free rfl (NOp.of (by exact mv1 rfl))) rfl ?_
     refine DF.op (ids := []) 48 [0,1,2,3,4,5,6,7,8,9,10,11,12,13,14,15,16,17,18,19,20,21,22,23,24,25,26,27,28,29,30,31,32,33,34,35,36,37,38,39,40,41,42,43,44,45,46,47] 64 rfl rfl rfl (.no rfl rfl rfl rfl rfl rfl) rfl ?_
     refine DF.op (ids := []) 49 [0,1,2,3,4,5,6,7,8,9,10,11,12,13,14,15,16,17,18,19,20,21,22,23,24,25,26,27,28,29,30,31,32,33,34,35,36,37,38,39,40,41,42,43,44,45,46,47,48] 64 rfl rfl rfl (.no rfl rfl rfl rfl rfl rfl) rfl ?_
     refine DF.op (ids := []) 50 [0,1,2,3,4,5,6,7,8,9,10,11,12,13,14,15,16,17,18,19,20,21,22,23,24,25,26,27,28,29,30,31,32,33,34,35,36,37,38,39,40,41,42,43,44,45,46,47] 64 rfl rfl rfl (.no rfl rfl rfl rfl rfl rfl) rfl ?_
     refine DF.op (ids := []) 51 [0,1,2,3,4,5,6,7,8,9,10,11,12,13,14,15,16,17,18,19,20,21,22,23,24,25,26,27,28,29,30,31,32,33,34,35,36,37,38,39,40,41,42,43,44,45,46,47] 64 rfl rfl rfl (.no rfl rfl rfl rfl rfl rfl) rfl ?_
     refine DF.op (ids := []) 52 [0,1,2,3,4,5,6,7,8,9,10,11,12,13,14,15,16,17,18,19,20,21,22,23,24,25,26,27,28,29,30,31,32,33,34,35,36,37,38,39,40,41,42,43,44,45,46,47,50,51] 64 rfl rfl rfl (.no rfl rfl rfl rfl rfl rfl) rfl ?_
     refine DF.op (ids := []) 53 [0,1,2,3,4,5,6,7,8,9,10,11,12,13,14,15,16,17,18,19,20,21,22,23,24,25,26,27,28,29,30,31,32,33,34,35,36,37,38,39,40,41,42,43,44,45,46,47,48,49,50,51,52] 64 rfl rfl rfl (.no rfl rfl rfl rfl rfl rfl) rfl ?_
     refine DF.op 54 [0,1,2,3,4,5,6,7,8,9,10,11,12,13,14,15,16,17,18,19,20,21,22,23,24,25,26,27,28,29,30,31,32,33,34,35,36,37,38,39,40,41,42,43,44,45,46,47,48,49,50,51,52,53] 64 rfl rfl rfl (.free rfl (NOp.of (by exact g_pickT (r := .d _) rfl rfl))) rfl ?_
     refine DF.op 55 [0,1,2,3,4,5,6,7,8,9,10,11,12,13,14,15,16,17,18,19,20,21,22,23,24,25,26,27,28,29,30,31,32,33,34,35,36,37,38,39,40,41,42,43,44,45,46,47,48,49,50,51,52,53,54] 64 rfl rfl rfl (.free rfl (NOp.of (by exact mv1 rfl))) rfl ?_
     refine DF.op (ids := []) 56 [0,1,2,3,4,5,6,7,8,9,10,11,12,13,14,15,16,17,18,19,20,21,22,23,24,25,26,27,28,29,30,31,32,33,34,35,36,37,38,39,40,41,42,43,44,45,46,47,48,49,50,51,52,53,54,55] 64 rfl rfl rfl (.no rfl rfl rfl rfl rfl rfl) rfl ?_
     refine DF.op (ids := []) 57 [0,1,2,3,4,5,6,7,8,9,10,11,12,13,14,15,16,17,18,19,20,21,22,23,24,25,26,27,28,29,30,31,32,33,34,35,36,37,38,39,40,41,42,43,44,45,46,47,48,49,50,51,52,53,54,55] 64 rfl rfl rfl (.no rfl rfl rfl rfl rfl rfl) rfl ?_
     refine DF.op (ids := []) 58 [0,1,2,3,4,5,6,7,8,9,10,11,12,13,14,15,16,17,18,19,20,21,22,23,24,25,26,27,28,29,30,31,32,33,34,35,36,37,38,39,40,41,42,43,44,45,46,47,48,49,50,51,52,53,54,55,57] 64 rfl rfl rfl (.no rfl rfl rfl rfl rfl rfl) rfl ?_
     refine DF.op (ids := []) 59 [0,1,2,3,4,5,6,7,8,9,10,11,12,13,14,15,16,17,18,19,20,21,22,23,24,25,26,27,28,29,30,31,32,33,34,35,36,37,38,39,40,41,42,43,44,45,46,47,48,49,50,51,52,53,54,55] 64 rfl rfl rfl (.no rfl rfl rfl rfl rfl rfl) rfl ?_
     refine DF.op (ids := []) 60 [0,1,2,3,4,5,6,7,8,9,10,11,12,13,14,15,16,17,18,19,20,21,22,23,24,25,26,27,28,29,30,31,32,33,34,35,36,37,38,39,40,41,42,43,44,45,46,47,48,49,50,51,52,53,54,55,59] 64 rfl rfl rfl (.no rfl rfl rfl rfl rfl rfl) rfl ?_
     refine DF.op (ids := []) 61 [0,1,2,3,4,5,6,7,8,9,10,11,12,13,14,15,16,17,18,19,20,21,22,23,24,25,26,27,28,29,30,31,32,33,34,35,36,37,38,39,40,41,42,43,44,45,46,47,48,49,50,51,52,53,54,55,56,57,58,59,60] 64 rfl rfl rfl (.no rfl rfl rfl rfl rfl rfl) rfl ?_
     refine DF.op (ids := []) 62 [0,1,2,3,4,5,6,7,8,9,10,11,12,13,14,15,16,17,18,19,20,21,22,23,24,25,26,27,28,29,30,31,32,33,34,35,36,37,38,39,40,41,42,43,44,45,46,47,48,49,50,51,52,53,54,55,56,57,58,59,60,61] 64 rfl rfl rfl (.no rfl rfl rfl rfl rfl rfl) rfl ?_
     refine DF.op 63 [0,1,2,3,4,5,6,7,8,9,10,11,12,13,14,15,16,17,18,19,20,21,22,23,24,25,26,27,28,29,30,31,32,33,34,35,36,37,38,39,40,41,42,43,44,45,46,47,48,49,50,51,52,53,54,55,56,57,58,59,60,61,62] 64 rfl rfl rfl (.free rfl (NOp.of (by exact g_pickT (r := .d _) rfl rfl))) rfl ?_
     refine DF.fin (ps := [(0,2),(0,3),(0,4),(1,2),(1,3),(1,4),(2,0),(2,1),(3,0),(3,1),(4,0),(4,1),(8,12),(8,13),(9,12),(9,13),(10,12),(10,13),(11,12),(11,13),(12,8),(12,9),(12,10),(12,11),(13,8),(13,9),(13,10),(13,11),(19,21),(19,22),(19,23),(19,24),(20,21),(20,22),(20,23),(20,24),(21,19),(21,20),(22,19),(22,20),(23,19),(23,20),(24,19),(24,20),(28,30),(28,31),(28,32),(28,33),(28,34),(28,35),(28,36),(28,37),(28,38),(28,39),(28,40),(28,41),(28,42),(28,43),(28,44),(29,30),(29,31),(29,32),(29,33),(29,34),(29,35),(29,36),(29,37),(29,38),(29,39),(29,40),(29,41),(29,42),(29,43),(29,44),(30,28),(30,29),(30,34),(30,35),(30,38),(30,39),(30,40),(30,41),(30,42),(30,43),(31,28),(31,29),(31,34),(31,35),(31,38),(31,39),(31,40),(31,41),(31,42),(31,43),(32,28),(32,29),(32,34),(32,35),(32,38),(32,39),(32,40),(32,41),(32,42),(32,43),(33,28),(33,29),(33,34),(33,35),(33,38),(33,39),(33,40),(33,41),(33,42),(33,43),(34,28),(34,29),(34,30),(34,31),(34,32),(34,33),(34,38),(34,39),(34,40),(34,41),(34,42),(34,43),(35,28),(35,29),(35,30),(35,31),(35,32),(35,33),(35,38),(35,39),(35,40),(35,41),(35,42),(35,43),(36,28),(36,29),(36,38),(36,39),(36,40),(36,41),(36,42),(36,43),(37,28),(37,29),(37,38),(37,39),(37,40),(37,41),(37,42),(37,43),(38,28),(38,29),(38,30),(38,31),(38,32),(38,33),(38,34),(38,35),(38,36),(38,37),(38,39),(38,40),(39,28),(39,29),(39,30),(39,31),(39,32),(39,33),(39,34),(39,35),(39,36),(39,37),(39,38),(40,28),(40,29),(40,30),(40,31),(40,32),(40,33),(40,34),(40,35),(40,36),(40,37),(40,38),(41,28),(41,29),(41,30),(41,31),(41,32),(41,33),(41,34),(41,35),(41,36),(41,37),(42,28),(42,29),(42,30),(42,31),(42,32),(42,33),(42,34),(42,35),(42,36),(42,37),(43,28),(43,29),(43,30),(43,31),(43,32),(43,33),(43,34),(43,35),(43,36),(43,37),(44,28),(44,29),(48,50),(48,51),(48,52),(49,50),(49,51),(49,52),(50,48),(50,49),(50,51),(51,48),(51,49),(51,50),(52,48),(52,49),(56,57),(56,58),(56,59),(56,60),(57,56),(57,59),(57,60),(58,56),(58,59),(58,60),(59,56),(59,57),(59,58),(60,56),(60,57),(60,58)]) 64 rfl (by decide +kernel) (by decide +kernel) (by rfl) ?_
     refine th_n ?_
     refine AC.condT rfl ?_
     refine AC.seq ?_
     refine AC.region ?_
     refine AL.p (by exact as1 rfl) rfl ?_
     refine AL.nil ?_
     refine th_n ?_
     refine AC.ret ?_
     refine ib_r ?_
     refine th_r ?_
     refine th_r ?_
     refine ib_r ?_
     refine th_r ?_
     refine bq_r ?_
     have e : chkB s.net c l x = false := by (rw [hch, decide_eq_false (show ¬ 0 ≤ iAt c.since x.t.toNat by omega)]; simp)
     rw [e] at hrun
     exact ret1 rfl (by rw [← hrun] <;> rfl)
    ·refine DF.op 19 [0,1,2,3,4,5,6,7,8,9,10,11,12,13,14,15,16,17,18] 64 rfl rfl rfl (.yes rfl rfl rfl rfl (NOp.of (by exact g_fa_ptr rfl rfl rfl rfl rfl))) rfl ?_
     refine DF.op 20 [0,1,2,3,4,5,6,7,8,9,10,11,12,13,14,15,16,17,18,19] 64 rfl rfl rfl (.yes rfl rfl rfl rfl (NOp.of (by exact g_load_ptr rfl rfl rfl rfl rfl))) rfl ?_
     refine DF.op 21 [0,1,2,3,4,5,6,7,8,9,10,11,12,13,14,15,16,17,18] 64 rfl rfl rfl (.yes rfl rfl rfl rfl (NOp.of (by exact mv3 rfl))) rfl ?_
     refine DF.op 22 [0,1,2,3,4,5,6,7,8,9,10,11,12,13,14,15,16,17,18,21] 64 rfl rfl rfl (.yes rfl rfl rfl rfl (NOp.of (by exact g_nilP rfl))) rfl ?_
     refine DF.op 23 [0,1,2,3,4,5,6,7,8,9,10,11,12,13,14,15,16,17,18,21,22] 64 rfl rfl rfl (.yes rfl rfl rfl rfl (NOp.of (by exact g_fa_ptr rfl rfl rfl rfl rfl))) rfl ?_
     refine DF.op 24 [0,1,2,3,4,5,6,7,8,9,10,11,12,13,14,15,16,17,18,21,22,23] 64 rfl rfl rfl (.yes rfl rfl rfl rfl (NOp.of (by exact g_load_ptr rfl rfl rfl rfl rfl))) rfl ?_
     refine DF.op 25 [0,1,2,3,4,5,6,7,8,9,10,11,12,13,14,15,16,17,18,19,20,21,22,23,24] 64 rfl rfl rfl (.yes rfl rfl rfl rfl (NOp.of (by exact g_cmp rfl rfl rfl))) rfl ?_
     refine DF.op 26 [0,1,2,3,4,5,6,7,8,9,10,11,12,13,14,15,16,17,18,19,20,21,22,23,24,25] 64 rfl rfl rfl (.free rfl (NOp.of (by exact g_pickF (r := .d _) rfl rfl))) rfl ?_
     refine DF.op 27 [0,1,2,3,4,5,6,7,8,9,10,11,12,13,14,15,16,17,18,19,20,21,22,23,24,25,26] 64 rfl rfl rfl (.free rfl (NOp.of (by exact mv1 rfl))) rfl ?_
     refine DF.caseD 27 rfl (fun h3 => ?_) (fun h3 => ?_)
     ·refine DF.op (ids := []) 28 [0,1,2,3,4,5,6,7,8,9,10,11,12,13,14,15,16,17,18,19,20,21,22,23,24,25,26,27] 64 rfl rfl rfl (.no rfl rfl rfl rfl rfl rfl) rfl ?_
      refine DF.op (ids := []) 29 [0,1,2,3,4,5,6,7,8,9,10,11,12,13,14,15,16,17,18,19,20,21,22,23,24,25,26,27,28] 64 rfl rfl rfl (.no rfl rfl rfl rfl rfl rfl) rfl ?_
      refine DF.op (ids := []) 30 [0,1,2,3,4,5,6,7,8,9,10,11,12,13,14,15,16,17,18,19,20,21,22,23,24,25,26,27] 64 rfl rfl rfl (.no rfl rfl rfl rfl rfl rfl) rfl ?_
      refine DF.op (ids := []) 31 [0,1,2,3,4,5,6,7,8,9,10,11,12,13,14,15,16,17,18,19,20,21,22,23,24,25,26,27,30] 64 rfl rfl rfl (.no rfl rfl rfl rfl rfl rfl) rfl ?_
      refine DF.op (ids := []) 32 [0,1,2,3,4,5,6,7,8,9,10,11,12,13,14,15,16,17,18,19,20,21,22,23,24,25,26,27,30,31] 64 rfl rfl rfl (.no rfl rfl rfl rfl rfl rfl) rfl ?_
      refine DF.op (ids := []) 33 [0,1,2,3,4,5,6,7,8,9,10,11,12,13,14,15,16,17,18,19,20,21,22,23,24,25,26,27,30,31,32] 64 rfl rfl rfl (.no rfl rfl rfl rfl rfl rfl) rfl ?_
      refine DF.op (ids := []) 34 [0,1,2,3,4,5,6,7,8,9,10,11,12,13,14,15,16,17,18,19,20,21,22,23,24,25,26,27] 64 rfl rfl rfl (.no rfl rfl rfl rfl rfl rfl) rfl ?_
      refine DF.op (ids := []) 35 [0,1,2,3,4,5,6,7,8,9,10,11,12,13,14,15,16,17,18,19,20,21,22,23,24,25,26,27,34] 64 rfl rfl rfl (.no rfl rfl rfl rfl rfl rfl) rfl ?_
      refine DF.op (ids := []) 36 [0,1,2,3,4,5,6,7,8,9,10,11,12,13,14,15,16,17,18,19,20,21,22,23,24,25,26,27,30,31,32,33,34,35] 64 rfl rfl rfl (.no rfl rfl rfl rfl rfl rfl) rfl ?_
      refine DF.op (ids := []) 37 [0,1,2,3,4,5,6,7,8,9,10,11,12,13,14,15,16,17,18,19,20,21,22,23,24,25,26,27,30,31,32,33,34,35,36] 64 rfl rfl rfl (.no rfl rfl rfl rfl rfl rfl) rfl ?_
      refine DF.op (ids := []) 38 [0,1,2,3,4,5,6,7,8,9,10,11,12,13,14,15,16,17,18,19,20,21,22,23,24,25,26,27] 64 rfl rfl rfl (.no rfl rfl rfl rfl rfl rfl) rfl ?_
      refine DF.op (ids := []) 39 [0,1,2,3,4,5,6,7,8,9,10,11,12,13,14,15,16,17,18,19,20,21,22,23,24,25,26,27] 64 rfl rfl rfl (.no rfl rfl rfl rfl rfl rfl) rfl ?_
      refine DF.op (ids := []) 40 [0,1,2,3,4,5,6,7,8,9,10,11,12,13,14,15,16,17,18,19,20,21,22,23,24,25,26,27,39] 64 rfl rfl rfl (.no rfl rfl rfl rfl rfl rfl) rfl ?_
      refine DF.op (ids := []) 41 [0,1,2,3,4,5,6,7,8,9,10,11,12,13,14,15,16,17,18,19,20,21,22,23,24,25,26,27,38,39,40] 64 rfl rfl rfl (.no rfl rfl rfl rfl rfl rfl) rfl ?_
      refine DF.op (ids := []) 42 [0,1,2,3,4,5,6,7,8,9,10,11,12,13,14,15,16,17,18,19,20,21,22,23,24,25,26,27,38,39,40,41] 64 rfl rfl rfl (.no rfl rfl rfl rfl rfl rfl) rfl ?_
      refine DF.op (ids := []) 43 [0,1,2,3,4,5,6,7,8,9,10,11,12,13,14,15,16,17,18,19,20,21,22,23,24,25,26,27,38,39,40,41,42] 64 rfl rfl rfl (.no rfl rfl rfl rfl rfl rfl) rfl ?_
      refine DF.op (ids := []) 44 [0,1,2,3,4,5,6,7,8,9,10,11,12,13,14,15,16,17,18,19,20,21,22,23,24,25,26,27,30,31,32,33,34,35,36,37,38,39,40,41,42,43] 64 rfl rfl rfl (.no rfl rfl rfl rfl rfl rfl) rfl ?_
      refine DF.op (ids := []) 45 [0,1,2,3,4,5,6,7,8,9,10,11,12,13,14,15,16,17,18,19,20,21,22,23,24,25,26,27,28,29,30,31,32,33,34,35,36,37,38,39,40,41,42,43,44] 64 rfl rfl rfl (.no rfl rfl rfl rfl rfl rfl) rfl ?_
      refine DF.op 46 [0,1,2,3,4,5,6,7,8,9,10,11,12,13,14,15,16,17,18,19,20,21,22,23,24,25,26,27,28,29,30,31,32,33,34,35,36,37,38,39,40,41,42,43,44,45] 64 rfl rfl rfl (.free rfl (NOp.of (by exact g_pickT (r := .d _) rfl rfl))) rfl ?_
      refine DF.op 47 [0,1,2,3,4,5,6,7,8,9,10,11,12,13,14,15,16,17,18,19,20,21,22,23,24,25,26,27,28,29,30,31,32,33,34,35,36,37,38,39,40,41,42,43,44,45,46] 64 rfl rfl rfl (.free rfl (NOp.of (by exact mv1 rfl))) rfl ?_
      refine DF.op (ids := []) 48 [0,1,2,3,4,5,6,7,8,9,10,11,12,13,14,15,16,17,18,19,20,21,22,23,24,25,26,27,28,29,30,31,32,33,34,35,36,37,38,39,40,41,42,43,44,45,46,47] 64 rfl rfl rfl (.no rfl rfl rfl rfl rfl rfl) rfl ?_
      refine DF.op (ids := []) 49 [0,1,2,3,4,5,6,7,8,9,10,11,12,13,14,15,16,17,18,19,20,21,22,23,24,25,26,27,28,29,30,31,32,33,34,35,36,37,38,39,40,41,42,43,44,45,46,47,48] 64 rfl rfl rfl (.no rfl rfl rfl rfl rfl rfl) rfl ?_
      refine DF.op (ids := []) 50 [0,1,2,3,4,5,6,7,8,9,10,11,12,13,14,15,16,17,18,19,20,21,22,23,24,25,26,27,28,29,30,31,32,33,34,35,36,37,38,39,40,41,42,43,44,45,46,47] 64 rfl rfl rfl (.no rfl rfl rfl rfl rfl rfl) rfl ?_
      refine DF.op (ids := []) 51 [0,1,2,3,4,5,6,7,8,9,10,11,12,13,14,15,16,17,18,19,20,21,22,23,24,25,26,27,28,29,30,31,32,33,34,35,36,37,38,39,40,41,42,43,44,45,46,47] 64 rfl rfl rfl (.no rfl rfl rfl rfl rfl rfl) rfl ?_
      refine DF.op (ids := []) 52 [0,1,2,3,4,5,6,7,8,9,10,11,12,13,14,15,16,17,18,19,20,21,22,23,24,25,26,27,28,29,30,31,32,33,34,35,36,37,38,39,40,41,42,43,44,45,46,47,50,51] 64 rfl rfl rfl (.no rfl rfl rfl rfl rfl rfl) rfl ?_
      refine DF.op (ids := []) 53 [0,1,2,3,4,5,6,7,8,9,10,11,12,13,14,15,16,17,18,19,20,21,22,23,24,25,26,27,28,29,30,31,32,33,34,35,36,37,38,39,40,41,42,43,44,45,46,47,48,49,50,51,52] 64 rfl rfl rfl (.no rfl rfl rfl rfl rfl rfl) rfl ?_
      refine DF.op 54 [0,1,2,3,4,5,6,7,8,9,10,11,12,13,14,15,16,17,18,19,20,21,22,23,24,25,26,27,28,29,30,31,32,33,34,35,36,37,38,39,40,41,42,43,44,45,46,47,48,49,50,51,52,53] 64 rfl rfl rfl (.free rfl (NOp.of (by exact g_pickT (r := .d _) rfl rfl))) rfl ?_
      refine DF.op 55 [0,1,2,3,4,5,6,7,8,9,10,11,12,13,14,15,16,17,18,19,20,21,22,23,24,25,26,27,28,29,30,31,32,33,34,35,36,37,38,39,40,41,42,43,44,45,46,47,48,49,50,51,52,53,54] 64 rfl rfl rfl (.free rfl (NOp.of (by exact mv1 rfl))) rfl ?_
      refine DF.op (ids := []) 56 [0,1,2,3,4,5,6,7,8,9,10,11,12,13,14,15,16,17,18,19,20,21,22,23,24,25,26,27,28,29,30,31,32,33,34,35,36,37,38,39,40,41,42,43,44,45,46,47,48,49,50,51,52,53,54,55] 64 rfl rfl rfl (.no rfl rfl rfl rfl rfl rfl) rfl ?_
      refine DF.op (ids := []) 57 [0,1,2,3,4,5,6,7,8,9,10,11,12,13,14,15,16,17,18,19,20,21,22,23,24,25,26,27,28,29,30,31,32,33,34,35,36,37,38,39,40,41,42,43,44,45,46,47,48,49,50,51,52,53,54,55] 64 rfl rfl rfl (.no rfl rfl rfl rfl rfl rfl) rfl ?_
      refine DF.op (ids := []) 58 [0,1,2,3,4,5,6,7,8,9,10,11,12,13,14,15,16,17,18,19,20,21,22,23,24,25,26,27,28,29,30,31,32,33,34,35,36,37,38,39,40,41,42,43,44,45,46,47,48,49,50,51,52,53,54,55,57] 64 rfl rfl rfl (.no rfl rfl rfl rfl rfl rfl) rfl ?_
      refine DF.op (ids := []) 59 [0,1,2,3,4,5,6,7,8,9,10,11,12,13,14,15,16,17,18,19,20,21,22,23,24,25,26,27,28,29,30,31,32,33,34,35,36,37,38,39,40,41,42,43,44,45,46,47,48,49,50,51,52,53,54,55] 64 rfl rfl rfl (.no rfl rfl rfl rfl rfl rfl) rfl ?_
      refine DF.op (ids := []) 60 [0,1,2,3,4,5,6,7,8,9,10,11,12,13,14,15,16,17,18,19,20,21,22,23,24,25,26,27,28,29,30,31,32,33,34,35,36,37,38,39,40,41,42,43,44,45,46,47,48,49,50,51,52,53,54,55,59] 64 rfl rfl rfl (.no rfl rfl rfl rfl rfl rfl) rfl ?_
      refine DF.op (ids := []) 61 [0,1,2,3,4,5,6,7,8,9,10,11,12,13,14,15,16,17,18,19,20,21,22,23,24,25,26,27,28,29,30,31,32,33,34,35,36,37,38,39,40,41,42,43,44,45,46,47,48,49,50,51,52,53,54,55,56,57,58,59,60] 64 rfl rfl rfl (.no rfl rfl rfl rfl rfl rfl) rfl ?_
      refine DF.op (ids := []) 62 [0,1,2,3,4,5,6,7,8,9,10,11,12,13,14,15,16,17,18,19,20,21,22,23,24,25,26,27,28,29,30,31,32,33,34,35,36,37,38,39,40,41,42,43,44,45,46,47,48,49,50,51,52,53,54,55,56,57,58,59,60,61] 64 rfl rfl rfl (.no rfl rfl rfl rfl rfl rfl) rfl ?_
      refine DF.op 63 [0,1,2,3,4,5,6,7,8,9,10,11,12,13,14,15,16,17,18,19,20,21,22,23,24,25,26,27,28,29,30,31,32,33,34,35,36,37,38,39,40,41,42,43,44,45,46,47,48,49,50,51,52,53,54,55,56,57,58,59,60,61,62] 64 rfl rfl rfl (.free rfl (NOp.of (by exact g_pickT (r := .d _) rfl rfl))) rfl ?_
      refine DF.fin (ps := [(0,2),(0,3),(0,4),(1,2),(1,3),(1,4),(2,0),(2,1),(3,0),(3,1),(4,0),(4,1),(8,12),(8,13),(9,12),(9,13),(10,12),(10,13),(11,12),(11,13),(12,8),(12,9),(12,10),(12,11),(13,8),(13,9),(13,10),(13,11),(19,21),(19,22),(19,23),(19,24),(20,21),(20,22),(20,23),(20,24),(21,19),(21,20),(22,19),(22,20),(23,19),(23,20),(24,19),(24,20),(28,30),(28,31),(28,32),(28,33),(28,34),(28,35),(28,36),(28,37),(28,38),(28,39),(28,40),(28,41),(28,42),(28,43),(28,44),(29,30),(29,31),(29,32),(29,33),(29,34),(29,35),(29,36),(29,37),(29,38),(29,39),(29,40),(29,41),(29,42),(29,43),(29,44),(30,28),(30,29),(30,34),(30,35),(30,38),(30,39),(30,40),(30,41),(30,42),(30,43),(31,28),(31,29),(31,34),(31,35),(31,38),(31,39),(31,40),(31,41),(31,42),(31,43),(32,28),(32,29),(32,34),(32,35),(32,38),(32,39),(32,40),(32,41),(32,42),(32,43),(33,28),(33,29),(33,34),(33,35),(33,38),(33,39),(33,40),(33,41),(33,42),(33,43),(34,28),(34,29),(34,30),(34,31),(34,32),(34,33),(34,38),(34,39),(34,40),(34,41),(34,42),(34,43),(35,28),(35,29),(35,30),(35,31),(35,32),(35,33),(35,38),(35,39),(35,40),(35,41),(35,42),(35,43),(36,28),(36,29),(36,38),(36,39),(36,40),(36,41),(36,42),(36,43),(37,28),(37,29),(37,38),(37,39),(37,40),(37,41),(37,42),(37,43),(38,28),(38,29),(38,30),(38,31),(38,32),(38,33),(38,34),(38,35),(38,36),(38,37),(38,39),(38,40),(39,28),(39,29),(39,30),(39,31),(39,32),(39,33),(39,34),(39,35),(39,36),(39,37),(39,38),(40,28),(40,29),(40,30),(40,31),(40,32),(40,33),(40,34),(40,35),(40,36),(40,37),(40,38),(41,28),(41,29),(41,30),(41,31),(41,32),(41,33),(41,34),(41,35),(41,36),(41,37),(42,28),(42,29),(42,30),(42,31),(42,32),(42,33),(42,34),(42,35),(42,36),(42,37),(43,28),(43,29),(43,30),(43,31),(43,32),(43,33),(43,34),(43,35),(43,36),(43,37),(44,28),(44,29),(48,50),(48,51),(48,52),(49,50),(49,51),(49,52),(50,48),(50,49),(50,51),(51,48),(51,49),(51,50),(52,48),(52,49),(56,57),(56,58),(56,59),(56,60),(57,56),(57,59),(57,60),(58,56),(58,59),(58,60),(59,56),(59,57),(59,58),(60,56),(60,57),(60,58)]) 64 rfl (by decide +kernel) (by decide +kernel) (by rfl) ?_
      refine th_n ?_
      refine AC.condT rfl ?_
      refine AC.seq ?_
      refine AC.region ?_
      refine AL.p (by exact as1 rfl) rfl ?_
      refine AL.nil ?_
      refine th_n ?_
      refine AC.ret ?_
      refine ib_r ?_
      refine th_r ?_
      refine th_r ?_
      refine ib_r ?_
      refine th_r ?_
      refine bq_r ?_
      have e : chkB s.net c l x = false := by (rw [hch, decide_eq_false (show ¬ earI c l x.t.toNat ≤ x.tm by rw [hear]; omega)]; simp)
      rw [e] at hrun
      exact ret1 rfl (by rw [← hrun] <;> rfl)
     ·refine DF.op 28 [0,1,2,3,4,5,6,7,8,9,10,11,12,13,14,15,16,17,18,19,20,21,22,23,24,25,26,27] 64 rfl rfl rfl (.yes rfl rfl rfl rfl (NOp.of (by exact g_fa_ptr rfl rfl rfl rfl rfl))) rfl ?_
      refine DF.op 29 [0,1,2,3,4,5,6,7,8,9,10,11,12,13,14,15,16,17,18,19,20,21,22,23,24,25,26,27,28] 64 rfl rfl rfl (.yes rfl rfl rfl rfl (NOp.of (by exact g_load_ptr rfl rfl rfl rfl rfl))) rfl ?_
      refine DF.op 30 [0,1,2,3,4,5,6,7,8,9,10,11,12,13,14,15,16,17,18,19,20,21,22,23,24,25,26,27] 64 rfl rfl rfl (.yes rfl rfl rfl rfl (NOp.of (by exact mv3 rfl))) rfl ?_
      refine DF.op 31 [0,1,2,3,4,5,6,7,8,9,10,11,12,13,14,15,16,17,18,19,20,21,22,23,24,25,26,27,30] 64 rfl rfl rfl (.yes rfl rfl rfl rfl (NOp.of (by exact g_nilP rfl))) rfl ?_
      refine DF.op 32 [0,1,2,3,4,5,6,7,8,9,10,11,12,13,14,15,16,17,18,19,20,21,22,23,24,25,26,27,30,31] 64 rfl rfl rfl (.yes rfl rfl rfl rfl (NOp.of (by exact g_fa_ptr rfl rfl rfl rfl rfl))) rfl ?_
      refine DF.op 33 [0,1,2,3,4,5,6,7,8,9,10,11,12,13,14,15,16,17,18,19,20,21,22,23,24,25,26,27,30,31,32] 64 rfl rfl rfl (.yes rfl rfl rfl rfl (NOp.of (by exact g_load_ptr rfl rfl rfl rfl rfl))) rfl ?_
      refine DF.op 34 [0,1,2,3,4,5,6,7,8,9,10,11,12,13,14,15,16,17,18,19,20,21,22,23,24,25,26,27] 64 rfl rfl rfl (.yes rfl rfl rfl rfl (NOp.of (by exact g_fa_ptr rfl rfl rfl rfl rfl))) rfl ?_
      refine DF.op 35 [0,1,2,3,4,5,6,7,8,9,10,11,12,13,14,15,16,17,18,19,20,21,22,23,24,25,26,27,34] 64 rfl rfl rfl (.yes rfl rfl rfl rfl (NOp.of (by exact g_load_ptr rfl rfl rfl rfl rfl))) rfl ?_
      refine DF.op 36 [0,1,2,3,4,5,6,7,8,9,10,11,12,13,14,15,16,17,18,19,20,21,22,23,24,25,26,27,30,31,32,33,34,35] 64 rfl rfl rfl (.yes rfl rfl rfl rfl (NOp.of (by exact g_ia_own (i := x.t.toNat) (l := c.since.length) rfl rfl rfl rfl rfl (hTi (by simpa using h1)).1 (by have := (hTi (by simpa using h1)).2; omega) (Nat.mul_one _)))) rfl ?_
      refine DF.op 37 [0,1,2,3,4,5,6,7,8,9,10,11,12,13,14,15,16,17,18,19,20,21,22,23,24,25,26,27,30,31,32,33,34,35,36] 64 rfl rfl rfl (.yes rfl rfl rfl rfl (NOp.of (by exact g_load_arr1 rfl rfl rfl rfl (hrw (by simpa using h1))))) rfl ?_
      refine DF.op 38 [0,1,2,3,4,5,6,7,8,9,10,11,12,13,14,15,16,17,18,19,20,21,22,23,24,25,26,27] 64 rfl rfl rfl (.yes rfl rfl rfl rfl (NOp.of (by exact mv1 rfl))) rfl ?_
      refine DF.op 39 [0,1,2,3,4,5,6,7,8,9,10,11,12,13,14,15,16,17,18,19,20,21,22,23,24,25,26,27] 64 rfl rfl rfl (.yes rfl rfl rfl rfl (NOp.of (by exact g_fa_ptr rfl rfl rfl rfl rfl))) rfl ?_
      refine DF.op 40 [0,1,2,3,4,5,6,7,8,9,10,11,12,13,14,15,16,17,18,19,20,21,22,23,24,25,26,27,39] 64 rfl rfl rfl (.yes rfl rfl rfl rfl (NOp.of (by exact g_load_ptr rfl rfl rfl rfl rfl))) rfl ?_
      refine DF.op 41 [0,1,2,3,4,5,6,7,8,9,10,11,12,13,14,15,16,17,18,19,20,21,22,23,24,25,26,27,38,39,40] 64 rfl rfl rfl (.yes rfl rfl rfl rfl (NOp.of (by exact g_ia_view (i := x.t.toNat) rfl rfl rfl rfl rfl (hTi (by simpa using h1)).1 (hrl (by simpa using h1))))) rfl ?_
      refine DF.op 42 [0,1,2,3,4,5,6,7,8,9,10,11,12,13,14,15,16,17,18,19,20,21,22,23,24,25,26,27,38,39,40,41] 64 rfl rfl rfl (.yes rfl rfl rfl rfl (NOp.of (by exact g_fa_ref rfl rfl rfl rfl rfl rfl))) rfl ?_
      refine DF.op 43 [0,1,2,3,4,5,6,7,8,9,10,11,12,13,14,15,16,17,18,19,20,21,22,23,24,25,26,27,38,39,40,41,42] 64 rfl rfl rfl (.yes rfl rfl rfl rfl (NOp.of (by exact g_load_ref rfl rfl rfl))) rfl ?_
      refine DF.op 44 [0,1,2,3,4,5,6,7,8,9,10,11,12,13,14,15,16,17,18,19,20,21,22,23,24,25,26,27,30,31,32,33,34,35,36,37,38,39,40,41,42,43] 64 rfl rfl rfl (.yes rfl rfl rfl rfl (NOp.of (by exact g_arith rfl rfl rfl (wrap_i64 (by have := hbb (by simpa using h1); omega))))) rfl ?_
      refine DF.op 45 [0,1,2,3,4,5,6,7,8,9,10,11,12,13,14,15,16,17,18,19,20,21,22,23,24,25,26,27,28,29,30,31,32,33,34,35,36,37,38,39,40,41,42,43,44] 64 rfl rfl rfl (.yes rfl rfl rfl rfl (NOp.of (by exact g_cmp rfl rfl rfl))) rfl ?_
      refine DF.op 46 [0,1,2,3,4,5,6,7,8,9,10,11,12,13,14,15,16,17,18,19,20,21,22,23,24,25,26,27,28,29,30,31,32,33,34,35,36,37,38,39,40,41,42,43,44,45] 64 rfl rfl rfl (.free rfl (NOp.of (by exact g_pickF (r := .d _) rfl rfl))) rfl ?_
      refine DF.op 47 [0,1,2,3,4,5,6,7,8,9,10,11,12,13,14,15,16,17,18,19,20,21,22,23,24,25,26,27,28,29,30,31,32,33,34,35,36,37,38,39,40,41,42,43,44,45,46] 64 rfl rfl rfl (.free rfl (NOp.of (by exact mv1 rfl))) rfl ?_
      refine DF.caseD 47 rfl (fun h4 => ?_) (fun h4 => ?_)
      ·refine DF.op (ids := []) 48 [0,1,2,3,4,5,6,7,8,9,10,11,12,13,14,15,16,17,18,19,20,21,22,23,24,25,26,27,28,29,30,31,32,33,34,35,36,37,38,39,40,41,42,43,44,45,46,47] 64 rfl rfl rfl (.no rfl rfl rfl rfl rfl rfl) rfl ?_
       refine DF.op (ids := []) 49 [0,1,2,3,4,5,6,7,8,9,10,11,12,13,14,15,16,17,18,19,20,21,22,23,24,25,26,27,28,29,30,31,32,33,34,35,36,37,38,39,40,41,42,43,44,45,46,47,48] 64 rfl rfl rfl (.no rfl rfl rfl rfl rfl rfl) rfl ?_
       refine DF.op (ids := []) 50 [0,1,2,3,4,5,6,7,8,9,10,11,12,13,14,15,16,17,18,19,20,21,22,23,24,25,26,27,28,29,30,31,32,33,34,35,36,37,38,39,40,41,42,43,44,45,46,47] 64 rfl rfl rfl (.no rfl rfl rfl rfl rfl rfl) rfl ?_
       refine DF.op (ids := []) 51 [0,1,2,3,4,5,6,7,8,9,10,11,12,13,14,15,16,17,18,19,20,21,22,23,24,25,26,27,28,29,30,31,32,33,34,35,36,37,38,39,40,41,42,43,44,45,46,47] 64 rfl rfl rfl (.no rfl rfl rfl rfl rfl rfl) rfl ?_
       refine DF.op (ids := []) 52 [0,1,2,3,4,5,6,7,8,9,10,11,12,13,14,15,16,17,18,19,20,21,22,23,24,25,26,27,28,29,30,31,32,33,34,35,36,37,38,39,40,41,42,43,44,45,46,47,50,51] 64 rfl rfl rfl (.no rfl rfl rfl rfl rfl rfl) rfl ?_
       refine DF.op (ids := []) 53 [0,1,2,3,4,5,6,7,8,9,10,11,12,13,14,15,16,17,18,19,20,21,22,23,24,25,26,27,28,29,30,31,32,33,34,35,36,37,38,39,40,41,42,43,44,45,46,47,48,49,50,51,52] 64 rfl rfl rfl (.no rfl rfl rfl rfl rfl rfl) rfl ?_
       refine DF.op 54 [0,1,2,3,4,5,6,7,8,9,10,11,12,13,14,15,16,17,18,19,20,21,22,23,24,25,26,27,28,29,30,31,32,33,34,35,36,37,38,39,40,41,42,43,44,45,46,47,48,49,50,51,52,53] 64 rfl rfl rfl (.free rfl (NOp.of (by exact g_pickT (r := .d _) rfl rfl))) rfl ?_
       refine DF.op 55 [0,1,2,3,4,5,6,7,8,9,10,11,12,13,14,15,16,17,18,19,20,21,22,23,24,25,26,27,28,29,30,31,32,33,34,35,36,37,38,39,40,41,42,43,44,45,46,47,48,49,50,51,52,53,54] 64 rfl rfl rfl (.free rfl (NOp.of (by exact mv1 rfl))) rfl ?_
       refine DF.op (ids := []) 56 [0,1,2,3,4,5,6,7,8,9,10,11,12,13,14,15,16,17,18,19,20,21,22,23,24,25,26,27,28,29,30,31,32,33,34,35,36,37,38,39,40,41,42,43,44,45,46,47,48,49,50,51,52,53,54,55] 64 rfl rfl rfl (.no rfl rfl rfl rfl rfl rfl) rfl ?_
       refine DF.op (ids := []) 57 [0,1,2,3,4,5,6,7,8,9,10,11,12,13,14,15,16,17,18,19,20,21,22,23,24,25,26,27,28,29,30,31,32,33,34,35,36,37,38,39,40,41,42,43,44,45,46,47,48,49,50,51,52,53,54,55] 64 rfl rfl rfl (.no rfl rfl rfl rfl rfl rfl) rfl ?_
       refine DF.op (ids := []) 58 [0,1,2,3,4,5,6,7,8,9,10,11,12,13,14,15,16,17,18,19,20,21,22,23,24,25,26,27,28,29,30,31,32,33,34,35,36,37,38,39,40,41,42,43,44,45,46,47,48,49,50,51,52,53,54,55,57] 64 rfl rfl rfl (.no rfl rfl rfl rfl rfl rfl) rfl ?_
       refine DF.op (ids := []) 59 [0,1,2,3,4,5,6,7,8,9,10,11,12,13,14,15,16,17,18,19,20,21,22,23,24,25,26,27,28,29,30,31,32,33,34,35,36,37,38,39,40,41,42,43,44,45,46,47,48,49,50,51,52,53,54,55] 64 rfl rfl rfl (.no rfl rfl rfl rfl rfl rfl) rfl ?_
       refine DF.op (ids := []) 60 [0,1,2,3,4,5,6,7,8,9,10,11,12,13,14,15,16,17,18,19,20,21,22,23,24,25,26,27,28,29,30,31,32,33,34,35,36,37,38,39,40,41,42,43,44,45,46,47,48,49,50,51,52,53,54,55,59] 64 rfl rfl rfl (.no rfl rfl rfl rfl rfl rfl) rfl ?_
       refine DF.op (ids := []) 61 [0,1,2,3,4,5,6,7,8,9,10,11,12,13,14,15,16,17,18,19,20,21,22,23,24,25,26,27,28,29,30,31,32,33,34,35,36,37,38,39,40,41,42,43,44,45,46,47,48,49,50,51,52,53,54,55,56,57,58,59,60] 64 rfl rfl rfl (.no rfl rfl rfl rfl rfl rfl) rfl ?_
       refine DF.op (ids := []) 62 [0,1,2,3,4,5,6,7,8,9,10,11,12,13,14,15,16,17,18,19,20,21,22,23,24,25,26,27,28,29,30,31,32,33,34,35,36,37,38,39,40,41,42,43,44,45,46,47,48,49,50,51,52,53,54,55,56,57,58,59,60,61] 64 rfl rfl rfl (.no rfl rfl rfl rfl rfl rfl) rfl ?_
       refine DF.op 63 [0,1,2,3,4,5,6,7,8,9,10,11,12,13,14,15,16,17,18,19,20,21,22,23,24,25,26,27,28,29,30,31,32,33,34,35,36,37,38,39,40,41,42,43,44,45,46,47,48,49,50,51,52,53,54,55,56,57,58,59,60,61,62] 64 rfl rfl rfl (.free rfl (NOp.of (by exact g_pickT (r := .d _) rfl rfl))) rfl ?_
       refine DF.fin (ps := [(0,2),(0,3),(0,4),(1,2),(1,3),(1,4),(2,0),(2,1),(3,0),(3,1),(4,0),(4,1),(8,12),(8,13),(9,12),(9,13),(10,12),(10,13),(11,12),(11,13),(12,8),(12,9),(12,10),(12,11),(13,8),(13,9),(13,10),(13,11),(19,21),(19,22),(19,23),(19,24),(20,21),(20,22),(20,23),(20,24),(21,19),(21,20),(22,19),(22,20),(23,19),(23,20),(24,19),(24,20),(28,30),(28,31),(28,32),(28,33),(28,34),(28,35),(28,36),(28,37),(28,38),(28,39),(28,40),(28,41),(28,42),(28,43),(28,44),(29,30),(29,31),(29,32),(29,33),(29,34),(29,35),(29,36),(29,37),(29,38),(29,39),(29,40),(29,41),(29,42),(29,43),(29,44),(30,28),(30,29),(30,34),(30,35),(30,38),(30,39),(30,40),(30,41),(30,42),(30,43),(31,28),(31,29),(31,34),(31,35),(31,38),(31,39),(31,40),(31,41),(31,42),(31,43),(32,28),(32,29),(32,34),(32,35),(32,38),(32,39),(32,40),(32,41),(32,42),(32,43),(33,28),(33,29),(33,34),(33,35),(33,38),(33,39),(33,40),(33,41),(33,42),(33,43),(34,28),(34,29),(34,30),(34,31),(34,32),(34,33),(34,38),(34,39),(34,40),(34,41),(34,42),(34,43),(35,28),(35,29),(35,30),(35,31),(35,32),(35,33),(35,38),(35,39),(35,40),(35,41),(35,42),(35,43),(36,28),(36,29),(36,38),(36,39),(36,40),(36,41),(36,42),(36,43),(37,28),(37,29),(37,38),(37,39),(37,40),(37,41),(37,42),(37,43),(38,28),(38,29),(38,30),(38,31),(38,32),(38,33),(38,34),(38,35),(38,36),(38,37),(38,39),(38,40),(39,28),(39,29),(39,30),(39,31),(39,32),(39,33),(39,34),(39,35),(39,36),(39,37),(39,38),(40,28),(40,29),(40,30),(40,31),(40,32),(40,33),(40,34),(40,35),(40,36),(40,37),(40,38),(41,28),(41,29),(41,30),(41,31),(41,32),(41,33),(41,34),(41,35),(41,36),(41,37),(42,28),(42,29),(42,30),(42,31),(42,32),(42,33),(42,34),(42,35),(42,36),(42,37),(43,28),(43,29),(43,30),(43,31),(43,32),(43,33),(43,34),(43,35),(43,36),(43,37),(44,28),(44,29),(48,50),(48,51),(48,52),(49,50),(49,51),(49,52),(50,48),(50,49),(50,51),(51,48),(51,49),(51,50),(52,48),(52,49),(56,57),(56,58),(56,59),(56,60),(57,56),(57,59),(57,60),(58,56),(58,59),(58,60),(59,56),(59,57),(59,58),(60,56),(60,57),(60,58)]) 64 rfl (by decide +kernel) (by decide +kernel) (by rfl) ?_
       refine th_n ?_
       refine AC.condT rfl ?_
       refine AC.seq ?_
       refine AC.region ?_
       refine AL.p (by exact as1 rfl) rfl ?_
       refine AL.nil ?_
       refine th_n ?_
       refine AC.ret ?_
       refine ib_r ?_
       refine th_r ?_
       refine th_r ?_
       refine ib_r ?_
       refine th_r ?_
       refine bq_r ?_
       have e : chkB s.net c l x = false := by (rw [hch, decide_eq_false (show ¬ earI c l x.t.toNat ≤ x.tm by rw [hear]; omega)]; simp)
       rw [e] at hrun
       exact ret1 rfl (by rw [← hrun] <;> rfl)
      ·refine DF.op 48 [0,1,2,3,4,5,6,7,8,9,10,11,12,13,14,15,16,17,18,19,20,21,22,23,24,25,26,27,28,29,30,31,32,33,34,35,36,37,38,39,40,41,42,43,44,45,46,47] 64 rfl rfl rfl (.yes rfl rfl rfl rfl (NOp.of (by exact g_fa_ptr rfl rfl rfl rfl rfl))) rfl ?_
       refine DF.op 49 [0,1,2,3,4,5,6,7,8,9,10,11,12,13,14,15,16,17,18,19,20,21,22,23,24,25,26,27,28,29,30,31,32,33,34,35,36,37,38,39,40,41,42,43,44,45,46,47,48] 64 rfl rfl rfl (.yes rfl rfl rfl rfl (NOp.of (by exact g_load_ptr rfl rfl rfl rfl rfl))) rfl ?_
       refine DF.op 50 [0,1,2,3,4,5,6,7,8,9,10,11,12,13,14,15,16,17,18,19,20,21,22,23,24,25,26,27,28,29,30,31,32,33,34,35,36,37,38,39,40,41,42,43,44,45,46,47] 64 rfl rfl rfl (.yes rfl rfl rfl rfl (NOp.of (by exact mv3 rfl))) rfl ?_
       refine DF.op 51 [0,1,2,3,4,5,6,7,8,9,10,11,12,13,14,15,16,17,18,19,20,21,22,23,24,25,26,27,28,29,30,31,32,33,34,35,36,37,38,39,40,41,42,43,44,45,46,47] 64 rfl rfl rfl (.yes rfl rfl rfl rfl (NOp.of (by exact mv1 rfl))) rfl ?_
       refine DF.op 52 [0,1,2,3,4,5,6,7,8,9,10,11,12,13,14,15,16,17,18,19,20,21,22,23,24,25,26,27,28,29,30,31,32,33,34,35,36,37,38,39,40,41,42,43,44,45,46,47,50,51] 64 rfl rfl rfl (.yes rfl rfl rfl rfl (by exact h_fun (cs := [100, 101]) en_lkLast rfl rfl (by repeat (first | exact rfl | exact DLead.same | refine ⟨_, _, rfl, ?_, ?_⟩ | refine ⟨_, rfl, ?_⟩)) (by repeat (first | exact True.intro | refine And.intro ?_ ?_ | exact DLead.same | exact rfl | refine ⟨_, _, rfl, rfl, ?_⟩ | refine ⟨_, rfl, ?_⟩ | refine ⟨_, _, rfl, ?_, ?_⟩)) hLs rfl rfl rfl rfl)) rfl ?_
       refine DF.op 53 [0,1,2,3,4,5,6,7,8,9,10,11,12,13,14,15,16,17,18,19,20,21,22,23,24,25,26,27,28,29,30,31,32,33,34,35,36,37,38,39,40,41,42,43,44,45,46,47,48,49,50,51,52] 64 rfl rfl rfl (.yes rfl rfl rfl rfl (NOp.of (by exact g_cmp rfl rfl rfl))) rfl ?_
       refine DF.op 54 [0,1,2,3,4,5,6,7,8,9,10,11,12,13,14,15,16,17,18,19,20,21,22,23,24,25,26,27,28,29,30,31,32,33,34,35,36,37,38,39,40,41,42,43,44,45,46,47,48,49,50,51,52,53] 64 rfl rfl rfl (.free rfl (NOp.of (by exact g_pickF (r := .d _) rfl rfl))) rfl ?_
       refine DF.op 55 [0,1,2,3,4,5,6,7,8,9,10,11,12,13,14,15,16,17,18,19,20,21,22,23,24,25,26,27,28,29,30,31,32,33,34,35,36,37,38,39,40,41,42,43,44,45,46,47,48,49,50,51,52,53,54] 64 rfl rfl rfl (.free rfl (NOp.of (by exact mv1 rfl))) rfl ?_
       refine DF.caseD 55 rfl (fun h5 => ?_) (fun h5 => ?_)
       ·refine DF.op (ids := []) 56 [0,1,2,3,4,5,6,7,8,9,10,11,12,13,14,15,16,17,18,19,20,21,22,23,24,25,26,27,28,29,30,31,32,33,34,35,36,37,38,39,40,41,42,43,44,45,46,47,48,49,50,51,52,53,54,55] 64 rfl rfl rfl (.no rfl rfl rfl rfl rfl rfl) rfl ?_
        refine DF.op (ids := []) 57 [0,1,2,3,4,5,6,7,8,9,10,11,12,13,14,15,16,17,18,19,20,21,22,23,24,25,26,27,28,29,30,31,32,33,34,35,36,37,38,39,40,41,42,43,44,45,46,47,48,49,50,51,52,53,54,55] 64 rfl rfl rfl (.no rfl rfl rfl rfl rfl rfl) rfl ?_
        refine DF.op (ids := []) 58 [0,1,2,3,4,5,6,7,8,9,10,11,12,13,14,15,16,17,18,19,20,21,22,23,24,25,26,27,28,29,30,31,32,33,34,35,36,37,38,39,40,41,42,43,44,45,46,47,48,49,50,51,52,53,54,55,57] 64 rfl rfl rfl (.no rfl rfl rfl rfl rfl rfl) rfl ?_
        refine DF.op (ids := []) 59 [0,1,2,3,4,5,6,7,8,9,10,11,12,13,14,15,16,17,18,19,20,21,22,23,24,25,26,27,28,29,30,31,32,33,34,35,36,37,38,39,40,41,42,43,44,45,46,47,48,49,50,51,52,53,54,55] 64 rfl rfl rfl (.no rfl rfl rfl rfl rfl rfl) rfl ?_
        refine DF.op (ids := []) 60 [0,1,2,3,4,5,6,7,8,9,10,11,12,13,14,15,16,17,18,19,20,21,22,23,24,25,26,27,28,29,30,31,32,33,34,35,36,37,38,39,40,41,42,43,44,45,46,47,48,49,50,51,52,53,54,55,59] 64 rfl rfl rfl (.no rfl rfl rfl rfl rfl rfl) rfl ?_
        refine DF.op (ids := []) 61 [0,1,2,3,4,5,6,7,8,9,10,11,12,13,14,15,16,17,18,19,20,21,22,23,24,25,26,27,28,29,30,31,32,33,34,35,36,37,38,39,40,41,42,43,44,45,46,47,48,49,50,51,52,53,54,55,56,57,58,59,60] 64 rfl rfl rfl (.no rfl rfl rfl rfl rfl rfl) rfl ?_
        refine DF.op (ids := []) 62 [0,1,2,3,4,5,6,7,8,9,10,11,12,13,14,15,16,17,18,19,20,21,22,23,24,25,26,27,28,29,30,31,32,33,34,35,36,37,38,39,40,41,42,43,44,45,46,47,48,49,50,51,52,53,54,55,56,57,58,59,60,61] 64 rfl rfl rfl (.no rfl rfl rfl rfl rfl rfl) rfl ?_
        refine DF.op 63 [0,1,2,3,4,5,6,7,8,9,10,11,12,13,14,15,16,17,18,19,20,21,22,23,24,25,26,27,28,29,30,31,32,33,34,35,36,37,38,39,40,41,42,43,44,45,46,47,48,49,50,51,52,53,54,55,56,57,58,59,60,61,62] 64 rfl rfl rfl (.free rfl (NOp.of (by exact g_pickT (r := .d _) rfl rfl))) rfl ?_
        refine DF.fin (ps := [(0,2),(0,3),(0,4),(1,2),(1,3),(1,4),(2,0),(2,1),(3,0),(3,1),(4,0),(4,1),(8,12),(8,13),(9,12),(9,13),(10,12),(10,13),(11,12),(11,13),(12,8),(12,9),(12,10),(12,11),(13,8),(13,9),(13,10),(13,11),(19,21),(19,22),(19,23),(19,24),(20,21),(20,22),(20,23),(20,24),(21,19),(21,20),(22,19),(22,20),(23,19),(23,20),(24,19),(24,20),(28,30),(28,31),(28,32),(28,33),(28,34),(28,35),(28,36),(28,37),(28,38),(28,39),(28,40),(28,41),(28,42),(28,43),(28,44),(29,30),(29,31),(29,32),(29,33),(29,34),(29,35),(29,36),(29,37),(29,38),(29,39),(29,40),(29,41),(29,42),(29,43),(29,44),(30,28),(30,29),(30,34),(30,35),(30,38),(30,39),(30,40),(30,41),(30,42),(30,43),(31,28),(31,29),(31,34),(31,35),(31,38),(31,39),(31,40),(31,41),(31,42),(31,43),(32,28),(32,29),(32,34),(32,35),(32,38),(32,39),(32,40),(32,41),(32,42),(32,43),(33,28),(33,29),(33,34),(33,35),(33,38),(33,39),(33,40),(33,41),(33,42),(33,43),(34,28),(34,29),(34,30),(34,31),(34,32),(34,33),(34,38),(34,39),(34,40),(34,41),(34,42),(34,43),(35,28),(35,29),(35,30),(35,31),(35,32),(35,33),(35,38),(35,39),(35,40),(35,41),(35,42),(35,43),(36,28),(36,29),(36,38),(36,39),(36,40),(36,41),(36,42),(36,43),(37,28),(37,29),(37,38),(37,39),(37,40),(37,41),(37,42),(37,43),(38,28),(38,29),(38,30),(38,31),(38,32),(38,33),(38,34),(38,35),(38,36),(38,37),(38,39),(38,40),(39,28),(39,29),(39,30),(39,31),(39,32),(39,33),(39,34),(39,35),(39,36),(39,37),(39,38),(40,28),(40,29),(40,30),(40,31),(40,32),(40,33),(40,34),(40,35),(40,36),(40,37),(40,38),(41,28),(41,29),(41,30),(41,31),(41,32),(41,33),(41,34),(41,35),(41,36),(41,37),(42,28),(42,29),(42,30),(42,31),(42,32),(42,33),(42,34),(42,35),(42,36),(42,37),(43,28),(43,29),(43,30),(43,31),(43,32),(43,33),(43,34),(43,35),(43,36),(43,37),(44,28),(44,29),(48,50),(48,51),(48,52),(49,50),(49,51),(49,52),(50,48),(50,49),(50,51),(51,48),(51,49),(51,50),(52,48),(52,49),(56,57),(56,58),(56,59),(56,60),(57,56),(57,59),(57,60),(58,56),(58,59),(58,60),(59,56),(59,57),(59,58),(60,56),(60,57),(60,58)]) 64 rfl (by decide +kernel) (by decide +kernel) (by rfl) ?_
        refine th_n ?_
        refine AC.condT rfl ?_
        refine AC.seq ?_
        refine AC.region ?_
        refine AL.p (by exact as1 rfl) rfl ?_
        refine AL.nil ?_
        refine th_n ?_
        refine AC.ret ?_
        refine ib_r ?_
        refine th_r ?_
        refine th_r ?_
        refine ib_r ?_
        refine th_r ?_
        refine bq_r ?_
        have e : chkB s.net c l x = false := by (rw [hch, decide_eq_false (show ¬ x.tm ≤ last by omega)]; simp)
        rw [e] at hrun
        exact ret1 rfl (by rw [← hrun] <;> rfl)
       ·refine DF.op 56 [0,1,2,3,4,5,6,7,8,9,10,11,12,13,14,15,16,17,18,19,20,21,22,23,24,25,26,27,28,29,30,31,32,33,34,35,36,37,38,39,40,41,42,43,44,45,46,47,48,49,50,51,52,53,54,55] 64 rfl rfl rfl (.yes rfl rfl rfl rfl (NOp.of (by exact mv3 rfl))) rfl ?_
        refine DF.op 57 [0,1,2,3,4,5,6,7,8,9,10,11,12,13,14,15,16,17,18,19,20,21,22,23,24,25,26,27,28,29,30,31,32,33,34,35,36,37,38,39,40,41,42,43,44,45,46,47,48,49,50,51,52,53,54,55] 64 rfl rfl rfl (.yes rfl rfl rfl rfl (NOp.of (by exact g_fa_ptr rfl rfl rfl rfl rfl))) rfl ?_
        refine DF.op 58 [0,1,2,3,4,5,6,7,8,9,10,11,12,13,14,15,16,17,18,19,20,21,22,23,24,25,26,27,28,29,30,31,32,33,34,35,36,37,38,39,40,41,42,43,44,45,46,47,48,49,50,51,52,53,54,55,57] 64 rfl rfl rfl (.yes rfl rfl rfl rfl (NOp.of (by exact g_load_ptr rfl rfl rfl rfl rfl))) rfl ?_
        refine DF.op 59 [0,1,2,3,4,5,6,7,8,9,10,11,12,13,14,15,16,17,18,19,20,21,22,23,24,25,26,27,28,29,30,31,32,33,34,35,36,37,38,39,40,41,42,43,44,45,46,47,48,49,50,51,52,53,54,55] 64 rfl rfl rfl (.yes rfl rfl rfl rfl (NOp.of (by exact g_fa_ptr rfl rfl rfl rfl rfl))) rfl ?_
        refine DF.op 60 [0,1,2,3,4,5,6,7,8,9,10,11,12,13,14,15,16,17,18,19,20,21,22,23,24,25,26,27,28,29,30,31,32,33,34,35,36,37,38,39,40,41,42,43,44,45,46,47,48,49,50,51,52,53,54,55,59] 64 rfl rfl rfl (.yes rfl rfl rfl rfl (NOp.of (by exact g_load_ptr rfl rfl rfl rfl rfl))) rfl ?_
        refine DF.op 61 [0,1,2,3,4,5,6,7,8,9,10,11,12,13,14,15,16,17,18,19,20,21,22,23,24,25,26,27,28,29,30,31,32,33,34,35,36,37,38,39,40,41,42,43,44,45,46,47,48,49,50,51,52,53,54,55,56,57,58,59,60] 64 rfl rfl rfl (.yes rfl rfl rfl rfl (by exact h_fun (cs := [100, 101]) en_lkFire rfl rfl (by repeat (first | exact rfl | exact DLead.same | refine ⟨_, _, rfl, ?_, ?_⟩ | refine ⟨_, rfl, ?_⟩)) (by repeat (first | exact True.intro | refine And.intro ?_ ?_ | exact DLead.same | exact rfl | refine ⟨_, _, rfl, rfl, ?_⟩ | refine ⟨_, rfl, ?_⟩ | refine ⟨_, _, rfl, ?_, ?_⟩)) (hFi (by simpa using h1)) rfl rfl rfl rfl)) rfl ?_
        refine DF.op 62 [0,1,2,3,4,5,6,7,8,9,10,11,12,13,14,15,16,17,18,19,20,21,22,23,24,25,26,27,28,29,30,31,32,33,34,35,36,37,38,39,40,41,42,43,44,45,46,47,48,49,50,51,52,53,54,55,56,57,58,59,60,61] 64 rfl rfl rfl (.yes rfl rfl rfl rfl (NOp.of (by exact g_not rfl))) rfl ?_
        refine DF.op 63 [0,1,2,3,4,5,6,7,8,9,10,11,12,13,14,15,16,17,18,19,20,21,22,23,24,25,26,27,28,29,30,31,32,33,34,35,36,37,38,39,40,41,42,43,44,45,46,47,48,49,50,51,52,53,54,55,56,57,58,59,60,61,62] 64 rfl rfl rfl (.free rfl (NOp.of (by exact g_pickF (r := .d _) rfl rfl))) rfl ?_
        refine DF.fin (ps := [(0,2),(0,3),(0,4),(1,2),(1,3),(1,4),(2,0),(2,1),(3,0),(3,1),(4,0),(4,1),(8,12),(8,13),(9,12),(9,13),(10,12),(10,13),(11,12),(11,13),(12,8),(12,9),(12,10),(12,11),(13,8),(13,9),(13,10),(13,11),(19,21),(19,22),(19,23),(19,24),(20,21),(20,22),(20,23),(20,24),(21,19),(21,20),(22,19),(22,20),(23,19),(23,20),(24,19),(24,20),(28,30),(28,31),(28,32),(28,33),(28,34),(28,35),(28,36),(28,37),(28,38),(28,39),(28,40),(28,41),(28,42),(28,43),(28,44),(29,30),(29,31),(29,32),(29,33),(29,34),(29,35),(29,36),(29,37),(29,38),(29,39),(29,40),(29,41),(29,42),(29,43),(29,44),(30,28),(30,29),(30,34),(30,35),(30,38),(30,39),(30,40),(30,41),(30,42),(30,43),(31,28),(31,29),(31,34),(31,35),(31,38),(31,39),(31,40),(31,41),(31,42),(31,43),(32,28),(32,29),(32,34),(32,35),(32,38),(32,39),(32,40),(32,41),(32,42),(32,43),(33,28),(33,29),(33,34),(33,35),(33,38),(33,39),(33,40),(33,41),(33,42),(33,43),(34,28),(34,29),(34,30),(34,31),(34,32),(34,33),(34,38),(34,39),(34,40),(34,41),(34,42),(34,43),(35,28),(35,29),(35,30),(35,31),(35,32),(35,33),(35,38),(35,39),(35,40),(35,41),(35,42),(35,43),(36,28),(36,29),(36,38),(36,39),(36,40),(36,41),(36,42),(36,43),(37,28),(37,29),(37,38),(37,39),(37,40),(37,41),(37,42),(37,43),(38,28),(38,29),(38,30),(38,31),(38,32),(38,33),(38,34),(38,35),(38,36),(38,37),(38,39),(38,40),(39,28),(39,29),(39,30),(39,31),(39,32),(39,33),(39,34),(39,35),(39,36),(39,37),(39,38),(40,28),(40,29),(40,30),(40,31),(40,32),(40,33),(40,34),(40,35),(40,36),(40,37),(40,38),(41,28),(41,29),(41,30),(41,31),(41,32),(41,33),(41,34),(41,35),(41,36),(41,37),(42,28),(42,29),(42,30),(42,31),(42,32),(42,33),(42,34),(42,35),(42,36),(42,37),(43,28),(43,29),(43,30),(43,31),(43,32),(43,33),(43,34),(43,35),(43,36),(43,37),(44,28),(44,29),(48,50),(48,51),(48,52),(49,50),(49,51),(49,52),(50,48),(50,49),(50,51),(51,48),(51,49),(51,50),(52,48),(52,49),(56,57),(56,58),(56,59),(56,60),(57,56),(57,59),(57,60),(58,56),(58,59),(58,60),(59,56),(59,57),(59,58),(60,56),(60,57),(60,58)]) 64 rfl (by decide +kernel) (by decide +kernel) (by rfl) ?_
        refine th_n ?_
        refine AC.condB rfl (fun h6 => ?_) (fun h6 => ?_)
        ·refine AC.seq ?_
         refine AC.region ?_
         refine AL.p (by exact as1 rfl) rfl ?_
         refine AL.nil ?_
         refine th_n ?_
         refine AC.ret ?_
         refine ib_r ?_
         refine th_r ?_
         refine th_r ?_
         refine ib_r ?_
         refine th_r ?_
         refine bq_r ?_
         have e : chkB s.net c l x = false := by (rw [hch, show F.2 = false by (simpa using h6)]; simp)
         rw [e] at hrun
         exact ret1 rfl (by rw [← hrun] <;> rfl)
        ·refine AC.skip ?_
         refine ib_n ?_
         refine th_n ?_
         refine AC.region ?_
         refine AL.p (by exact g_arith rfl rfl rfl (by exact wrap_i64 (by omega))) rfl ?_
         refine AL.p (by exact mv1 rfl) rfl ?_
         refine AL.nil ?_
         refine th_n ?_
         have e : chkB s.net c l x = true := by rw [hch, show b1 = true by simpa using h1, decide_eq_true (show 0 ≤ iAt c.since x.t.toNat by omega), decide_eq_true (show earI c l x.t.toNat ≤ x.tm by rw [hear]; omega), decide_eq_true (show x.tm ≤ last by omega), show F.2 = true by (simpa using h6)]; rfl
         rw [e] at hrun
         exact ⟨(k + 1, F.1), ⟨by omega, (hCI e).mono (by omega), hrun⟩, by dsimp only; omega, Weak.ren _ [(100, 100), (101, 101)] hC rfl (by repeat (first | exact True.intro | refine And.intro ?_ ?_ | exact DLead.same | exact rfl | refine ⟨_, rfl, ?_⟩)) (by repeat (first | exact True.intro | refine And.intro ?_ ?_ | exact DLead.same | exact rfl | refine ⟨_, _, rfl, rfl, ?_⟩ | refine ⟨_, rfl, ?_⟩ | refine ⟨_, _, rfl, ?_, ?_⟩)) rfl rfl rfl⟩
  ·refine AC.exit ?_
   refine th_e ?_
   refine th_e ?_
   refine ib_y ?_
   refine th_n ?_
   refine AC.seq ?_
   refine AC.region ?_
   refine AL.p (by exact as1 rfl) rfl ?_
   refine AL.nil ?_
   refine th_n ?_
   refine AC.ret ?_
   refine bq_r ?_
   have e : k = run.length := by omega
   rw [e, List.drop_length, checkQ] at hrun
   exact ret1 rfl (by rw [← hrun] <;> rfl)
theorem en_l23Check : Enters Tryz.prog 34 := enters_of Tryz.func34 rfl rfl
set_option maxHeartbeats 2000000 in
theorem sIsTR_spec (s : Stg) (l : List Dl) (run : List Tf) (hB : StgB s) (hl : DlB l) (hn : run.length ≤ 100000) (hr : ∀ x, x ∈ run → -1000000 ≤ x.tm ∧ x.tm ≤ 1000000 ∧ -1000000 ≤ x.t ∧ x.t ≤ 1000000) : ASpec Tryz.prog 9 [stgA s, .d (vDls l), .d (vTfs run)] [] (Pure1 (.tup [aT (trR s l run).1, aT (trR s l run).2])) := by
 have hV := l23Good_spec s l hB hl
 have hR : trR s l run = if (validD s l && !decide ((run.length : Int) > 60)) = true then (checkQ s.net l run (newK s), true) else (false, false) := rfl
 have hC0 : validD s l = true → run.length ≤ 60 → _ := fun h1 h2 => l23Check_spec s l run hB h1 h2 hr
 obtain ⟨b1, hb1⟩ : ∃ b, b = validD s l := ⟨_, rfl⟩
 rw [← hb1] at hV hR hC0
 obtain ⟨Z, hZ⟩ : ∃ Z, Z = checkQ s.net l run (newK s) := ⟨_, rfl⟩
 rw [← hZ] at hR hC0
 obtain ⟨R, hRR⟩ : ∃ R, R = trR s l run := ⟨_, rfl⟩
 rw [← hRR] at hR ⊢
 clear hb1 hZ hRR hr
 refine ASpec.of Tryz.func9 rfl rfl fun C hC => ?_
 refine AC.seq ?_
 refine AC.region ?_
 refine AL.q (by exact h_boxF rfl rfl) rfl ?_
 refine AL.p (by exact as1 rfl) rfl ?_
 refine AL.p (by exact as1 rfl) rfl ?_
 refine AL.nil ?_
 refine th_n ?_
 refine AC.seq ?_
 refine AC.seq ?_
 refine AC.region ?_
 refine AL.p (by exact g_load_refN rfl rfl rfl rfl) rfl ?_
 refine AL.p (by exact mv1 rfl) rfl ?_
 refine AL.q (by exact h_pure en_l23Good rfl rfl (by repeat (first | exact rfl | exact DLead.same | refine ⟨_, _, rfl, ?_, ?_⟩ | refine ⟨_, rfl, ?_⟩)) hV rfl) rfl ?_
 refine AL.p (by exact g_not rfl) rfl ?_
 refine AL.p (by exact mv1 rfl) rfl ?_
 refine AL.caseGB rfl rfl (fun h0 => ?_) (fun h0 => ?_)
 ·refine AL.not rfl rfl rfl rfl rfl ?_
  refine AL.not rfl rfl rfl rfl rfl ?_
  refine AL.not rfl rfl rfl rfl rfl ?_
  refine AL.p (by exact g_pickT (r := .d _) rfl rfl) rfl ?_
  refine AL.nil ?_
  refine th_n ?_
  refine AC.condT rfl ?_
  refine AC.seq ?_
  refine AC.region ?_
  refine AL.p (by exact as1 rfl) rfl ?_
  refine AL.p (by exact as1 rfl) rfl ?_
  refine AL.nil ?_
  refine th_n ?_
  refine AC.ret ?_
  refine th_r ?_
  refine bq_r ?_
  have e : R = (false, false) := by rw [hR]; refine if_neg ?_; simp only [Bool.and_eq_true, Bool.not_eq_true', decide_eq_false_iff_not]; simp_all
  exact ret2 rfl (by rw [e]) (by rw [e])
 ·refine AL.yes rfl rfl rfl ?_
  refine AL.p (by exact mv1 rfl) rfl ?_
  refine AL.yes rfl rfl rfl ?_
  refine AL.p (by exact g_len_view (k := run.length) rfl rfl (tfL_len _)) rfl ?_
  refine AL.yes rfl rfl rfl ?_
  refine AL.p (by exact g_cmp rfl rfl rfl) rfl ?_
  refine AL.p (by exact g_pickF (r := .d _) rfl rfl) rfl ?_
  refine AL.nil ?_
  refine th_n ?_
  refine AC.condD rfl (fun h1 => ?_) (fun h1 => ?_)
  ·refine AC.seq ?_
   refine AC.region ?_
   refine AL.p (by exact as1 rfl) rfl ?_
   refine AL.p (by exact as1 rfl) rfl ?_
   refine AL.nil ?_
   refine th_n ?_
   refine AC.ret ?_
   refine th_r ?_
   refine bq_r ?_
   have e : R = (false, false) := by rw [hR]; refine if_neg ?_; simp only [Bool.and_eq_true, Bool.not_eq_true', decide_eq_false_iff_not]; simp_all
   exact ret2 rfl (by rw [e]) (by rw [e])
  ·refine AC.skip ?_
   refine th_n ?_
   refine AC.seq ?_
   have q1 : b1 = true := by simpa using h0
   have q2 : ¬ (run.length : Int) > 60 := by simpa using h1
   have hCk := hC0 q1 (by omega)
   have e := hR.trans (if_pos (by rw [q1, decide_eq_false q2]; rfl))
   refine AC.region ?_
   refine AL.p (by exact g_load_refN rfl rfl rfl rfl) rfl ?_
   refine AL.p (by exact mv1 rfl) rfl ?_
   refine AL.p (by exact mv1 rfl) rfl ?_
   refine AL.q (by exact h_pure en_l23Check rfl rfl (by repeat (first | exact rfl | exact DLead.same | refine ⟨_, _, rfl, ?_, ?_⟩ | refine ⟨_, rfl, ?_⟩)) hCk rfl) rfl ?_
   refine AL.p (by exact as1 rfl) rfl ?_
   refine AL.p (by exact as1 rfl) rfl ?_
   refine AL.nil ?_
   refine th_n ?_
   refine AC.ret ?_
   refine bq_r ?_
   exact ret2 rfl (by rw [e]) (by rw [e])
theorem en_sIsTR : Enters Tryz.prog 9 := enters_of Tryz.func9 rfl rfl
end Go.Proofs.YtijnganhpnmhaaaGreat
