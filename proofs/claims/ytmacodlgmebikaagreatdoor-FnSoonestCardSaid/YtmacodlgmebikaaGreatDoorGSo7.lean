/- Contracts of the functions of the program and of the reference, each proved by a walk through its code. -/
import Derived.Lib.SliceRun
import Derived.Laws.RangeString
import Derived.Lib.LaidTab
import Derived.ChangeSame
import Derived.ChangeVars
import Derived.JoinedOf
import Derived.RowKit
import Derived.RowKitTokens
import Derived.LaidLaws
import Derived.LaidHandle
import Derived.Stop.Joined
import Derived.MakeChecks
import Derived.SevenTiedAt
import Derived.Stop.LaidErr
import Derived.WalkKit
import Derived.WalkSpells
import Derived.WalkLawsBesides
import Derived.Deep.Draws
import Derived.Lib.Hide
import Derived.Maps.AppendAt
import Derived.OwnWalk
import Derived.Deep.MidRow
import Derived.Laws.ResultCell
import Derived.Deep.Upon
import Derived.Great.FillDense
import Derived.Laws.Tables
import Derived.Laws.BytesArg
import Derived.Laws.MakeOwn
import Derived.Great.BuildSlice
import Derived.ArgAppend
import Derived.Deep.AppendSrc
import Derived.Test.YtmacodlgmebikaaGreatDoorProg
import Derived.KernelRfl
import Derived.Orders
import Derived.Laws.IdiomStrings
import Derived.Lib.AppendZerosOnto
import Derived.ProofKit
import Derived.OpenShut
import Derived.Laws.StructEq
import Derived.ChangeKeysEq
import Derived.Laws.IdiomCopy
import Derived.Shelf.Strings.Builder1
import Derived.Shelf.Strings.Builder2
import Derived.Shelf.Strings.OnBuilder
import Derived.Shelf.Strconv.Itoa0
import Derived.Shelf.Strconv.Itoa1
import Derived.Shelf.LaysM
import Derived.Shelf.Strconv.Itoa2
import Derived.Shelf.Strconv.Itoa3
import Derived.Shelf.Bits.Mul64
import Derived.Test.YtmacodlgmebikaaGreatDoorRows
import Derived.Sort.Grow
import Derived.Below
import Derived.Laws.Small
import Derived.Test.YtmacodlgmebikaaGreatDoorGSo6
set_option linter.all false
set_option maxRecDepth 20000
namespace Go.Proofs.YtmacodlgmebikaaGreatDoor
open Go.RowKit
abbrev lkC (N : Net) (c : Ck) (id : Nat) : Chunk := .cells 97 [aI N.places, .d (vTs N.ts), aS (bstr c.mark), aI c.now, .own id c.since.length]
abbrev lkChs (N : Net) (c : Ck) (i j : Nat) : List (Nat × Chunk) := [(i, lkC N c j), (j, .arr 3 1 (ints c.since))]
def mixL (new old : List Int) (k : Nat) : List Int := new.take k ++ old.drop k
theorem mixL_len {new old : List Int} (h : new.length = old.length) (k : Nat) : (mixL new old k).length = old.length := by simp [mixL]; omega
theorem mixL_zero (new old : List Int) : mixL new old 0 = old := rfl
theorem mixL_all {new old : List Int} (h : new.length = old.length) : mixL new old old.length = new := by unfold mixL; rw [← h, List.take_length, h, List.drop_length, List.append_nil]
theorem mixL_at {new old : List Int} (h : new.length = old.length) {k : Nat} (hk : k < old.length) : iAt (mixL new old k) k = iAt old k := by
 unfold iAt mixL
 rw [List.getD_eq_getElem?_getD, List.getD_eq_getElem?_getD, List.getElem?_append_right (by simp; omega), List.getElem?_drop]
 congr 2
 simp; omega
theorem mixL_set {new old : List Int} (h : new.length = old.length) {k : Nat} (hk : k < old.length) : (mixL new old k).set k (iAt new k) = mixL new old (k + 1) := by
 unfold mixL
 rw [List.set_append_right _ _ (by simp; omega), List.length_take, Nat.min_eq_left (by omega), Nat.sub_self, List.drop_eq_getElem_cons hk, List.set_cons_zero, List.take_add_one, List.getElem?_eq_getElem (by omega), iAt_nat (by omega), List.append_assoc]
 rfl
theorem rangeMap_at {n : Nat} {f : Nat → Int} {k : Nat} (hk : k < n) : iAt ((List.range n).map f) k = f k := by
 unfold iAt
 rw [List.getD_eq_getElem?_getD, List.getElem?_map, List.getElem?_range hk]; rfl
set_option maxHeartbeats 8000000 in
theorem l23New_spec (s : Stg) (hB : StgB s) (hg : goodS s = true) : ASpec Tryz.prog 49 [stgA s] [] (Fun1 (.ptr 0 0) (lkChs s.net (newK s) 0 1)) := by
 obtain ⟨hgn, hbit, hll⟩ := goodS_bits hg
 have hM := good_netM hgn hbit
 have htl : s.net.ts.length ≤ 24 := by have := goodS_few hg; omega
 have hKl : (newK s).since.length = s.net.ts.length := by simp [newK]
 have hKm : (newK s).mark = s.start := rfl
 have hKn : (newK s).now = 0 := rfl
 have hKa : ∀ k, k < s.net.ts.length → iAt (newK s).since k = if enB s.net s.start k = true then 0 else -1 := fun k hk => rangeMap_at hk
 have hR : ∀ k (hk : k < s.net.ts.length), ASpec Tryz.prog 73 [netA s.net, aS (bstr s.start), aI k] [] (Pure1 (aT (enB s.net s.start k))) := fun k hk => by
  have h1 := hM _ (List.getElem_mem hk)
  have := l1Ready_spec s.net s.start k hk (hB.n.t _ (List.getElem_mem hk)).1 h1.1
  rwa [ready_enabled hbit h1.1, ← enB_nat hk] at this
 obtain ⟨K, hK⟩ : ∃ K, K = newK s := ⟨_, rfl⟩
 rw [← hK] at hKl hKm hKn hKa ⊢
 have hz : ∀ k, (mixL K.since (List.replicate s.net.ts.length 0) k).length = s.net.ts.length := fun k => by rw [mixL_len (by simpa using hKl)]; simp
 clear hK
 refine ASpec.of Tryz.func49 rfl rfl fun C hC => ?_
 refine AC.seq (AC.region ?_)
 refine AL.q (by exact h_boxF rfl rfl) rfl ?_
 refine AL.p (by exact as1 rfl) rfl ?_
 refine AL.nil (th_n (AC.seq ?_))
 refine AC.drawn' mixed_ok [[], [0], [], [2], [], [4], [4,5], [4,5,6], [4,5,6,7], [0,1,2,3,4,5,6,7,8], [0,1,2,3,4,5,6,7,8,9], [0,1,2,3,4,5,6,7,8,9,10]] (by decide) ?_
 refine DF.op 0 [] 12 rfl rfl rfl (.free rfl (NOp.of (by exact g_fa_ref rfl rfl rfl rfl rfl rfl))) rfl ?_
 refine DF.op 1 [0] 12 rfl rfl rfl (.free rfl (NOp.of (by exact g_load_refN rfl rfl rfl rfl))) rfl ?_
 refine DF.op 2 [] 12 rfl rfl rfl (.free rfl (NOp.of (by exact g_fa_ref rfl rfl rfl rfl rfl rfl))) rfl ?_
 refine DF.op 3 [2] 12 rfl rfl rfl (.free rfl (NOp.of (by exact g_load_ref rfl rfl rfl))) rfl ?_
 refine DF.op 4 [] 12 rfl rfl rfl (.free rfl (NOp.of (by exact g_fa_ref rfl rfl rfl rfl rfl rfl))) rfl ?_
 refine DF.op 5 [4] 12 rfl rfl rfl (.free rfl (NOp.of (by exact g_fa_ref rfl rfl rfl rfl rfl rfl))) rfl ?_
 refine DF.op 6 [4,5] 12 rfl rfl rfl (.free rfl (NOp.of (by exact g_load_ref rfl rfl rfl))) rfl ?_
 refine DF.op 7 [4,5,6] 12 rfl rfl rfl (.free rfl (NOp.of (by exact g_len_view (k := s.net.ts.length) rfl rfl (tsL_len _)))) rfl ?_
 refine DF.op 8 [4,5,6,7] 12 rfl rfl rfl (.free rfl (by exact h_make (k := s.net.ts.length) rfl rfl rfl rfl rfl rfl rfl rfl (by show 8 * s.net.ts.length ≤ _; omega) (by omega))) rfl ?_
 refine DF.op 9 (List.range 9) 12 rfl rfl rfl (.free rfl (NOp.of (by exact g_build rfl rfl rfl))) rfl ?_
 refine DF.op 10 (List.range 10) 12 rfl rfl rfl (.free rfl (by exact h_box rfl)) rfl ?_
 refine DF.op 11 (List.range 11) 12 rfl rfl rfl (.free rfl (NOp.of (by exact as3 rfl))) rfl ?_
 refine DF.fin (ps := [(0,2),(0,3),(0,4),(0,5),(0,6),(0,7),(0,8),(1,2),(1,3),(1,4),(1,5),(1,6),(1,7),(1,8),(2,0),(2,1),(2,4),(2,5),(2,6),(2,7),(2,8),(3,0),(3,1),(3,4),(3,5),(3,6),(3,7),(3,8),(4,0),(4,1),(4,2),(4,3),(5,0),(5,1),(5,2),(5,3),(6,0),(6,1),(6,2),(6,3),(7,0),(7,1),(7,2),(7,3),(8,0),(8,1),(8,2),(8,3)]) 12 rfl (by decide +kernel) (by decide +kernel) (by rfl) ?_
 refine th_n (AC.seq (AC.seq (AC.region ?_)))
 refine AL.p (by exact mv3 rfl) rfl ?_
 refine AL.p (by exact g_nilP rfl) rfl ?_
 refine AL.p (by exact g_fa_ptr rfl rfl rfl rfl rfl) rfl ?_
 refine AL.p (by exact g_load_ptr rfl rfl rfl rfl rfl) rfl ?_
 refine AL.p (by exact g_len_own (sz := 1) (els := []) (e' := 0) rfl rfl (by simp only [maxLen]; omega)) rfl ?_
 refine AL.p (by exact mv1 rfl) rfl ?_
 refine AL.nil (th_n (AC.block ?_))
 refine AC.loop (ι := Nat) (fun k => ⟨48, 500, [(3, .ptr 100 0), (19, .own 101 s.net.ts.length), (20, aI s.net.ts.length), (21, aI k)], chL (lkChs s.net ⟨s.start, 0, mixL K.since (List.replicate s.net.ts.length 0) k⟩ 100 101)⟩) (fun k => k ≤ s.net.ts.length) (fun k => s.net.ts.length - k) (0) ?_ (Nat.zero_le _) ?_
 ·exact Weak.ren _ [(100, _), (101, _)] hC rfl (by repeat (first | exact True.intro | refine And.intro ?_ ?_ | exact DLead.same | exact rfl | refine ⟨_, rfl, ?_⟩)) (by rw [mixL_zero]; dsimp only [lkChs, lkC]; rw [List.length_replicate, ← rep_zero]; repeat (first | exact True.intro | refine And.intro ?_ ?_ | exact DLead.same | exact rfl | refine ⟨_, _, rfl, rfl, ?_⟩ | refine ⟨_, rfl, ?_⟩ | refine ⟨_, _, rfl, ?_, ?_⟩)) rfl rfl rfl
 ·intro k hk
  refine AC.seq (AC.region ?_)
  refine AL.p (by exact g_cmp rfl rfl rfl) rfl ?_
  refine AL.nil (th_n (AC.seq ?_))
  refine AC.condD rfl (fun h0 => ?_) (fun h0 => ?_)
  ·refine AC.skip (th_n (AC.seq (AC.block (AC.seq ?_))))
   have hk1 : k < s.net.ts.length := by omega
   have hm0 := hz k
   have hm1 := hz (k + 1)
   have hset := mixL_set (new := K.since) (old := List.replicate s.net.ts.length 0) (by simpa using hKl) (k := k) (by simpa using hk1)
   have hKk := hKa k hk1
   have hRk := hR k hk1
   have hrow : (ints (mixL K.since (List.replicate s.net.ts.length 0) k))[k]? = some [dI (iAt (mixL K.since (List.replicate s.net.ts.length 0) k) k)] := ints_iAt (by omega)
   have hrow2 : ((ints (mixL K.since (List.replicate s.net.ts.length 0) k)).set k [dI (-1)])[k]? = some [dI (-1)] := List.getElem?_set_self (by rw [ints_len]; omega)
   have hs2 : ((ints (mixL K.since (List.replicate s.net.ts.length 0) k)).set k [dI (-1)]).set k [dI 0] = ints ((mixL K.since (List.replicate s.net.ts.length 0) k).set k 0) := by rw [List.set_set, ints_set]
   have hs1 : (ints (mixL K.since (List.replicate s.net.ts.length 0) k)).set k [dI (-1)] = ints ((mixL K.since (List.replicate s.net.ts.length 0) k).set k (-1)) := ints_set _ _ _
   obtain ⟨en, hen⟩ : ∃ en, en = enB s.net s.start k := ⟨_, rfl⟩
   rw [← hen] at hRk hKk
   refine AC.region ?_
   refine AL.p (by exact mv1 rfl) rfl ?_
   refine AL.p (by exact as1 rfl) rfl ?_
   refine AL.nil (th_n (AC.seq (AC.region ?_)))
   refine AL.p (by exact mv3 rfl) rfl ?_
   refine AL.p (by exact g_nilP rfl) rfl ?_
   refine AL.p (by exact g_fa_ptr rfl rfl rfl rfl rfl) rfl ?_
   refine AL.p (by exact g_load_ptr rfl rfl rfl rfl rfl) rfl ?_
   refine AL.p (by exact mv1 rfl) rfl ?_
   refine AL.p (by exact g_ia_own (i := k) (l := (mixL K.since (List.replicate s.net.ts.length 0) k).length) rfl rfl rfl rfl rfl rfl (by omega) (Nat.mul_one _)) rfl ?_
   refine AL.q (by exact h_store_arr1 (d := dI (-1)) rfl rfl rfl rfl .same hrow) rfl ?_
   refine AL.nil (th_n (AC.seq ?_))
   refine AC.drawn' mixed_ok [[], [0], [0,1], [0,1,2], [], [4], [4,5], [4,5,6], [], [0,1,2,3,4,5,6,7,8]] (by decide) ?_
   refine DF.op 0 [] 10 rfl rfl rfl (.free rfl (NOp.of (by exact mv3 rfl))) rfl ?_
   refine DF.op 1 [0] 10 rfl rfl rfl (.free rfl (NOp.of (by exact g_nilP rfl))) rfl ?_
   refine DF.op 2 [0,1] 10 rfl rfl rfl (.free rfl (NOp.of (by exact g_fa_ptr rfl rfl rfl rfl rfl))) rfl ?_
   refine DF.op 3 [0,1,2] 10 rfl rfl rfl (.free rfl (NOp.of (by exact g_load_ptrN rfl rfl rfl rfl rfl))) rfl ?_
   refine DF.op 4 [] 10 rfl rfl rfl (.free rfl (NOp.of (by exact mv3 rfl))) rfl ?_
   refine DF.op 5 [4] 10 rfl rfl rfl (.free rfl (NOp.of (by exact g_nilP rfl))) rfl ?_
   refine DF.op 6 [4,5] 10 rfl rfl rfl (.free rfl (NOp.of (by exact g_fa_ptr rfl rfl rfl rfl rfl))) rfl ?_
   refine DF.op 7 [4,5,6] 10 rfl rfl rfl (.free rfl (NOp.of (by exact g_load_ptr rfl rfl rfl rfl rfl))) rfl ?_
   refine DF.op 8 [] 10 rfl rfl rfl (.free rfl (NOp.of (by exact mv1 rfl))) rfl ?_
   refine DF.op 9 (List.range 9) 10 rfl rfl rfl (.free rfl (by exact h_pure en_l1Ready rfl rfl (by repeat (first | exact rfl | exact DLead.same | refine ⟨_, _, rfl, ?_, ?_⟩ | refine ⟨_, rfl, ?_⟩)) hRk rfl)) rfl ?_
   refine DF.fin (ps := [(0,4),(0,5),(0,6),(0,7),(0,8),(1,4),(1,5),(1,6),(1,7),(1,8),(2,4),(2,5),(2,6),(2,7),(2,8),(3,4),(3,5),(3,6),(3,7),(3,8),(4,0),(4,1),(4,2),(4,3),(4,8),(5,0),(5,1),(5,2),(5,3),(5,8),(6,0),(6,1),(6,2),(6,3),(6,8),(7,0),(7,1),(7,2),(7,3),(7,8),(8,0),(8,1),(8,2),(8,3),(8,4),(8,5),(8,6),(8,7)]) 10 rfl (by decide +kernel) (by decide +kernel) (by rfl) ?_
   refine th_n ?_
   refine AC.condB rfl (fun h1 => ?_) (fun h1 => ?_)
   ·refine AC.region ?_
    refine AL.p (by exact mv3 rfl) rfl ?_
    refine AL.p (by exact g_nilP rfl) rfl ?_
    refine AL.p (by exact g_fa_ptr rfl rfl rfl rfl rfl) rfl ?_
    refine AL.p (by exact g_load_ptr rfl rfl rfl rfl rfl) rfl ?_
    refine AL.p (by exact mv1 rfl) rfl ?_
    refine AL.p (by exact g_ia_own (i := k) (l := (mixL K.since (List.replicate s.net.ts.length 0) k).length) rfl rfl rfl rfl rfl rfl (by omega) (Nat.mul_one _)) rfl ?_
    refine AL.q (by exact h_store_arr1 (d := dI 0) rfl rfl rfl rfl .same hrow2) rfl ?_
    refine AL.nil (ib_n (th_n (AC.region ?_)))
    refine AL.p (by exact g_arith rfl rfl rfl (by exact wrap_i64 (by omega))) rfl ?_
    refine AL.p (by exact mv1 rfl) rfl ?_
    refine AL.nil (th_n ?_)
    (rw [hKk, h1] at hset; exact ⟨k + 1, by omega, by omega, Weak.ren _ [(100, 100), (101, 101)] hC rfl (by repeat (first | exact True.intro | refine And.intro ?_ ?_ | exact DLead.same | exact rfl | refine ⟨_, rfl, ?_⟩)) (by rw [← hset]; dsimp only [lkChs, lkC]; rw [List.length_set, if_pos rfl, ← hs2]; repeat (first | exact True.intro | refine And.intro ?_ ?_ | exact DLead.same | exact rfl | refine ⟨_, _, rfl, rfl, ?_⟩ | refine ⟨_, rfl, ?_⟩ | refine ⟨_, _, rfl, ?_, ?_⟩)) rfl rfl rfl⟩)
   ·refine AC.skip (ib_n (th_n (AC.region ?_)))
    refine AL.p (by exact g_arith rfl rfl rfl (by exact wrap_i64 (by omega))) rfl ?_
    refine AL.p (by exact mv1 rfl) rfl ?_
    refine AL.nil (th_n ?_)
    (rw [hKk, h1] at hset; exact ⟨k + 1, by omega, by omega, Weak.ren _ [(100, 100), (101, 101)] hC rfl (by repeat (first | exact True.intro | refine And.intro ?_ ?_ | exact DLead.same | exact rfl | refine ⟨_, rfl, ?_⟩)) (by rw [← hset]; dsimp only [lkChs, lkC]; rw [List.length_set, if_neg (by simp), ← hs1]; repeat (first | exact True.intro | refine And.intro ?_ ?_ | exact DLead.same | exact rfl | refine ⟨_, _, rfl, rfl, ?_⟩ | refine ⟨_, rfl, ?_⟩ | refine ⟨_, _, rfl, ?_, ?_⟩)) rfl rfl rfl⟩)
  ·refine AC.exit (th_e (th_e (ib_y (th_n (AC.seq ?_)))))
   have hkk : k = s.net.ts.length := by omega
   subst hkk
   have e : mixL K.since (List.replicate s.net.ts.length 0) s.net.ts.length = K.since := by have := mixL_all (new := K.since) (old := List.replicate s.net.ts.length 0) (by simpa using hKl); rwa [List.length_replicate] at this
   rw [e]
   refine AC.region ?_
   refine AL.p (by exact mv3 rfl) rfl ?_
   refine AL.p (by exact as3 rfl) rfl ?_
   refine AL.nil (th_n (AC.ret (bq_r ?_)))
   exact retN [(0, 100), (1, 101)] rfl (by repeat (first | exact rfl | refine ⟨_, rfl, ?_⟩)) (by dsimp only [lkChs, lkC]; rw [hKm, hKn]; repeat (first | exact True.intro | refine And.intro ?_ ?_ | exact DLead.same | exact rfl | refine ⟨_, _, rfl, rfl, ?_⟩ | refine ⟨_, rfl, ?_⟩ | refine ⟨_, _, rfl, ?_, ?_⟩)) rfl rfl
theorem en_l23New : Enters Tryz.prog 49 := enters_of Tryz.func49 rfl rfl
theorem l1Most_spec (a b : Int) : ASpec Tryz.prog 36 [aI a, aI b] [] (Pure1 (aI (max a b))) := by
 refine ASpec.of Tryz.func36 rfl rfl fun C hC => ?_
 refine AC.seq (AC.region ?_)
 refine AL.p (by exact as1 rfl) rfl ?_
 refine AL.nil (th_n (AC.seq (AC.seq (AC.region ?_))))
 refine AL.p (by exact mv1 rfl) rfl ?_
 refine AL.p (by exact mv1 rfl) rfl ?_
 refine AL.p (by exact g_cmp rfl rfl rfl) rfl ?_
 refine AL.nil (th_n ?_)
 refine AC.condD rfl (fun h0 => ?_) (fun h0 => ?_)
 ·refine AC.seq (AC.region ?_)
  refine AL.p (by exact mv1 rfl) rfl ?_
  refine AL.p (by exact as1 rfl) rfl ?_
  refine AL.nil (th_n (AC.ret (th_r (bq_r ?_))))
  exact ret1 rfl (by rw [Int.max_eq_left (by omega)])
 ·refine AC.skip (th_n (AC.seq (AC.region ?_)))
  refine AL.p (by exact mv1 rfl) rfl ?_
  refine AL.p (by exact as1 rfl) rfl ?_
  refine AL.nil (th_n (AC.ret (bq_r ?_)))
  exact ret1 rfl (by rw [Int.max_eq_right (by omega)])
theorem en_l1Most : Enters Tryz.prog 36 := enters_of Tryz.func36 rfl rfl
def lsN (since : List Int) (l : List Dl) : Nat → Int
 | 0 => -1
 | k + 1 => if 0 ≤ iAt since k ∧ (lsN since l k < 0 ∨ iAt since k + (dAt l k).high < lsN since l k) then iAt since k + (dAt l k).high else lsN since l k
theorem lsN_in {c : Ck} {l : List Dl} (h : CkB c l) : ∀ k, k ≤ c.since.length → -1000001 ≤ lsN c.since l k ∧ lsN c.since l k ≤ 2000000
 | 0, _ => by simp [lsN]
 | k + 1, hk => by
  have ih := lsN_in h k (by omega)
  have hb := h.at (show k < c.since.length by omega)
  rw [lsN]
  split
  ·omega
  ·exact ih
set_option maxHeartbeats 4000000 in
theorem lkLast_spec (N : Net) (c : Ck) (l : List Dl) (hb : CkB c l) (hl : c.since.length ≤ 100000) : ASpec Tryz.prog 74 [.ptr 0 0, .d (vDls l)] (lkChs N c 0 1) (Fun1 (aI (lsN c.since l c.since.length)) (lkChs N c 0 1)) := by
 refine ASpec.of Tryz.func74 rfl rfl fun C hC => ?_
 refine AC.seq (AC.region ?_)
 refine AL.p (by exact as1 rfl) rfl ?_
 refine AL.nil (th_n (AC.seq (AC.region ?_)))
 refine AL.p (by exact as1 rfl) rfl ?_
 refine AL.nil (th_n (AC.seq (AC.seq (AC.region ?_))))
 refine AL.p (by exact mv3 rfl) rfl ?_
 refine AL.p (by exact g_nilP rfl) rfl ?_
 refine AL.p (by exact g_fa_ptr rfl rfl rfl rfl rfl) rfl ?_
 refine AL.p (by exact g_load_ptr rfl rfl rfl rfl rfl) rfl ?_
 refine AL.p (by exact g_len_own (sz := 1) (els := []) (e' := 0) rfl rfl (by simp only [maxLen]; omega)) rfl ?_
 refine AL.p (by exact mv1 rfl) rfl ?_
 refine AL.nil (th_n (AC.block ?_))
 refine AC.loop (ι := Nat) (fun k => ⟨44, 400, [(1, .d (vDls l)), (5, aI (lsN c.since l k)), (11, .own 1 c.since.length), (12, aI c.since.length), (13, aI k)], chL (lkChs N c 0 1)⟩) (fun k => k ≤ c.since.length) (fun k => c.since.length - k) (0) ?_ (Nat.zero_le _) ?_
 ·exact Weak.ren _ [] hC rfl (by repeat (first | exact True.intro | refine And.intro ?_ ?_ | exact DLead.same | exact rfl | refine ⟨_, rfl, ?_⟩)) (by repeat (first | exact True.intro | refine And.intro ?_ ?_ | exact DLead.same | exact rfl | refine ⟨_, _, rfl, rfl, ?_⟩ | refine ⟨_, rfl, ?_⟩ | refine ⟨_, _, rfl, ?_, ?_⟩)) rfl rfl rfl
 ·intro k hk
  refine AC.seq (AC.region ?_)
  refine AL.p (by exact g_cmp rfl rfl rfl) rfl ?_
  refine AL.nil (th_n (AC.seq ?_))
  refine AC.condD rfl (fun h0 => ?_) (fun h0 => ?_)
  ·refine AC.skip (th_n (AC.seq (AC.block (AC.seq ?_))))
   have hk1 : k < c.since.length := by omega
   have hrow := ints_iAt hk1
   have hget := dlL_get (l := l) (k := k) (by rw [hb.e]; exact hk1)
   have hbd := hb.at hk1
   have hpr := lsN_in hb k hk
   have hY : 0 ≤ iAt c.since k → (lsN c.since l k < 0 ∨ iAt c.since k + (dAt l k).high < lsN c.since l k) → lsN c.since l (k + 1) = iAt c.since k + (dAt l k).high := fun h h' => by rw [lsN, if_pos ⟨h, h'⟩]
   have hN : (0 ≤ iAt c.since k → ¬ (lsN c.since l k < 0 ∨ iAt c.since k + (dAt l k).high < lsN c.since l k)) → lsN c.since l (k + 1) = lsN c.since l k := fun h => by rw [lsN, if_neg (fun q => h q.1 q.2)]
   obtain ⟨p, hp⟩ : ∃ p, p = lsN c.since l k := ⟨_, rfl⟩
   rw [← hp] at hpr hY hN ⊢
   refine AC.region ?_
   refine AL.p (by exact mv1 rfl) rfl ?_
   refine AL.p (by exact g_ia_own (i := k) (l := c.since.length) rfl rfl rfl rfl rfl rfl hk1 (Nat.mul_one _)) rfl ?_
   refine AL.p (by exact g_load_arr1 rfl rfl rfl rfl (by assumption)) rfl ?_
   refine AL.p (by exact as1 rfl) rfl ?_
   refine AL.p (by exact as1 rfl) rfl ?_
   refine AL.nil (th_n (AC.seq (AC.region ?_)))
   refine AL.p (by exact mv1 rfl) rfl ?_
   refine AL.p (by exact g_cmp rfl rfl rfl) rfl ?_
   refine AL.p (by exact mv1 rfl) rfl ?_
   refine AL.caseG rfl rfl (fun h1 => ?_) (fun h1 => ?_)
   ·refine AL.yes rfl rfl rfl ?_
    refine AL.p (by exact mv1 rfl) rfl ?_
    refine AL.yes rfl rfl rfl ?_
    refine AL.p (by exact g_cmp rfl rfl rfl) rfl ?_
    refine AL.yes rfl rfl rfl ?_
    refine AL.p (by exact mv1 rfl) rfl ?_
    refine AL.caseG rfl rfl (fun h2 => ?_) (fun h2 => ?_)
    ·refine AL.not rfl rfl rfl rfl rfl ?_
     refine AL.not rfl rfl rfl rfl rfl ?_
     refine AL.not rfl rfl rfl rfl rfl ?_
     refine AL.not rfl rfl rfl rfl rfl ?_
     refine AL.not rfl rfl rfl rfl rfl ?_
     refine AL.not rfl rfl rfl rfl rfl ?_
     refine AL.not rfl rfl rfl rfl rfl ?_
     refine AL.not rfl rfl rfl rfl rfl ?_
     refine AL.not rfl rfl rfl rfl rfl ?_
     refine AL.yes rfl rfl rfl ?_
     refine AL.p (by exact g_pickT (r := .d _) rfl rfl) rfl ?_
     refine AL.p (by exact g_pickT (r := .d _) rfl rfl) rfl ?_
     refine AL.nil (th_n ?_)
     refine AC.condT rfl ?_
     refine AC.region ?_
     refine AL.p (by exact mv1 rfl) rfl ?_
     refine AL.p (by exact mv1 rfl) rfl ?_
     refine AL.p (by exact mv1 rfl) rfl ?_
     refine AL.p (by exact g_ia_view rfl rfl rfl rfl rfl (by rfl) (by assumption)) rfl ?_
     refine AL.p (by exact g_fa_ref rfl rfl rfl rfl rfl rfl) rfl ?_
     refine AL.p (by exact g_load_ref rfl rfl rfl) rfl ?_
     refine AL.p (by exact g_arith rfl rfl rfl (by exact wrap_i64 (by omega))) rfl ?_
     refine AL.p (by exact as1 rfl) rfl ?_
     refine AL.nil (ib_n (th_n (AC.region ?_)))
     refine AL.p (by exact g_arith rfl rfl rfl (by exact wrap_i64 (by omega))) rfl ?_
     refine AL.p (by exact mv1 rfl) rfl ?_
     refine AL.nil (th_n ?_)
     (have e := hY h1 (.inl h2); exact ⟨k + 1, by omega, by omega, Weak.ren _ [] hC rfl (by rw [e]; repeat (first | exact True.intro | refine And.intro ?_ ?_ | exact DLead.same | exact rfl | refine ⟨_, rfl, ?_⟩)) (by repeat (first | exact True.intro | refine And.intro ?_ ?_ | exact DLead.same | exact rfl | refine ⟨_, _, rfl, rfl, ?_⟩ | refine ⟨_, rfl, ?_⟩ | refine ⟨_, _, rfl, ?_, ?_⟩)) rfl rfl rfl⟩)
    ·refine AL.yes rfl rfl rfl ?_
     refine AL.p (by exact mv1 rfl) rfl ?_
     refine AL.yes rfl rfl rfl ?_
     refine AL.p (by exact mv1 rfl) rfl ?_
     refine AL.yes rfl rfl rfl ?_
     refine AL.p (by exact mv1 rfl) rfl ?_
     refine AL.yes rfl rfl rfl ?_
     refine AL.p (by exact g_ia_view rfl rfl rfl rfl rfl (by rfl) (by assumption)) rfl ?_
     refine AL.yes rfl rfl rfl ?_
     refine AL.p (by exact g_fa_ref rfl rfl rfl rfl rfl rfl) rfl ?_
     refine AL.yes rfl rfl rfl ?_
     refine AL.p (by exact g_load_ref rfl rfl rfl) rfl ?_
     refine AL.yes rfl rfl rfl ?_
     refine AL.p (by exact g_arith rfl rfl rfl (by exact wrap_i64 (by omega))) rfl ?_
     refine AL.yes rfl rfl rfl ?_
     refine AL.p (by exact mv1 rfl) rfl ?_
     refine AL.yes rfl rfl rfl ?_
     refine AL.p (by exact g_cmp rfl rfl rfl) rfl ?_
     refine AL.yes rfl rfl rfl ?_
     refine AL.p (by exact g_pickF (r := .d _) rfl rfl) rfl ?_
     refine AL.p (by exact g_pickT (r := .d _) rfl rfl) rfl ?_
     refine AL.nil (th_n ?_)
     refine AC.condD rfl (fun h3 => ?_) (fun h3 => ?_)
     ·refine AC.region ?_
      refine AL.p (by exact mv1 rfl) rfl ?_
      refine AL.p (by exact mv1 rfl) rfl ?_
      refine AL.p (by exact mv1 rfl) rfl ?_
      refine AL.p (by exact g_ia_view rfl rfl rfl rfl rfl (by rfl) (by assumption)) rfl ?_
      refine AL.p (by exact g_fa_ref rfl rfl rfl rfl rfl rfl) rfl ?_
      refine AL.p (by exact g_load_ref rfl rfl rfl) rfl ?_
      refine AL.p (by exact g_arith rfl rfl rfl (by exact wrap_i64 (by omega))) rfl ?_
      refine AL.p (by exact as1 rfl) rfl ?_
      refine AL.nil (ib_n (th_n (AC.region ?_)))
      refine AL.p (by exact g_arith rfl rfl rfl (by exact wrap_i64 (by omega))) rfl ?_
      refine AL.p (by exact mv1 rfl) rfl ?_
      refine AL.nil (th_n ?_)
      (have e := hY h1 (.inr h3); exact ⟨k + 1, by omega, by omega, Weak.ren _ [] hC rfl (by rw [e]; repeat (first | exact True.intro | refine And.intro ?_ ?_ | exact DLead.same | exact rfl | refine ⟨_, rfl, ?_⟩)) (by repeat (first | exact True.intro | refine And.intro ?_ ?_ | exact DLead.same | exact rfl | refine ⟨_, _, rfl, rfl, ?_⟩ | refine ⟨_, rfl, ?_⟩ | refine ⟨_, _, rfl, ?_, ?_⟩)) rfl rfl rfl⟩)
     ·refine AC.skip (ib_n (th_n (AC.region ?_)))
      refine AL.p (by exact g_arith rfl rfl rfl (by exact wrap_i64 (by omega))) rfl ?_
      refine AL.p (by exact mv1 rfl) rfl ?_
      refine AL.nil (th_n ?_)
      (have e := hN (fun _ q => q.elim h2 h3); exact ⟨k + 1, by omega, by omega, Weak.ren _ [] hC rfl (by rw [e]; repeat (first | exact True.intro | refine And.intro ?_ ?_ | exact DLead.same | exact rfl | refine ⟨_, rfl, ?_⟩)) (by repeat (first | exact True.intro | refine And.intro ?_ ?_ | exact DLead.same | exact rfl | refine ⟨_, _, rfl, rfl, ?_⟩ | refine ⟨_, rfl, ?_⟩ | refine ⟨_, _, rfl, ?_, ?_⟩)) rfl rfl rfl⟩)
   ·refine AL.not rfl rfl rfl rfl rfl ?_
    refine AL.not rfl rfl rfl rfl rfl ?_
    refine AL.not rfl rfl rfl rfl rfl ?_
    refine AL.notU rfl rfl rfl ?_
    refine AL.notU rfl rfl rfl ?_
    refine AL.notU rfl rfl rfl ?_
    refine AL.notU rfl rfl rfl ?_
    refine AL.notU rfl rfl rfl ?_
    refine AL.notU rfl rfl rfl ?_
    refine AL.notU rfl rfl rfl ?_
    refine AL.notU rfl rfl rfl ?_
    refine AL.notU rfl rfl rfl ?_
    refine AL.not rfl rfl rfl rfl rfl ?_
    refine AL.p (by exact g_pickF (r := .d _) rfl rfl) rfl ?_
    refine AL.nil (th_n ?_)
    refine AC.condF rfl ?_
    refine AC.skip (ib_n (th_n (AC.region ?_)))
    refine AL.p (by exact g_arith rfl rfl rfl (by exact wrap_i64 (by omega))) rfl ?_
    refine AL.p (by exact mv1 rfl) rfl ?_
    refine AL.nil (th_n ?_)
    (have e := hN (fun q _ => h1 q); exact ⟨k + 1, by omega, by omega, Weak.ren _ [] hC rfl (by rw [e]; repeat (first | exact True.intro | refine And.intro ?_ ?_ | exact DLead.same | exact rfl | refine ⟨_, rfl, ?_⟩)) (by repeat (first | exact True.intro | refine And.intro ?_ ?_ | exact DLead.same | exact rfl | refine ⟨_, _, rfl, rfl, ?_⟩ | refine ⟨_, rfl, ?_⟩ | refine ⟨_, _, rfl, ?_, ?_⟩)) rfl rfl rfl⟩)
  ·refine AC.exit (th_e (th_e (ib_y (th_n (AC.seq ?_)))))
   have hkk : k = c.since.length := by omega
   subst hkk
   refine AC.region ?_
   refine AL.p (by exact mv1 rfl) rfl ?_
   refine AL.p (by exact as1 rfl) rfl ?_
   refine AL.nil (th_n (AC.ret (bq_r ?_)))
   exact retF rfl (by repeat (exact DLead.same)) (by repeat (first | exact True.intro | refine And.intro ?_ ?_ | exact DLead.same | exact rfl | refine ⟨_, _, rfl, rfl, ?_⟩ | refine ⟨_, rfl, ?_⟩ | refine ⟨_, _, rfl, ?_, ?_⟩)) rfl
theorem en_lkLast : Enters Tryz.prog 74 := enters_of Tryz.func74 rfl rfl
theorem shareI_comm (a b : List Int) : shareI a b = shareI b a := by
 cases h : shareI b a with
 | false => exact share_comm h
 | true =>
  cases h2 : shareI a b with
  | true => rfl
  | false => rw [share_comm h2] at h; cases h
def fireQ (N : Net) (c : Ck) (t : Nat) (at_ : Int) : Ck × Bool :=
 if (fireT (N.ts.getD t ⟨[], []⟩) c.mark).2 = true then (⟨(fireT (N.ts.getD t ⟨[], []⟩) c.mark).1, at_, (List.range N.ts.length).map fun u => if enB N (fireT (N.ts.getD t ⟨[], []⟩) c.mark).1 u = true then sinceF N c.since t (fireT (N.ts.getD t ⟨[], []⟩) c.mark).1 at_ u else -1⟩, true) else (c, false)
set_option maxHeartbeats 16000000 in
theorem lkFire_spec (N : Net) (c : Ck) (t : Nat) (at_ : Int) (hB : NetB N) (hgn : goodN N = true) (hm : bitsB c.mark N.places = true) (hl : c.since.length = N.ts.length) (ht : t < N.ts.length) : ASpec Tryz.prog 53 [.ptr 0 0, aI t, aI at_] (lkChs N c 0 1) (Fun1 (aT (fireQ N c t at_).2) (lkChs N (fireQ N c t at_).1 0 1)) := by
 have hM := good_netM hgn hm
 have hml : c.mark.length ≤ 2000000 := by have h1 := bits_len hm; have h2 := good_places hgn; omega
 have hMt := hM _ (List.getElem_mem ht)
 have htt := hB.t _ (List.getElem_mem ht)
 have hF := l1Fire_spec N c.mark t ht hml htt.1 htt.2 hMt.1 hMt.2
 have hbt : (fireT N.ts[t] c.mark).2 = true → bitsB (fireT N.ts[t] c.mark).1 N.places = true := fun h => fireT_bits hm h
 have hgett := tsL_get ht
 have htl : N.ts.length ≤ 24 := by simp only [goodN, Bool.and_eq_true, decide_eq_true_eq] at hgn; have := hgn.1.2; omega
 have hgD : N.ts.getD t ⟨[], []⟩ = N.ts[t] := by rw [List.getD_eq_getElem?_getD, List.getElem?_eq_getElem ht]; rfl
 have hP : fireQ N c t at_ = if (fireT N.ts[t] c.mark).2 = true then (⟨(fireT N.ts[t] c.mark).1, at_, (List.range N.ts.length).map fun u => if enB N (fireT N.ts[t] c.mark).1 u = true then sinceF N c.since t (fireT N.ts[t] c.mark).1 at_ u else -1⟩, true) else (c, false) := by unfold fireQ; rw [hgD]
 obtain ⟨R, hR⟩ : ∃ R, R = fireT N.ts[t] c.mark := ⟨_, rfl⟩
 rw [← hR] at hF hP hbt
 obtain ⟨Z, hZ⟩ : ∃ Z, Z = fireQ N c t at_ := ⟨_, rfl⟩
 rw [← hZ] at hP ⊢
 clear hR hZ
 refine ASpec.of Tryz.func53 rfl rfl fun C hC => ?_
 refine AC.seq (AC.region ?_)
 refine AL.p (by exact as1 rfl) rfl ?_
 refine AL.nil (th_n (AC.seq ?_))
 refine AC.drawn' mixed_ok [[], [0], [0,1], [0,1,2], [], [4], [4,5], [4,5,6], [], [0,1,2,3,4,5,6,7,8], [0,1,2,3,4,5,6,7,8,9], [0,1,2,3,4,5,6,7,8,9,10], [0,1,2,3,4,5,6,7,8,9,10], [0,1,2,3,4,5,6,7,8,9,10,11], [0,1,2,3,4,5,6,7,8,9,10,11,12,13]] (by decide) ?_
 refine DF.op 0 [] 15 rfl rfl rfl (.free rfl (NOp.of (by exact mv3 rfl))) rfl ?_
 refine DF.op 1 [0] 15 rfl rfl rfl (.free rfl (NOp.of (by exact g_nilP rfl))) rfl ?_
 refine DF.op 2 [0,1] 15 rfl rfl rfl (.free rfl (NOp.of (by exact g_fa_ptr rfl rfl rfl rfl rfl))) rfl ?_
 refine DF.op 3 [0,1,2] 15 rfl rfl rfl (.free rfl (NOp.of (by exact g_load_ptrN rfl rfl rfl rfl rfl))) rfl ?_
 refine DF.op 4 [] 15 rfl rfl rfl (.free rfl (NOp.of (by exact mv3 rfl))) rfl ?_
 refine DF.op 5 [4] 15 rfl rfl rfl (.free rfl (NOp.of (by exact g_nilP rfl))) rfl ?_
 refine DF.op 6 [4,5] 15 rfl rfl rfl (.free rfl (NOp.of (by exact g_fa_ptr rfl rfl rfl rfl rfl))) rfl ?_
 refine DF.op 7 [4,5,6] 15 rfl rfl rfl (.free rfl (NOp.of (by exact g_load_ptr rfl rfl rfl rfl rfl))) rfl ?_
 refine DF.op 8 [] 15 rfl rfl rfl (.free rfl (NOp.of (by exact mv1 rfl))) rfl ?_
 refine DF.op 9 (List.range 9) 15 rfl rfl rfl (.free rfl (by exact h_pure en_l1Fire rfl rfl (by repeat (first | exact rfl | exact DLead.same | refine ⟨_, _, rfl, ?_, ?_⟩ | refine ⟨_, rfl, ?_⟩)) hF rfl)) rfl ?_
 refine DF.op 10 (List.range 10) 15 rfl rfl rfl (.free rfl (NOp.of (by exact mv5 rfl))) rfl ?_
 refine DF.op 11 (List.range 11) 15 rfl rfl rfl (.free rfl (NOp.of (by exact g_extract (r := .d _) rfl rfl))) rfl ?_
 refine DF.op 12 (List.range 11) 15 rfl rfl rfl (.free rfl (NOp.of (by exact g_extract (r := .d _) rfl rfl))) rfl ?_
 refine DF.op 13 (List.range 12) 15 rfl rfl rfl (.free rfl (NOp.of (by exact as1 rfl))) rfl ?_
 refine DF.op 14 (List.range 14) 15 rfl rfl rfl (.free rfl (NOp.of (by exact as1 rfl))) rfl ?_
 refine DF.fin (ps := [(0,4),(0,5),(0,6),(0,7),(0,8),(1,4),(1,5),(1,6),(1,7),(1,8),(2,4),(2,5),(2,6),(2,7),(2,8),(3,4),(3,5),(3,6),(3,7),(3,8),(4,0),(4,1),(4,2),(4,3),(4,8),(5,0),(5,1),(5,2),(5,3),(5,8),(6,0),(6,1),(6,2),(6,3),(6,8),(7,0),(7,1),(7,2),(7,3),(7,8),(8,0),(8,1),(8,2),(8,3),(8,4),(8,5),(8,6),(8,7),(11,12),(12,11),(12,13),(13,12)]) 15 rfl (by decide +kernel) (by decide +kernel) (by rfl) ?_
 refine th_n (AC.seq (AC.seq (AC.region ?_)))
 refine AL.p (by exact mv1 rfl) rfl ?_
 refine AL.p (by exact g_not rfl) rfl ?_
 refine AL.nil (th_n ?_)
 refine AC.condB rfl (fun h0 => ?_) (fun h0 => ?_)
 ·refine AC.seq (AC.region ?_)
  refine AL.p (by exact as1 rfl) rfl ?_
  refine AL.nil (th_n (AC.ret (th_r (bq_r ?_))))
  have q0 : R.2 = false := by simpa using h0
  have e : Z = (c, false) := hP.trans (if_neg (by rw [q0]; simp))
  exact retF rfl (by rw [e]; repeat (exact DLead.same)) (by rw [e]; repeat (first | exact True.intro | refine And.intro ?_ ?_ | exact DLead.same | exact rfl | refine ⟨_, _, rfl, rfl, ?_⟩ | refine ⟨_, rfl, ?_⟩ | refine ⟨_, _, rfl, ?_, ?_⟩)) rfl
 ·refine AC.skip (th_n (AC.seq ?_))
  have q0 : R.2 = true := by simpa using h0
  have hbR := hbt q0
  have hMR := good_netM hgn hbR
  have hP2 := hP.trans (if_pos q0)
  obtain ⟨new, hnew⟩ : ∃ new, new = (List.range N.ts.length).map fun u => if enB N R.1 u = true then sinceF N c.since t R.1 at_ u else -1 := ⟨_, rfl⟩
  have hnl : new.length = c.since.length := by rw [hnew, hl]; simp
  have hna : ∀ k, k < N.ts.length → iAt new k = if enB N R.1 k = true then sinceF N c.since t R.1 at_ k else -1 := fun k hk => by rw [hnew]; exact rangeMap_at hk
  rw [← hnew] at hP2
  have hRd : ∀ k (hk : k < N.ts.length), ASpec Tryz.prog 73 [netA N, aS (bstr R.1), aI k] [] (Pure1 (aT (enB N R.1 k))) := fun k hk => by have h1 := hMR _ (List.getElem_mem hk); have := l1Ready_spec N R.1 k hk (hB.t _ (List.getElem_mem hk)).1 h1.1; rwa [ready_enabled hbR h1.1, ← enB_nat hk] at this
  clear hnew hP
  refine AC.region ?_
  refine AL.p (by exact mv3 rfl) rfl ?_
  refine AL.p (by exact mv1 rfl) rfl ?_
  refine AL.p (by exact g_nilP rfl) rfl ?_
  refine AL.p (by exact g_fa_ptr rfl rfl rfl rfl rfl) rfl ?_
  refine AL.q (by exact h_store rfl rfl rfl rfl rfl rfl) rfl ?_
  refine AL.nil (th_n (AC.seq (AC.region ?_)))
  refine AL.p (by exact mv3 rfl) rfl ?_
  refine AL.p (by exact mv1 rfl) rfl ?_
  refine AL.p (by exact g_nilP rfl) rfl ?_
  refine AL.p (by exact g_fa_ptr rfl rfl rfl rfl rfl) rfl ?_
  refine AL.q (by exact h_store rfl rfl rfl rfl rfl rfl) rfl ?_
  refine AL.nil (th_n (AC.seq (AC.seq (AC.region ?_))))
  refine AL.p (by exact mv3 rfl) rfl ?_
  refine AL.p (by exact g_nilP rfl) rfl ?_
  refine AL.p (by exact g_fa_ptr rfl rfl rfl rfl rfl) rfl ?_
  refine AL.p (by exact g_load_ptr rfl rfl rfl rfl rfl) rfl ?_
  refine AL.p (by exact g_len_own (sz := 1) (els := []) (e' := 0) rfl rfl (by simp only [maxLen]; omega)) rfl ?_
  refine AL.p (by exact mv1 rfl) rfl ?_
  refine AL.nil (th_n (AC.block ?_))
  refine AC.loop (ι := Nat) (fun k => ⟨99, 900, [(0, .ptr 0 0), (1, aI t), (2, aI at_), (7, aS (bstr R.1)), (37, aI N.ts.length), (38, aI k)], chL (lkChs N ⟨R.1, at_, mixL new c.since k⟩ 0 1)⟩) (fun k => k ≤ N.ts.length) (fun k => N.ts.length - k) (0) ?_ (Nat.zero_le _) ?_
  ·exact Weak.ren _ [] hC rfl (by rw [← hl]; repeat (first | exact True.intro | refine And.intro ?_ ?_ | exact DLead.same | exact rfl | refine ⟨_, rfl, ?_⟩)) (by rw [mixL_zero]; repeat (first | exact True.intro | refine And.intro ?_ ?_ | exact DLead.same | exact rfl | refine ⟨_, _, rfl, rfl, ?_⟩ | refine ⟨_, rfl, ?_⟩ | refine ⟨_, _, rfl, ?_, ?_⟩)) rfl rfl rfl
  ·intro k hk
   refine AC.seq (AC.region ?_)
   refine AL.p (by exact g_cmp rfl rfl rfl) rfl ?_
   refine AL.nil (th_n (AC.seq ?_))
   refine AC.condD rfl (fun h1 => ?_) (fun h1 => ?_)
   ·refine AC.skip (th_n (AC.seq (AC.block (AC.seq ?_))))
    have hk1 : k < N.ts.length := by omega
    have hm0 := mixL_len hnl k
    have hm1 := mixL_len hnl (k + 1)
    have hset := mixL_set hnl (k := k) (by omega)
    have hat := mixL_at hnl (k := k) (by omega)
    have hnk := hna k hk1
    have hRk := hRd k hk1
    have hrow : (ints (mixL new c.since k))[k]? = some [dI (iAt c.since k)] := by rw [ints_iAt (by omega), hat]
    have hgetk := tsL_get hk1
    have hpk := (hB.t _ (List.getElem_mem hk1)).1
    have hve : sinceF N c.since t R.1 at_ k = if iAt c.since k < 0 then at_ else if k = t then at_ else if shareI N.ts[t].pre N.ts[k].pre = true then at_ else iAt c.since k := by unfold sinceF; rw [hgD, List.getD_eq_getElem?_getD, List.getElem?_eq_getElem hk1, shareI_comm]; rfl
    have hS := l1Meet_spec N.ts[t].pre N.ts[k].pre htt.1 (by omega)
    obtain ⟨sh, hsh⟩ : ∃ sh, sh = shareI N.ts[t].pre N.ts[k].pre := ⟨_, rfl⟩
    rw [← hsh] at hS hve
    rw [hve] at hnk
    obtain ⟨en, hen⟩ : ∃ en, en = enB N R.1 k := ⟨_, rfl⟩
    rw [← hen] at hRk hnk
    have hst1 : ∀ x : Int, (ints (mixL new c.since k)).set k [dI x] = ints ((mixL new c.since k).set k x) := fun x => ints_set _ _ _
    have hst0 : (mixL new c.since k).set k (iAt c.since k) = mixL new c.since k := by rw [← hat, iAt_nat (by omega)]; exact List.set_getElem_self _
    refine AC.region ?_
    refine AL.p (by exact mv1 rfl) rfl ?_
    refine AL.p (by exact as1 rfl) rfl ?_
    refine AL.nil (th_n (AC.block (AC.seq (AC.region ?_))))
    refine AL.p (by exact mv3 rfl) rfl ?_
    refine AL.p (by exact g_nilP rfl) rfl ?_
    refine AL.p (by exact g_fa_ptr rfl rfl rfl rfl rfl) rfl ?_
    refine AL.p (by exact g_load_ptrN rfl rfl rfl rfl rfl) rfl ?_
    refine AL.p (by exact mv1 rfl) rfl ?_
    refine AL.p (by exact mv1 rfl) rfl ?_
    refine AL.q (by exact h_pure en_l1Ready rfl rfl (by repeat (first | exact rfl | exact DLead.same | refine ⟨_, _, rfl, ?_, ?_⟩ | refine ⟨_, rfl, ?_⟩)) hRk rfl) rfl ?_
    refine AL.p (by exact g_not rfl) rfl ?_
    refine AL.p (by exact as1 rfl) rfl ?_
    refine AL.nil (th_n ?_)
    refine AC.condB rfl (fun h2 => ?_) (fun h2 => ?_)
    ·refine AC.region ?_
     refine AL.p (by exact mv3 rfl) rfl ?_
     refine AL.p (by exact g_nilP rfl) rfl ?_
     refine AL.p (by exact g_fa_ptr rfl rfl rfl rfl rfl) rfl ?_
     refine AL.p (by exact g_load_ptr rfl rfl rfl rfl rfl) rfl ?_
     refine AL.p (by exact mv1 rfl) rfl ?_
     refine AL.p (by exact g_ia_own (i := k) (l := (mixL new c.since k).length) rfl rfl rfl rfl rfl rfl (by omega) (Nat.mul_one _)) rfl ?_
     refine AL.q (by exact h_store_arr1 (d := dI (-1)) rfl rfl rfl rfl .same hrow) rfl ?_
     refine AL.nil (ib_n (ib_n (th_n (AC.region ?_))))
     refine AL.p (by exact g_arith rfl rfl rfl (by exact wrap_i64 (by omega))) rfl ?_
     refine AL.p (by exact mv1 rfl) rfl ?_
     refine AL.nil (th_n ?_)
     (have ev : iAt new k = -1 := (by rw [hnk, if_neg (by have : en = false := (by simpa using h2); rw [this]; simp)]); exact ⟨k + 1, by omega, by omega, Weak.ren _ [] hC rfl (by repeat (first | exact True.intro | refine And.intro ?_ ?_ | exact DLead.same | exact rfl | refine ⟨_, rfl, ?_⟩)) (by rw [← hset, ev]; dsimp only [lkChs, lkC]; rw [List.length_set, ← hst1]; repeat (first | exact True.intro | refine And.intro ?_ ?_ | exact DLead.same | exact rfl | refine ⟨_, _, rfl, rfl, ?_⟩ | refine ⟨_, rfl, ?_⟩ | refine ⟨_, _, rfl, ?_, ?_⟩)) rfl rfl rfl⟩)
    ·refine AC.seq ?_
     refine AC.drawn' mixed_ok [[], [], [0,1], [0,1,2], [0,1,2,3], [0,1,2,3,4], [0,1,2,3,4,5], [0,1,2,3,4,5,6], [0,1,2,3], [0,1,2,3,4,5,6,7,8], [0,1,2,3,4,5,6,7,8,9], [0,1,2,3,4,5,6,7,8,9,10], [0,1,2,3,4,5,6,7,8,9,10,11], [0,1,2,3,4,5,6,7,8,9,10,11,12], [0,1,2,3,4,5,6,7,8,9,10,11,12,13], [0,1,2,3,4,5,6,7,8,9,10,11,12,13,14], [0,1,2,3,4,5,6,7,8,9,10,11,12,13,14,15], [0,1,2,3,4,5,6,7,8,9,10,11,12,13,14,15,16], [0,1,2,3,4,5,6,7,8,9,10,11,12,13,14,15,16,17], [0,1,2,3,4,5,6,7,8,9,10,11,12,13], [0,1,2,3,4,5,6,7,8,9,10,11,12,13,14,15,16,17,18,19], [0,1,2,3,4,5,6,7,8,9,10,11,12,13,14,15,16,17,18,19,20], [0,1,2,3,4,5,6,7,8,9,10,11,12,13,14,15,16,17,18,19,20,21], [0,1,2,3,4,5,6,7,8,9,10,11,12,13], [0,1,2,3,4,5,6,7,8,9,10,11,12,13,23], [0,1,2,3,4,5,6,7,8,9,10,11,12,13,23,24], [0,1,2,3,4,5,6,7,8,9,10,11,12,13,23,24,25], [0,1,2,3,4,5,6,7,8,9,10,11,12,13,23,24,25,26], [0,1,2,3,4,5,6,7,8,9,10,11,12,13], [0,1,2,3,4,5,6,7,8,9,10,11,12,13,23,24,25,26,27,28], [0,1,2,3,4,5,6,7,8,9,10,11,12,13,23,24,25,26,27,28,29], [0,1,2,3,4,5,6,7,8,9,10,11,12,13,23,24,25,26,27,28,29,30], [0,1,2,3,4,5,6,7,8,9,10,11,12,13,14,15,16,17,18,19,20,21,22,23,24,25,26,27,28,29,30,31], [0,1,2,3,4,5,6,7,8,9,10,11,12,13,14,15,16,17,18,19,20,21,22,23,24,25,26,27,28,29,30,31,32], [0,1,2,3,4,5,6,7,8,9,10,11,12,13,14,15,16,17,18,19,20,21,22,23,24,25,26,27,28,29,30,31,32,33]] (by decide) ?_
     refine DF.op 0 [] 35 rfl rfl rfl (.free rfl (NOp.of (by exact mv1 rfl))) rfl ?_
     refine DF.op 1 [] 35 rfl rfl rfl (.free rfl (NOp.of (by exact mv1 rfl))) rfl ?_
     refine DF.op 2 [0,1] 35 rfl rfl rfl (.free rfl (NOp.of (by exact g_cmp rfl rfl rfl))) rfl ?_
     refine DF.op 3 [0,1,2] 35 rfl rfl rfl (.free rfl (NOp.of (by exact mv1 rfl))) rfl ?_
     refine DF.caseD 3 rfl (fun h3 => ?_) (fun h3 => ?_)
     ·refine DF.op (ids := []) 4 [0,1,2,3] 35 rfl rfl rfl (.no rfl rfl rfl rfl rfl rfl) rfl ?_
      refine DF.op (ids := []) 5 [0,1,2,3,4] 35 rfl rfl rfl (.no rfl rfl rfl rfl rfl rfl) rfl ?_
      refine DF.op (ids := []) 6 [0,1,2,3,4,5] 35 rfl rfl rfl (.no rfl rfl rfl rfl rfl rfl) rfl ?_
      refine DF.op (ids := []) 7 [0,1,2,3,4,5,6] 35 rfl rfl rfl (.no rfl rfl rfl rfl rfl rfl) rfl ?_
      refine DF.op (ids := []) 8 [0,1,2,3] 35 rfl rfl rfl (.no rfl rfl rfl rfl rfl rfl) rfl ?_
      refine DF.op (ids := []) 9 (List.range 9) 35 rfl rfl rfl (.no rfl rfl rfl rfl rfl rfl) rfl ?_
      refine DF.op (ids := []) 10 (List.range 10) 35 rfl rfl rfl (.no rfl rfl rfl rfl rfl rfl) rfl ?_
      refine DF.op (ids := []) 11 (List.range 11) 35 rfl rfl rfl (.no rfl rfl rfl rfl rfl rfl) rfl ?_
      refine DF.op 12 (List.range 12) 35 rfl rfl rfl (.free rfl (NOp.of (by exact g_pickT (r := .d _) rfl rfl))) rfl ?_
      refine DF.op 13 (List.range 13) 35 rfl rfl rfl (.free rfl (NOp.of (by exact mv1 rfl))) rfl ?_
      refine DF.op (ids := []) 14 (List.range 14) 35 rfl rfl rfl (.no rfl rfl rfl rfl rfl rfl) rfl ?_
      refine DF.op (ids := []) 15 (List.range 15) 35 rfl rfl rfl (.no rfl rfl rfl rfl rfl rfl) rfl ?_
      refine DF.op (ids := []) 16 (List.range 16) 35 rfl rfl rfl (.no rfl rfl rfl rfl rfl rfl) rfl ?_
      refine DF.op (ids := []) 17 (List.range 17) 35 rfl rfl rfl (.no rfl rfl rfl rfl rfl rfl) rfl ?_
      refine DF.op (ids := []) 18 (List.range 18) 35 rfl rfl rfl (.no rfl rfl rfl rfl rfl rfl) rfl ?_
      refine DF.op (ids := []) 19 (List.range 14) 35 rfl rfl rfl (.no rfl rfl rfl rfl rfl rfl) rfl ?_
      refine DF.op (ids := []) 20 (List.range 20) 35 rfl rfl rfl (.no rfl rfl rfl rfl rfl rfl) rfl ?_
      refine DF.op (ids := []) 21 (List.range 21) 35 rfl rfl rfl (.no rfl rfl rfl rfl rfl rfl) rfl ?_
      refine DF.op (ids := []) 22 (List.range 22) 35 rfl rfl rfl (.no rfl rfl rfl rfl rfl rfl) rfl ?_
      refine DF.op (ids := []) 23 (List.range 14) 35 rfl rfl rfl (.no rfl rfl rfl rfl rfl rfl) rfl ?_
      refine DF.op (ids := []) 24 [0,1,2,3,4,5,6,7,8,9,10,11,12,13,23] 35 rfl rfl rfl (.no rfl rfl rfl rfl rfl rfl) rfl ?_
      refine DF.op (ids := []) 25 [0,1,2,3,4,5,6,7,8,9,10,11,12,13,23,24] 35 rfl rfl rfl (.no rfl rfl rfl rfl rfl rfl) rfl ?_
      refine DF.op (ids := []) 26 [0,1,2,3,4,5,6,7,8,9,10,11,12,13,23,24,25] 35 rfl rfl rfl (.no rfl rfl rfl rfl rfl rfl) rfl ?_
      refine DF.op (ids := []) 27 [0,1,2,3,4,5,6,7,8,9,10,11,12,13,23,24,25,26] 35 rfl rfl rfl (.no rfl rfl rfl rfl rfl rfl) rfl ?_
      refine DF.op (ids := []) 28 (List.range 14) 35 rfl rfl rfl (.no rfl rfl rfl rfl rfl rfl) rfl ?_
      refine DF.op (ids := []) 29 [0,1,2,3,4,5,6,7,8,9,10,11,12,13,23,24,25,26,27,28] 35 rfl rfl rfl (.no rfl rfl rfl rfl rfl rfl) rfl ?_
      refine DF.op (ids := []) 30 [0,1,2,3,4,5,6,7,8,9,10,11,12,13,23,24,25,26,27,28,29] 35 rfl rfl rfl (.no rfl rfl rfl rfl rfl rfl) rfl ?_
      refine DF.op (ids := []) 31 [0,1,2,3,4,5,6,7,8,9,10,11,12,13,23,24,25,26,27,28,29,30] 35 rfl rfl rfl (.no rfl rfl rfl rfl rfl rfl) rfl ?_
      refine DF.op (ids := []) 32 (List.range 32) 35 rfl rfl rfl (.no rfl rfl rfl rfl rfl rfl) rfl ?_
      refine DF.op 33 (List.range 33) 35 rfl rfl rfl (.free rfl (NOp.of (by exact g_pickT (r := .d _) rfl rfl))) rfl ?_
      refine DF.op 34 (List.range 34) 35 rfl rfl rfl (.free rfl (NOp.of (by exact as1 rfl))) rfl ?_
      refine DF.fin (ps := [(0,1),(1,0),(4,8),(5,8),(6,8),(7,8),(8,4),(8,5),(8,6),(8,7),(14,19),(14,23),(14,24),(14,25),(14,26),(14,27),(14,28),(14,29),(14,30),(14,31),(15,19),(15,23),(15,24),(15,25),(15,26),(15,27),(15,28),(15,29),(15,30),(15,31),(16,19),(16,23),(16,24),(16,25),(16,26),(16,27),(16,28),(16,29),(16,30),(16,31),(17,19),(17,23),(17,24),(17,25),(17,26),(17,27),(17,28),(17,29),(17,30),(17,31),(18,19),(18,23),(18,24),(18,25),(18,26),(18,27),(18,28),(18,29),(18,30),(18,31),(19,14),(19,15),(19,16),(19,17),(19,18),(19,23),(19,24),(19,25),(19,26),(19,27),(19,28),(19,29),(19,30),(19,31),(20,23),(20,24),(20,25),(20,26),(20,27),(20,28),(20,29),(20,30),(20,31),(21,23),(21,24),(21,25),(21,26),(21,27),(21,28),(21,29),(21,30),(21,31),(22,23),(22,24),(22,25),(22,26),(22,27),(22,28),(22,29),(22,30),(22,31),(23,14),(23,15),(23,16),(23,17),(23,18),(23,19),(23,20),(23,21),(23,22),(23,28),(24,14),(24,15),(24,16),(24,17),(24,18),(24,19),(24,20),(24,21),(24,22),(24,28),(25,14),(25,15),(25,16),(25,17),(25,18),(25,19),(25,20),(25,21),(25,22),(25,28),(26,14),(26,15),(26,16),(26,17),(26,18),(26,19),(26,20),(26,21),(26,22),(26,28),(27,14),(27,15),(27,16),(27,17),(27,18),(27,19),(27,20),(27,21),(27,22),(27,28),(28,14),(28,15),(28,16),(28,17),(28,18),(28,19),(28,20),(28,21),(28,22),(28,23),(28,24),(28,25),(28,26),(28,27),(29,14),(29,15),(29,16),(29,17),(29,18),(29,19),(29,20),(29,21),(29,22),(30,14),(30,15),(30,16),(30,17),(30,18),(30,19),(30,20),(30,21),(30,22),(31,14),(31,15),(31,16),(31,17),(31,18),(31,19),(31,20),(31,21),(31,22)]) 35 rfl (by decide +kernel) (by decide +kernel) (by rfl) ?_
      refine th_n ?_
      refine AC.condT rfl ?_
      refine AC.region ?_
      refine AL.p (by exact mv3 rfl) rfl ?_
      refine AL.p (by exact g_nilP rfl) rfl ?_
      refine AL.p (by exact g_fa_ptr rfl rfl rfl rfl rfl) rfl ?_
      refine AL.p (by exact g_load_ptr rfl rfl rfl rfl rfl) rfl ?_
      refine AL.p (by exact mv1 rfl) rfl ?_
      refine AL.p (by exact mv1 rfl) rfl ?_
      refine AL.p (by exact g_ia_own (i := k) (l := (mixL new c.since k).length) rfl rfl rfl rfl rfl rfl (by omega) (Nat.mul_one _)) rfl ?_
      refine AL.q (by exact h_store_arr1 (d := dI at_) rfl rfl rfl rfl .same hrow) rfl ?_
      refine AL.nil (ib_n (ib_n (th_n (AC.region ?_))))
      refine AL.p (by exact g_arith rfl rfl rfl (by exact wrap_i64 (by omega))) rfl ?_
      refine AL.p (by exact mv1 rfl) rfl ?_
      refine AL.nil (th_n ?_)
      (have ev : iAt new k = at_ := (by rw [hnk, if_pos (by simpa using h2)]; by_cases q1 : iAt c.since k < 0; (rw [if_pos q1]); (rw [if_neg q1]; by_cases q2 : k = t; (rw [if_pos q2]); (rw [if_neg q2]; (exact absurd (by omega) q2)))); exact ⟨k + 1, by omega, by omega, Weak.ren _ [] hC rfl (by repeat (first | exact True.intro | refine And.intro ?_ ?_ | exact DLead.same | exact rfl | refine ⟨_, rfl, ?_⟩)) (by rw [← hset, ev]; dsimp only [lkChs, lkC]; rw [List.length_set, ← hst1]; repeat (first | exact True.intro | refine And.intro ?_ ?_ | exact DLead.same | exact rfl | refine ⟨_, _, rfl, rfl, ?_⟩ | refine ⟨_, rfl, ?_⟩ | refine ⟨_, _, rfl, ?_, ?_⟩)) rfl rfl rfl⟩)
     ·refine DF.op 4 [0,1,2,3] 35 rfl rfl rfl (.yes rfl rfl rfl rfl (NOp.of (by exact mv3 rfl))) rfl ?_
      refine DF.op 5 [0,1,2,3,4] 35 rfl rfl rfl (.yes rfl rfl rfl rfl (NOp.of (by exact g_nilP rfl))) rfl ?_
      refine DF.op 6 [0,1,2,3,4,5] 35 rfl rfl rfl (.yes rfl rfl rfl rfl (NOp.of (by exact g_fa_ptr rfl rfl rfl rfl rfl))) rfl ?_
      refine DF.op 7 [0,1,2,3,4,5,6] 35 rfl rfl rfl (.yes rfl rfl rfl rfl (NOp.of (by exact g_load_ptr rfl rfl rfl rfl rfl))) rfl ?_
      refine DF.op 8 [0,1,2,3] 35 rfl rfl rfl (.yes rfl rfl rfl rfl (NOp.of (by exact mv1 rfl))) rfl ?_
      refine DF.op 9 (List.range 9) 35 rfl rfl rfl (.yes rfl rfl rfl rfl (NOp.of (by exact g_ia_own (i := k) (l := (mixL new c.since k).length) rfl rfl rfl rfl rfl rfl (by omega) (Nat.mul_one _)))) rfl ?_
      refine DF.op 10 (List.range 10) 35 rfl rfl rfl (.yes rfl rfl rfl rfl (NOp.of (by exact g_load_arr1 rfl rfl rfl rfl hrow))) rfl ?_
      refine DF.op 11 (List.range 11) 35 rfl rfl rfl (.yes rfl rfl rfl rfl (NOp.of (by exact g_cmp rfl rfl rfl))) rfl ?_
      refine DF.op 12 (List.range 12) 35 rfl rfl rfl (.free rfl (NOp.of (by exact g_pickF (r := .d _) rfl rfl))) rfl ?_
      refine DF.op 13 (List.range 13) 35 rfl rfl rfl (.free rfl (NOp.of (by exact mv1 rfl))) rfl ?_
      refine DF.caseD 13 rfl (fun h4 => ?_) (fun h4 => ?_)
      ·refine DF.op (ids := []) 14 (List.range 14) 35 rfl rfl rfl (.no rfl rfl rfl rfl rfl rfl) rfl ?_
       refine DF.op (ids := []) 15 (List.range 15) 35 rfl rfl rfl (.no rfl rfl rfl rfl rfl rfl) rfl ?_
       refine DF.op (ids := []) 16 (List.range 16) 35 rfl rfl rfl (.no rfl rfl rfl rfl rfl rfl) rfl ?_
       refine DF.op (ids := []) 17 (List.range 17) 35 rfl rfl rfl (.no rfl rfl rfl rfl rfl rfl) rfl ?_
       refine DF.op (ids := []) 18 (List.range 18) 35 rfl rfl rfl (.no rfl rfl rfl rfl rfl rfl) rfl ?_
       refine DF.op (ids := []) 19 (List.range 14) 35 rfl rfl rfl (.no rfl rfl rfl rfl rfl rfl) rfl ?_
       refine DF.op (ids := []) 20 (List.range 20) 35 rfl rfl rfl (.no rfl rfl rfl rfl rfl rfl) rfl ?_
       refine DF.op (ids := []) 21 (List.range 21) 35 rfl rfl rfl (.no rfl rfl rfl rfl rfl rfl) rfl ?_
       refine DF.op (ids := []) 22 (List.range 22) 35 rfl rfl rfl (.no rfl rfl rfl rfl rfl rfl) rfl ?_
       refine DF.op (ids := []) 23 (List.range 14) 35 rfl rfl rfl (.no rfl rfl rfl rfl rfl rfl) rfl ?_
       refine DF.op (ids := []) 24 [0,1,2,3,4,5,6,7,8,9,10,11,12,13,23] 35 rfl rfl rfl (.no rfl rfl rfl rfl rfl rfl) rfl ?_
       refine DF.op (ids := []) 25 [0,1,2,3,4,5,6,7,8,9,10,11,12,13,23,24] 35 rfl rfl rfl (.no rfl rfl rfl rfl rfl rfl) rfl ?_
       refine DF.op (ids := []) 26 [0,1,2,3,4,5,6,7,8,9,10,11,12,13,23,24,25] 35 rfl rfl rfl (.no rfl rfl rfl rfl rfl rfl) rfl ?_
       refine DF.op (ids := []) 27 [0,1,2,3,4,5,6,7,8,9,10,11,12,13,23,24,25,26] 35 rfl rfl rfl (.no rfl rfl rfl rfl rfl rfl) rfl ?_
       refine DF.op (ids := []) 28 (List.range 14) 35 rfl rfl rfl (.no rfl rfl rfl rfl rfl rfl) rfl ?_
       refine DF.op (ids := []) 29 [0,1,2,3,4,5,6,7,8,9,10,11,12,13,23,24,25,26,27,28] 35 rfl rfl rfl (.no rfl rfl rfl rfl rfl rfl) rfl ?_
       refine DF.op (ids := []) 30 [0,1,2,3,4,5,6,7,8,9,10,11,12,13,23,24,25,26,27,28,29] 35 rfl rfl rfl (.no rfl rfl rfl rfl rfl rfl) rfl ?_
       refine DF.op (ids := []) 31 [0,1,2,3,4,5,6,7,8,9,10,11,12,13,23,24,25,26,27,28,29,30] 35 rfl rfl rfl (.no rfl rfl rfl rfl rfl rfl) rfl ?_
       refine DF.op (ids := []) 32 (List.range 32) 35 rfl rfl rfl (.no rfl rfl rfl rfl rfl rfl) rfl ?_
       refine DF.op 33 (List.range 33) 35 rfl rfl rfl (.free rfl (NOp.of (by exact g_pickT (r := .d _) rfl rfl))) rfl ?_
       refine DF.op 34 (List.range 34) 35 rfl rfl rfl (.free rfl (NOp.of (by exact as1 rfl))) rfl ?_
       refine DF.fin (ps := [(0,1),(1,0),(4,8),(5,8),(6,8),(7,8),(8,4),(8,5),(8,6),(8,7),(14,19),(14,23),(14,24),(14,25),(14,26),(14,27),(14,28),(14,29),(14,30),(14,31),(15,19),(15,23),(15,24),(15,25),(15,26),(15,27),(15,28),(15,29),(15,30),(15,31),(16,19),(16,23),(16,24),(16,25),(16,26),(16,27),(16,28),(16,29),(16,30),(16,31),(17,19),(17,23),(17,24),(17,25),(17,26),(17,27),(17,28),(17,29),(17,30),(17,31),(18,19),(18,23),(18,24),(18,25),(18,26),(18,27),(18,28),(18,29),(18,30),(18,31),(19,14),(19,15),(19,16),(19,17),(19,18),(19,23),(19,24),(19,25),(19,26),(19,27),(19,28),(19,29),(19,30),(19,31),(20,23),(20,24),(20,25),(20,26),(20,27),(20,28),(20,29),(20,30),(20,31),(21,23),(21,24),(21,25),(21,26),(21,27),(21,28),(21,29),(21,30),(21,31),(22,23),(22,24),(22,25),(22,26),(22,27),(22,28),(22,29),(22,30),(22,31),(23,14),(23,15),(23,16),(23,17),(23,18),(23,19),(23,20),(23,21),(23,22),(23,28),(24,14),(24,15),(24,16),(24,17),(24,18),(24,19),(24,20),(24,21),(24,22),(24,28),(25,14),(25,15),(25,16),(25,17),(25,18),(25,19),(25,20),(25,21),(25,22),(25,28),(26,14),(26,15),(26,16),(26,17),(26,18),(26,19),(26,20),(26,21),(26,22),(26,28),(27,14),(27,15),(27,16),(27,17),(27,18),(27,19),(27,20),(27,21),(27,22),(27,28),(28,14),(28,15),(28,16),(28,17),(28,18),(28,19),(28,20),(28,21),(28,22),(28,23),(28,24),(28,25),(28,26),(28,27),(29,14),(29,15),(29,16),(29,17),(29,18),(29,19),(29,20),(29,21),(29,22),(30,14),(30,15),(30,16),(30,17),(30,18),(30,19),(30,20),(30,21),(30,22),(31,14),(31,15),(31,16),(31,17),(31,18),(31,19),(31,20),(31,21),(31,22)]) 35 rfl (by decide +kernel) (by decide +kernel) (by rfl) ?_
       refine th_n ?_
       refine AC.condT rfl ?_
       refine AC.region ?_
       refine AL.p (by exact mv3 rfl) rfl ?_
       refine AL.p (by exact g_nilP rfl) rfl ?_
       refine AL.p (by exact g_fa_ptr rfl rfl rfl rfl rfl) rfl ?_
       refine AL.p (by exact g_load_ptr rfl rfl rfl rfl rfl) rfl ?_
       refine AL.p (by exact mv1 rfl) rfl ?_
       refine AL.p (by exact mv1 rfl) rfl ?_
       refine AL.p (by exact g_ia_own (i := k) (l := (mixL new c.since k).length) rfl rfl rfl rfl rfl rfl (by omega) (Nat.mul_one _)) rfl ?_
       refine AL.q (by exact h_store_arr1 (d := dI at_) rfl rfl rfl rfl .same hrow) rfl ?_
       refine AL.nil (ib_n (ib_n (th_n (AC.region ?_))))
       refine AL.p (by exact g_arith rfl rfl rfl (by exact wrap_i64 (by omega))) rfl ?_
       refine AL.p (by exact mv1 rfl) rfl ?_
       refine AL.nil (th_n ?_)
       (have ev : iAt new k = at_ := (by rw [hnk, if_pos (by simpa using h2)]; by_cases q1 : iAt c.since k < 0; (rw [if_pos q1]); (rw [if_neg q1]; by_cases q2 : k = t; (rw [if_pos q2]); (rw [if_neg q2]; (exact absurd h4 q1)))); exact ⟨k + 1, by omega, by omega, Weak.ren _ [] hC rfl (by repeat (first | exact True.intro | refine And.intro ?_ ?_ | exact DLead.same | exact rfl | refine ⟨_, rfl, ?_⟩)) (by rw [← hset, ev]; dsimp only [lkChs, lkC]; rw [List.length_set, ← hst1]; repeat (first | exact True.intro | refine And.intro ?_ ?_ | exact DLead.same | exact rfl | refine ⟨_, _, rfl, rfl, ?_⟩ | refine ⟨_, rfl, ?_⟩ | refine ⟨_, _, rfl, ?_, ?_⟩)) rfl rfl rfl⟩)
      ·refine DF.op 14 (List.range 14) 35 rfl rfl rfl (.yes rfl rfl rfl rfl (NOp.of (by exact mv3 rfl))) rfl ?_
       refine DF.op 15 (List.range 15) 35 rfl rfl rfl (.yes rfl rfl rfl rfl (NOp.of (by exact g_nilP rfl))) rfl ?_
       refine DF.op 16 (List.range 16) 35 rfl rfl rfl (.yes rfl rfl rfl rfl (NOp.of (by exact g_fa_ptr rfl rfl rfl rfl rfl))) rfl ?_
       refine DF.op 17 (List.range 17) 35 rfl rfl rfl (.yes rfl rfl rfl rfl (NOp.of (by exact g_fa_ptr rfl rfl rfl rfl rfl))) rfl ?_
       refine DF.op 18 (List.range 18) 35 rfl rfl rfl (.yes rfl rfl rfl rfl (NOp.of (by exact g_load_ptr rfl rfl rfl rfl rfl))) rfl ?_
       refine DF.op 19 (List.range 14) 35 rfl rfl rfl (.yes rfl rfl rfl rfl (NOp.of (by exact mv1 rfl))) rfl ?_
       refine DF.op 20 (List.range 20) 35 rfl rfl rfl (.yes rfl rfl rfl rfl (NOp.of (by exact g_ia_view (i := t) rfl rfl rfl rfl rfl rfl hgett))) rfl ?_
       refine DF.op 21 (List.range 21) 35 rfl rfl rfl (.yes rfl rfl rfl rfl (NOp.of (by exact g_fa_ref rfl rfl rfl rfl rfl rfl))) rfl ?_
       refine DF.op 22 (List.range 22) 35 rfl rfl rfl (.yes rfl rfl rfl rfl (NOp.of (by exact g_load_ref rfl rfl rfl))) rfl ?_
       refine DF.op 23 (List.range 14) 35 rfl rfl rfl (.yes rfl rfl rfl rfl (NOp.of (by exact mv3 rfl))) rfl ?_
       refine DF.op 24 [0,1,2,3,4,5,6,7,8,9,10,11,12,13,23] 35 rfl rfl rfl (.yes rfl rfl rfl rfl (NOp.of (by exact g_nilP rfl))) rfl ?_
       refine DF.op 25 [0,1,2,3,4,5,6,7,8,9,10,11,12,13,23,24] 35 rfl rfl rfl (.yes rfl rfl rfl rfl (NOp.of (by exact g_fa_ptr rfl rfl rfl rfl rfl))) rfl ?_
       refine DF.op 26 [0,1,2,3,4,5,6,7,8,9,10,11,12,13,23,24,25] 35 rfl rfl rfl (.yes rfl rfl rfl rfl (NOp.of (by exact g_fa_ptr rfl rfl rfl rfl rfl))) rfl ?_
       refine DF.op 27 [0,1,2,3,4,5,6,7,8,9,10,11,12,13,23,24,25,26] 35 rfl rfl rfl (.yes rfl rfl rfl rfl (NOp.of (by exact g_load_ptr rfl rfl rfl rfl rfl))) rfl ?_
       refine DF.op 28 (List.range 14) 35 rfl rfl rfl (.yes rfl rfl rfl rfl (NOp.of (by exact mv1 rfl))) rfl ?_
       refine DF.op 29 [0,1,2,3,4,5,6,7,8,9,10,11,12,13,23,24,25,26,27,28] 35 rfl rfl rfl (.yes rfl rfl rfl rfl (NOp.of (by exact g_ia_view (i := k) rfl rfl rfl rfl rfl rfl hgetk))) rfl ?_
       refine DF.op 30 [0,1,2,3,4,5,6,7,8,9,10,11,12,13,23,24,25,26,27,28,29] 35 rfl rfl rfl (.yes rfl rfl rfl rfl (NOp.of (by exact g_fa_ref rfl rfl rfl rfl rfl rfl))) rfl ?_
       refine DF.op 31 [0,1,2,3,4,5,6,7,8,9,10,11,12,13,23,24,25,26,27,28,29,30] 35 rfl rfl rfl (.yes rfl rfl rfl rfl (NOp.of (by exact g_load_ref rfl rfl rfl))) rfl ?_
       refine DF.op 32 (List.range 32) 35 rfl rfl rfl (.yes rfl rfl rfl rfl (by exact h_pure en_l1Meet rfl rfl (by repeat (first | exact rfl | exact DLead.same | refine ⟨_, _, rfl, ?_, ?_⟩)) hS rfl)) rfl ?_
       refine DF.op 33 (List.range 33) 35 rfl rfl rfl (.free rfl (NOp.of (by exact g_pickF (r := .d _) rfl rfl))) rfl ?_
       refine DF.op 34 (List.range 34) 35 rfl rfl rfl (.free rfl (NOp.of (by exact as1 rfl))) rfl ?_
       refine DF.fin (ps := [(0,1),(1,0),(4,8),(5,8),(6,8),(7,8),(8,4),(8,5),(8,6),(8,7),(14,19),(14,23),(14,24),(14,25),(14,26),(14,27),(14,28),(14,29),(14,30),(14,31),(15,19),(15,23),(15,24),(15,25),(15,26),(15,27),(15,28),(15,29),(15,30),(15,31),(16,19),(16,23),(16,24),(16,25),(16,26),(16,27),(16,28),(16,29),(16,30),(16,31),(17,19),(17,23),(17,24),(17,25),(17,26),(17,27),(17,28),(17,29),(17,30),(17,31),(18,19),(18,23),(18,24),(18,25),(18,26),(18,27),(18,28),(18,29),(18,30),(18,31),(19,14),(19,15),(19,16),(19,17),(19,18),(19,23),(19,24),(19,25),(19,26),(19,27),(19,28),(19,29),(19,30),(19,31),(20,23),(20,24),(20,25),(20,26),(20,27),(20,28),(20,29),(20,30),(20,31),(21,23),(21,24),(21,25),(21,26),(21,27),(21,28),(21,29),(21,30),(21,31),(22,23),(22,24),(22,25),(22,26),(22,27),(22,28),(22,29),(22,30),(22,31),(23,14),(23,15),(23,16),(23,17),(23,18),(23,19),(23,20),(23,21),(23,22),(23,28),(24,14),(24,15),(24,16),(24,17),(24,18),(24,19),(24,20),(24,21),(24,22),(24,28),(25,14),(25,15),(25,16),(25,17),(25,18),(25,19),(25,20),(25,21),(25,22),(25,28),(26,14),(26,15),(26,16),(26,17),(26,18),(26,19),(26,20),(26,21),(26,22),(26,28),(27,14),(27,15),(27,16),(27,17),(27,18),(27,19),(27,20),(27,21),(27,22),(27,28),(28,14),(28,15),(28,16),(28,17),(28,18),(28,19),(28,20),(28,21),(28,22),(28,23),(28,24),(28,25),(28,26),(28,27),(29,14),(29,15),(29,16),(29,17),(29,18),(29,19),(29,20),(29,21),(29,22),(30,14),(30,15),(30,16),(30,17),(30,18),(30,19),(30,20),(30,21),(30,22),(31,14),(31,15),(31,16),(31,17),(31,18),(31,19),(31,20),(31,21),(31,22)]) 35 rfl (by decide +kernel) (by decide +kernel) (by rfl) ?_
       refine th_n ?_
       refine AC.condB rfl (fun h5 => ?_) (fun h5 => ?_)
       ·refine AC.region ?_
        refine AL.p (by exact mv3 rfl) rfl ?_
        refine AL.p (by exact g_nilP rfl) rfl ?_
        refine AL.p (by exact g_fa_ptr rfl rfl rfl rfl rfl) rfl ?_
        refine AL.p (by exact g_load_ptr rfl rfl rfl rfl rfl) rfl ?_
        refine AL.p (by exact mv1 rfl) rfl ?_
        refine AL.p (by exact mv1 rfl) rfl ?_
        refine AL.p (by exact g_ia_own (i := k) (l := (mixL new c.since k).length) rfl rfl rfl rfl rfl rfl (by omega) (Nat.mul_one _)) rfl ?_
        refine AL.q (by exact h_store_arr1 (d := dI at_) rfl rfl rfl rfl .same hrow) rfl ?_
        refine AL.nil (ib_n (ib_n (th_n (AC.region ?_))))
        refine AL.p (by exact g_arith rfl rfl rfl (by exact wrap_i64 (by omega))) rfl ?_
        refine AL.p (by exact mv1 rfl) rfl ?_
        refine AL.nil (th_n ?_)
        (have ev : iAt new k = at_ := (by rw [hnk, if_pos (by simpa using h2)]; by_cases q1 : iAt c.since k < 0; (rw [if_pos q1]); (rw [if_neg q1]; by_cases q2 : k = t; (rw [if_pos q2]); (rw [if_neg q2]; (rw [if_pos h5])))); exact ⟨k + 1, by omega, by omega, Weak.ren _ [] hC rfl (by repeat (first | exact True.intro | refine And.intro ?_ ?_ | exact DLead.same | exact rfl | refine ⟨_, rfl, ?_⟩)) (by rw [← hset, ev]; dsimp only [lkChs, lkC]; rw [List.length_set, ← hst1]; repeat (first | exact True.intro | refine And.intro ?_ ?_ | exact DLead.same | exact rfl | refine ⟨_, _, rfl, rfl, ?_⟩ | refine ⟨_, rfl, ?_⟩ | refine ⟨_, _, rfl, ?_, ?_⟩)) rfl rfl rfl⟩)
       ·refine AC.skip (ib_n (ib_n (th_n (AC.region ?_))))
        refine AL.p (by exact g_arith rfl rfl rfl (by exact wrap_i64 (by omega))) rfl ?_
        refine AL.p (by exact mv1 rfl) rfl ?_
        refine AL.nil (th_n ?_)
        (have ev : iAt new k = iAt c.since k := (by rw [hnk, if_pos (by simpa using h2), if_neg h4, if_neg (by omega), if_neg (by rw [h5]; simp)]); exact ⟨k + 1, by omega, by omega, Weak.ren _ [] hC rfl (by repeat (first | exact True.intro | refine And.intro ?_ ?_ | exact DLead.same | exact rfl | refine ⟨_, rfl, ?_⟩)) (by rw [← hset, ev, hst0]; repeat (first | exact True.intro | refine And.intro ?_ ?_ | exact DLead.same | exact rfl | refine ⟨_, _, rfl, rfl, ?_⟩ | refine ⟨_, rfl, ?_⟩ | refine ⟨_, _, rfl, ?_, ?_⟩)) rfl rfl rfl⟩)
   ·refine AC.exit (th_e (th_e (ib_y (th_n (AC.seq ?_)))))
    have hkk : k = N.ts.length := by omega
    have e : mixL new c.since k = new := by rw [hkk, ← hl]; exact mixL_all hnl
    rw [e]
    refine AC.region ?_
    refine AL.p (by exact as1 rfl) rfl ?_
    refine AL.nil (th_n (AC.ret (bq_r ?_)))
    exact retF rfl (by rw [hP2]; repeat (exact DLead.same)) (by rw [hP2]; repeat (first | exact True.intro | refine And.intro ?_ ?_ | exact DLead.same | exact rfl | refine ⟨_, _, rfl, rfl, ?_⟩ | refine ⟨_, rfl, ?_⟩ | refine ⟨_, _, rfl, ?_, ?_⟩)) rfl
theorem en_lkFire : Enters Tryz.prog 53 := enters_of Tryz.func53 rfl rfl
theorem dlLg_get {l : List Dl} {k : Nat} (h : k < l.length) : (dlL l)[k]? = some [dI l[k].low, dI l[k].high] := by rw [List.getElem?_map, List.getElem?_eq_getElem h]; rfl
set_option maxHeartbeats 1000000 in
theorem indexDB_spec (l : List Dl) (hl : l.length ≤ 2000000) (g : FuncId) (ds : List DV) (hen : Enters Tryz.prog g) (p : Dl → Bool) (hp : ∀ t, t ∈ l → ASpec Tryz.prog g (dlA t :: ds.map .d) [] (Pure1 (aT (p t)))) : ASpec Tryz.prog 90 [.d (vDls l), .clo g (ds.map .d)] [] (Pure1 (aI (findI p l))) := by
 refine ASpec.of Tryz.func90 rfl rfl fun C hC => ?_
 refine AC.seq (AC.region ?_)
 refine AL.p (by exact as1 rfl) rfl ?_
 refine AL.nil (th_n (AC.seq (AC.seq (AC.region ?_))))
 refine AL.p (by exact mv1 rfl) rfl ?_
 refine AL.p (by exact g_len_view rfl rfl (by exact List.length_map _)) rfl ?_
 refine AL.p (by exact mv1 rfl) rfl ?_
 refine AL.nil (th_n (AC.block ?_))
 refine AC.loop (ι := Nat) (fun k => ⟨19, 0, [(0, .d (vDls l)), (1, .clo g (ds.map .d)), (6, .d (vDls l)), (7, aI l.length), (8, aI k)], []⟩) (fun k => k ≤ l.length ∧ ∀ j (hj : j < l.length), j < k → p l[j] = false) (fun k => l.length - k) (0) ?_ (⟨Nat.zero_le _, fun j _ hj => by omega⟩) ?_
 ·refine Weak.ren _ [] hC rfl ⟨.same, ⟨_, rfl, leadsL_data _ ds⟩, ?_⟩ trivial rfl rfl rfl; repeat (first | exact True.intro | refine And.intro ?_ ?_ | exact DLead.same)
 ·intro k ⟨hk, hall⟩
  refine AC.seq (AC.region ?_)
  refine AL.p (by exact g_cmp rfl rfl rfl) rfl ?_
  refine AL.nil (th_n (AC.seq ?_))
  refine AC.condD rfl (fun h0 => ?_) (fun h0 => ?_)
  ·refine AC.skip (th_n (AC.seq (AC.block (AC.seq ?_))))
   have hk1 : k < l.length := by omega
   have hget := dlLg_get hk1
   refine AC.region ?_
   refine AL.p (by exact mv1 rfl) rfl ?_
   refine AL.p (by exact as1 rfl) rfl ?_
   refine AL.nil (th_n (AC.seq (AC.region ?_)))
   refine AL.p (by exact mv6 rfl) rfl ?_
   refine AL.p (by exact mv1 rfl) rfl ?_
   refine AL.p (by exact mv1 rfl) rfl ?_
   refine AL.p (by exact g_ia_view rfl rfl rfl rfl rfl (by rfl) (by assumption)) rfl ?_
   refine AL.p (by exact g_load_refN rfl rfl rfl rfl) rfl ?_
   refine AL.q (by exact h_pure hen rfl rfl (by exact ⟨_, _, rfl, ⟨_, rfl, _, _, rfl, .same, _, _, rfl, .same, rfl⟩, leadsL_data _ ds⟩) (hp l[k] (List.getElem_mem hk1)) rfl) rfl ?_
   refine AL.nil (th_n ?_)
   refine AC.condB rfl (fun h1 => ?_) (fun h1 => ?_)
   ·refine AC.seq (AC.region ?_)
    refine AL.p (by exact mv1 rfl) rfl ?_
    refine AL.p (by exact as1 rfl) rfl ?_
    refine AL.nil (th_n (AC.ret (ib_r (th_r (th_r (ib_r (th_r (bq_r ?_))))))))
    exact ret1 rfl (by rw [findI_at hk1 h1 (fun j hj => hall j (by omega) hj)])
   ·refine AC.skip (ib_n (th_n (AC.region ?_)))
    refine AL.p (by exact g_arith rfl rfl rfl (by exact wrap_i64 (by omega))) rfl ?_
    refine AL.p (by exact mv1 rfl) rfl ?_
    refine AL.nil (th_n ?_)
    exact ⟨k + 1, ⟨by omega, fun j hj hj2 => by rcases Nat.lt_succ_iff_lt_or_eq.1 hj2 with h | rfl; exact hall j hj h; exact h1⟩, by omega, Weak.ren _ [] hC rfl ⟨.same, ⟨_, rfl, leadsL_data _ ds⟩, by repeat (first | exact True.intro | refine And.intro ?_ ?_ | exact DLead.same)⟩ trivial rfl rfl rfl⟩
  ·refine AC.exit (th_e (th_e (ib_y (th_n (AC.seq (AC.region ?_))))))
   refine AL.p (by exact as1 rfl) rfl ?_
   refine AL.nil (th_n (AC.ret (bq_r ?_)))
   exact ret1 rfl (by rw [findI_none (fun j hj => hall j hj (by omega))])
theorem en_indexDB : Enters Tryz.prog 90 := enters_of Tryz.func90 rfl rfl
set_option maxHeartbeats 1000000 in
theorem containsDB_spec (l : List Dl) (hl : l.length ≤ 2000000) (g : FuncId) (ds : List DV) (hen : Enters Tryz.prog g) (p : Dl → Bool) (hp : ∀ t, t ∈ l → ASpec Tryz.prog g (dlA t :: ds.map .d) [] (Pure1 (aT (p t)))) : ASpec Tryz.prog 62 [.d (vDls l), .clo g (ds.map .d)] [] (Pure1 (aT (l.any p))) := by
 refine ASpec.of Tryz.func62 rfl rfl fun C hC => ?_
 refine AC.seq (AC.region ?_)
 refine AL.p (by exact as1 rfl) rfl ?_
 refine AL.nil (th_n (AC.seq (AC.region ?_)))
 refine AL.p (by exact mv1 rfl) rfl ?_
 refine AL.p (by exact mv6 rfl) rfl ?_
 refine AL.q (by exact h_pure en_indexDB rfl rfl (by exact ⟨_, _, rfl, .same, _, _, rfl, ⟨_, rfl, leadsL_data _ ds⟩, rfl⟩) (indexDB_spec l hl g ds hen p hp) rfl) rfl ?_
 refine AL.p (by exact g_cmp rfl rfl rfl) rfl ?_
 refine AL.p (by exact as1 rfl) rfl ?_
 refine AL.nil (th_n (AC.ret (bq_r ?_)))
 exact ret1 rfl (by rw [findI_any])
theorem en_containsDB : Enters Tryz.prog 62 := enters_of Tryz.func62 rfl rfl
def vdB (d : Dl) : Bool := (decide (0 ≤ d.low) && decide (d.low ≤ d.high)) && !decide (100 < d.high)
def validD (s : Stg) (l : List Dl) : Bool := l.all vdB && (goodS s && decide ((l.length : Int) = s.net.ts.length))
theorem iVDel1_spec (d : Dl) : ASpec Tryz.prog 63 [dlA d] [] (Pure1 (aT (!vdB d))) := by
 refine ASpec.of Tryz.func63 rfl rfl fun C hC => ?_
 refine AC.seq (AC.region ?_)
 refine AL.q (by exact h_boxF rfl rfl) rfl ?_
 refine AL.p (by exact as1 rfl) rfl ?_
 refine AL.nil (th_n (AC.seq (AC.region ?_)))
 refine AL.p (by exact g_fa_ref rfl rfl rfl rfl rfl rfl) rfl ?_
 refine AL.p (by exact g_load_ref rfl rfl rfl) rfl ?_
 refine AL.p (by exact g_cmp rfl rfl rfl) rfl ?_
 refine AL.p (by exact mv1 rfl) rfl ?_
 refine AL.caseG rfl rfl (fun h0 => ?_) (fun h0 => ?_)
 ·refine AL.not rfl rfl rfl rfl rfl ?_
  refine AL.not rfl rfl rfl rfl rfl ?_
  refine AL.not rfl rfl rfl rfl rfl ?_
  refine AL.not rfl rfl rfl rfl rfl ?_
  refine AL.not rfl rfl rfl rfl rfl ?_
  refine AL.p (by exact g_pickT (r := .d _) rfl rfl) rfl ?_
  refine AL.p (by exact mv1 rfl) rfl ?_
  refine AL.not rfl rfl rfl rfl rfl ?_
  refine AL.not rfl rfl rfl rfl rfl ?_
  refine AL.not rfl rfl rfl rfl rfl ?_
  refine AL.p (by exact g_pickT (r := .d _) rfl rfl) rfl ?_
  refine AL.p (by exact as1 rfl) rfl ?_
  refine AL.nil (th_n (AC.ret (bq_r ?_)))
  have e : vdB d = ((decide (0 ≤ d.low) && decide (d.low ≤ d.high)) && !decide (100 < d.high)) := rfl
  exact ret1 rfl (by rw [e]; (rw [decide_eq_false (show ¬ 0 ≤ d.low by omega)]; rfl))
 ·refine AL.yes rfl rfl rfl ?_
  refine AL.p (by exact g_fa_ref rfl rfl rfl rfl rfl rfl) rfl ?_
  refine AL.yes rfl rfl rfl ?_
  refine AL.p (by exact g_load_ref rfl rfl rfl) rfl ?_
  refine AL.yes rfl rfl rfl ?_
  refine AL.p (by exact g_fa_ref rfl rfl rfl rfl rfl rfl) rfl ?_
  refine AL.yes rfl rfl rfl ?_
  refine AL.p (by exact g_load_ref rfl rfl rfl) rfl ?_
  refine AL.yes rfl rfl rfl ?_
  refine AL.p (by exact g_cmp rfl rfl rfl) rfl ?_
  refine AL.p (by exact g_pickF (r := .d _) rfl rfl) rfl ?_
  refine AL.p (by exact mv1 rfl) rfl ?_
  refine AL.caseG rfl rfl (fun h1 => ?_) (fun h1 => ?_)
  ·refine AL.not rfl rfl rfl rfl rfl ?_
   refine AL.not rfl rfl rfl rfl rfl ?_
   refine AL.not rfl rfl rfl rfl rfl ?_
   refine AL.p (by exact g_pickT (r := .d _) rfl rfl) rfl ?_
   refine AL.p (by exact as1 rfl) rfl ?_
   refine AL.nil (th_n (AC.ret (bq_r ?_)))
   have e : vdB d = ((decide (0 ≤ d.low) && decide (d.low ≤ d.high)) && !decide (100 < d.high)) := rfl
   exact ret1 rfl (by rw [e]; (rw [decide_eq_true (show 0 ≤ d.low by omega), decide_eq_false (show ¬ d.low ≤ d.high by omega)]; rfl))
  ·refine AL.yes rfl rfl rfl ?_
   refine AL.p (by exact g_fa_ref rfl rfl rfl rfl rfl rfl) rfl ?_
   refine AL.yes rfl rfl rfl ?_
   refine AL.p (by exact g_load_ref rfl rfl rfl) rfl ?_
   refine AL.yes rfl rfl rfl ?_
   refine AL.p (by exact g_cmp rfl rfl rfl) rfl ?_
   refine AL.p (by exact g_pickF (r := .d _) rfl rfl) rfl ?_
   refine AL.p (by exact as1 rfl) rfl ?_
   refine AL.nil (th_n (AC.ret (bq_r ?_)))
   have e : vdB d = ((decide (0 ≤ d.low) && decide (d.low ≤ d.high)) && !decide (100 < d.high)) := rfl
   exact ret1 rfl (by rw [e]; (rw [decide_eq_true (show 0 ≤ d.low by omega), decide_eq_true (show d.low ≤ d.high by omega)]; simp))
theorem en_iVDel1 : Enters Tryz.prog 63 := enters_of Tryz.func63 rfl rfl
structure DlB (l : List Dl) : Prop where
 n : l.length ≤ 100000
 b : ∀ x, x ∈ l → -1000000 ≤ x.low ∧ x.low ≤ 1000000 ∧ -1000000 ≤ x.high ∧ x.high ≤ 1000000
set_option maxHeartbeats 2000000 in
theorem iVDel_spec (s : Stg) (l : List Dl) (hS : StgB s) (hl : DlB l) : ASpec Tryz.prog 41 [stgA s, .d (vDls l)] [] (Pure1 (aT (validD s l))) := by
 have hV := iIsValidSTG_spec s hS.L
 have hX := containsDB_spec l (by have := hl.n; omega) 63 [] en_iVDel1 (fun d => !vdB d) (fun t _ => iVDel1_spec t)
 have hll := hl.n
 have hsl := hS.l
 have e : validD s l = (goodS s && (decide ((l.length : Int) = s.labs.length) && !l.any (fun d => !vdB d))) := by
  unfold validD
  rw [all_not_any, Bool.and_comm]
  by_cases h : goodS s = true
  ·rw [(goodS_bits h).2.2, Bool.and_assoc]
  ·rw [Bool.eq_false_iff.2 h]; rfl
 obtain ⟨b1, hb1⟩ : ∃ b, b = goodS s := ⟨_, rfl⟩
 obtain ⟨b2, hb2⟩ : ∃ b, b = l.any (fun d => !vdB d) := ⟨_, rfl⟩
 rw [← hb1] at hV e
 rw [← hb2] at hX e
 refine ASpec.of Tryz.func41 rfl rfl fun C hC => ?_
 refine AC.seq (AC.region ?_)
 refine AL.q (by exact h_boxF rfl rfl) rfl ?_
 refine AL.p (by exact as1 rfl) rfl ?_
 refine AL.nil (th_n (AC.seq (AC.region ?_)))
 refine AL.p (by exact g_load_refN rfl rfl rfl rfl) rfl ?_
 refine AL.q (by exact h_pure en_iIsValidSTG rfl rfl (by repeat (first | exact rfl | exact DLead.same | refine ⟨_, _, rfl, ?_, ?_⟩ | refine ⟨_, rfl, ?_⟩)) hV rfl) rfl ?_
 refine AL.p (by exact mv1 rfl) rfl ?_
 refine AL.caseGB rfl rfl (fun h0 => ?_) (fun h0 => ?_)
 ·refine AL.yes rfl rfl rfl ?_
  refine AL.p (by exact mv1 rfl) rfl ?_
  refine AL.yes rfl rfl rfl ?_
  refine AL.p (by exact g_len_view (k := l.length) rfl rfl (dlL_len _)) rfl ?_
  refine AL.yes rfl rfl rfl ?_
  refine AL.p (by exact g_fa_ref rfl rfl rfl rfl rfl rfl) rfl ?_
  refine AL.yes rfl rfl rfl ?_
  refine AL.p (by exact g_load_ref rfl rfl rfl) rfl ?_
  refine AL.yes rfl rfl rfl ?_
  refine AL.p (by exact g_len_view (k := s.labs.length) rfl rfl (labsL_len _)) rfl ?_
  refine AL.yes rfl rfl rfl ?_
  refine AL.p (by exact g_cmp rfl rfl rfl) rfl ?_
  refine AL.p (by exact g_pickT (r := .d _) rfl rfl) rfl ?_
  refine AL.p (by exact mv1 rfl) rfl ?_
  refine AL.caseG rfl rfl (fun h1 => ?_) (fun h1 => ?_)
  ·refine AL.yes rfl rfl rfl ?_
   refine AL.p (by exact mv1 rfl) rfl ?_
   refine AL.yes rfl rfl rfl ?_
   refine AL.q (by exact h_pure en_containsDB rfl rfl (by exact ⟨_, _, rfl, .same, _, _, rfl, ⟨_, rfl, rfl⟩, rfl⟩) hX rfl) rfl ?_
   refine AL.yes rfl rfl rfl ?_
   refine AL.p (by exact g_not rfl) rfl ?_
   refine AL.p (by exact g_pickT (r := .d _) rfl rfl) rfl ?_
   refine AL.p (by exact as1 rfl) rfl ?_
   refine AL.nil (th_n (AC.ret (bq_r ?_)))
   exact ret1 rfl (by clear hX hV; rw [e]; simp_all)
  ·refine AL.not rfl rfl rfl rfl rfl ?_
   refine AL.not rfl rfl rfl rfl rfl ?_
   refine AL.not rfl rfl rfl rfl rfl ?_
   refine AL.p (by exact g_pickF (r := .d _) rfl rfl) rfl ?_
   refine AL.p (by exact as1 rfl) rfl ?_
   refine AL.nil (th_n (AC.ret (bq_r ?_)))
   exact ret1 rfl (by clear hX hV; rw [e]; simp_all)
 ·refine AL.not rfl rfl rfl rfl rfl ?_
  refine AL.not rfl rfl rfl rfl rfl ?_
  refine AL.not rfl rfl rfl rfl rfl ?_
  refine AL.not rfl rfl rfl rfl rfl ?_
  refine AL.not rfl rfl rfl rfl rfl ?_
  refine AL.not rfl rfl rfl rfl rfl ?_
  refine AL.p (by exact g_pickF (r := .d _) rfl rfl) rfl ?_
  refine AL.p (by exact mv1 rfl) rfl ?_
  refine AL.not rfl rfl rfl rfl rfl ?_
  refine AL.not rfl rfl rfl rfl rfl ?_
  refine AL.not rfl rfl rfl rfl rfl ?_
  refine AL.p (by exact g_pickF (r := .d _) rfl rfl) rfl ?_
  refine AL.p (by exact as1 rfl) rfl ?_
  refine AL.nil (th_n (AC.ret (bq_r ?_)))
  exact ret1 rfl (by clear hX hV; rw [e]; simp_all)
theorem en_iVDel : Enters Tryz.prog 41 := enters_of Tryz.func41 rfl rfl
set_option maxHeartbeats 2000000 in
theorem l23Good_spec (s : Stg) (l : List Dl) (hS : StgB s) (hl : DlB l) : ASpec Tryz.prog 21 [stgA s, .d (vDls l)] [] (Pure1 (aT (validD s l))) := by
 have hV := l2Good_spec s hS.L
 have hll := hl.n
 have hsl := hS.n.l
 have e : validD s l = (l.all vdB && (goodS s && decide ((l.length : Int) = s.net.ts.length))) := rfl
 obtain ⟨b1, hb1⟩ : ∃ b, b = goodS s := ⟨_, rfl⟩
 rw [← hb1] at hV e
 refine ASpec.of Tryz.func21 rfl rfl fun C hC => ?_
 refine AC.seq (AC.region ?_)
 refine AL.q (by exact h_boxF rfl rfl) rfl ?_
 refine AL.p (by exact as1 rfl) rfl ?_
 refine AL.nil (th_n (AC.seq (AC.seq (AC.region ?_))))
 refine AL.p (by exact mv1 rfl) rfl ?_
 refine AL.p (by exact g_len_view (k := l.length) rfl rfl (dlL_len _)) rfl ?_
 refine AL.p (by exact mv1 rfl) rfl ?_
 refine AL.nil (th_n (AC.block ?_))
 refine AC.loop (ι := Nat) (fun k => ⟨36, 100, [(1, .d (vDls l)), (2, .d (.ref (stgD s))), (7, .d (vDls l)), (8, aI l.length), (9, aI k)], []⟩) (fun k => k ≤ l.length ∧ ∀ j (hj : j < l.length), j < k → vdB l[j] = true) (fun k => l.length - k) (0) ?_ (⟨Nat.zero_le _, fun j _ hj => by omega⟩) ?_
 ·refine Weak.ren _ [] hC rfl ?_ ?_ rfl rfl rfl <;> repeat (first | exact True.intro | refine And.intro ?_ ?_ | exact DLead.same)
 ·intro k ⟨hk, hall⟩
  refine AC.seq (AC.region ?_)
  refine AL.p (by exact g_cmp rfl rfl rfl) rfl ?_
  refine AL.nil (th_n (AC.seq ?_))
  refine AC.condD rfl (fun h0 => ?_) (fun h0 => ?_)
  ·refine AC.skip (th_n (AC.seq (AC.block (AC.seq ?_))))
   have hk1 : k < l.length := by omega
   have hget := dlLg_get hk1
   have hL := l1In_spec l[k].low 0 l[k].high
   have hvd : vdB l[k] = ((decide (0 ≤ l[k].low) && decide (l[k].low ≤ l[k].high)) && !decide (100 < l[k].high)) := rfl
   obtain ⟨b2, hb2⟩ : ∃ b, b = (decide (0 ≤ l[k].low) && decide (l[k].low ≤ l[k].high)) := ⟨_, rfl⟩
   rw [← hb2] at hL hvd
   refine AC.region ?_
   refine AL.p (by exact g_ia_view rfl rfl rfl rfl rfl (by rfl) (by assumption)) rfl ?_
   refine AL.p (by exact g_load_refN rfl rfl rfl rfl) rfl ?_
   refine AL.q (by exact h_alloc rfl) rfl ?_
   refine AL.q (by exact h_store rfl rfl rfl rfl rfl rfl) rfl ?_
   refine AL.nil (th_n (AC.seq (AC.region ?_)))
   refine AL.p (by exact g_fa_ptr rfl rfl rfl rfl rfl) rfl ?_
   refine AL.p (by exact g_load_ptr rfl rfl rfl rfl rfl) rfl ?_
   refine AL.p (by exact g_fa_ptr rfl rfl rfl rfl rfl) rfl ?_
   refine AL.p (by exact g_load_ptr rfl rfl rfl rfl rfl) rfl ?_
   refine AL.q (by exact h_pure en_l1In rfl rfl (by repeat (first | exact rfl | exact DLead.same | refine ⟨_, _, rfl, ?_, ?_⟩)) hL rfl) rfl ?_
   refine AL.p (by exact g_not rfl) rfl ?_
   refine AL.p (by exact mv1 rfl) rfl ?_
   refine AL.caseGB rfl rfl (fun h1 => ?_) (fun h1 => ?_)
   ·refine AL.not rfl rfl rfl rfl rfl ?_
    refine AL.not rfl rfl rfl rfl rfl ?_
    refine AL.not rfl rfl rfl rfl rfl ?_
    refine AL.p (by exact g_pickT (r := .d _) rfl rfl) rfl ?_
    refine AL.nil (th_n ?_)
    refine AC.condT rfl ?_
    refine AC.seq (AC.region ?_)
    refine AL.p (by exact as1 rfl) rfl ?_
    refine AL.nil (th_n (AC.ret (ib_r (th_r (th_r (ib_r (th_r (bq_r ?_))))))))
    have hbad : vdB l[k] = false := by rw [hvd]; (rw [show b2 = false by simpa using h1]; rfl)
    exact ret1 rfl (by rw [e, List.all_eq_false.2 ⟨_, List.getElem_mem hk1, by rw [hbad]; simp⟩]; rfl)
   ·refine AL.yes rfl rfl rfl ?_
    refine AL.p (by exact g_fa_ptr rfl rfl rfl rfl rfl) rfl ?_
    refine AL.yes rfl rfl rfl ?_
    refine AL.p (by exact g_load_ptr rfl rfl rfl rfl rfl) rfl ?_
    refine AL.yes rfl rfl rfl ?_
    refine AL.p (by exact g_cmp rfl rfl rfl) rfl ?_
    refine AL.p (by exact g_pickF (r := .d _) rfl rfl) rfl ?_
    refine AL.nil (th_n ?_)
    refine AC.condD rfl (fun h2 => ?_) (fun h2 => ?_)
    ·refine AC.seq (AC.region ?_)
     refine AL.p (by exact as1 rfl) rfl ?_
     refine AL.nil (th_n (AC.ret (ib_r (th_r (th_r (ib_r (th_r (bq_r ?_))))))))
     have hbad : vdB l[k] = false := by rw [hvd]; (rw [decide_eq_true h2]; simp)
     exact ret1 rfl (by rw [e, List.all_eq_false.2 ⟨_, List.getElem_mem hk1, by rw [hbad]; simp⟩]; rfl)
    ·refine AC.skip (ib_n (th_n (AC.region ?_)))
     refine AL.p (by exact g_arith rfl rfl rfl (by exact wrap_i64 (by omega))) rfl ?_
     refine AL.p (by exact mv1 rfl) rfl ?_
     refine AL.nil (th_n ?_)
     have hok : vdB l[k] = true := by rw [hvd, decide_eq_false h2, show b2 = true by simpa using h1]; rfl
     exact ⟨k + 1, ⟨by omega, fun j hj hj2 => by rcases Nat.lt_succ_iff_lt_or_eq.1 hj2 with h | rfl; exact hall j hj h; exact hok⟩, by omega, Weak.ren _ [] hC rfl (by repeat (first | exact True.intro | refine And.intro ?_ ?_ | exact DLead.same)) (by repeat (exact True.intro)) rfl rfl rfl⟩
  ·refine AC.exit (th_e (th_e (ib_y (th_n (AC.seq ?_)))))
   have hA : l.all vdB = true := List.all_eq_true.2 (fun x hx => by obtain ⟨j, hj, rfl⟩ := List.getElem_of_mem hx; exact hall j hj (by omega))
   rw [hA, Bool.true_and] at e
   refine AC.region ?_
   refine AL.p (by exact g_load_refN rfl rfl rfl rfl) rfl ?_
   refine AL.q (by exact h_pure en_l2Good rfl rfl (by repeat (first | exact rfl | exact DLead.same | refine ⟨_, _, rfl, ?_, ?_⟩ | refine ⟨_, rfl, ?_⟩)) hV rfl) rfl ?_
   refine AL.p (by exact mv1 rfl) rfl ?_
   refine AL.caseGB rfl rfl (fun h1 => ?_) (fun h1 => ?_)
   ·refine AL.yes rfl rfl rfl ?_
    refine AL.p (by exact mv1 rfl) rfl ?_
    refine AL.yes rfl rfl rfl ?_
    refine AL.p (by exact g_len_view (k := l.length) rfl rfl (dlL_len _)) rfl ?_
    refine AL.yes rfl rfl rfl ?_
    refine AL.p (by exact g_fa_ref rfl rfl rfl rfl rfl rfl) rfl ?_
    refine AL.yes rfl rfl rfl ?_
    refine AL.p (by exact g_fa_ref rfl rfl rfl rfl rfl rfl) rfl ?_
    refine AL.yes rfl rfl rfl ?_
    refine AL.p (by exact g_load_ref rfl rfl rfl) rfl ?_
    refine AL.yes rfl rfl rfl ?_
    refine AL.p (by exact g_len_view (k := s.net.ts.length) rfl rfl (tsL_len _)) rfl ?_
    refine AL.yes rfl rfl rfl ?_
    refine AL.p (by exact g_cmp rfl rfl rfl) rfl ?_
    refine AL.p (by exact g_pickT (r := .d _) rfl rfl) rfl ?_
    refine AL.p (by exact as1 rfl) rfl ?_
    refine AL.nil (th_n (AC.ret (bq_r ?_)))
    exact ret1 rfl (by clear hV hall; rw [e]; simp_all)
   ·refine AL.not rfl rfl rfl rfl rfl ?_
    refine AL.not rfl rfl rfl rfl rfl ?_
    refine AL.not rfl rfl rfl rfl rfl ?_
    refine AL.not rfl rfl rfl rfl rfl ?_
    refine AL.not rfl rfl rfl rfl rfl ?_
    refine AL.not rfl rfl rfl rfl rfl ?_
    refine AL.not rfl rfl rfl rfl rfl ?_
    refine AL.p (by exact g_pickF (r := .d _) rfl rfl) rfl ?_
    refine AL.p (by exact as1 rfl) rfl ?_
    refine AL.nil (th_n (AC.ret (bq_r ?_)))
    exact ret1 rfl (by clear hV hall; rw [e]; simp_all)
theorem en_l23Good : Enters Tryz.prog 21 := enters_of Tryz.func21 rfl rfl
structure Tf where
 tm : Int
 t : Int
abbrev tfD (d : Tf) : List DV := [dI d.tm, dI d.t]
abbrev tfA (d : Tf) : AV := .agg [aI d.tm, aI d.t]
abbrev tfL (l : List Tf) : List (List DV) := l.map tfD
abbrev vTfs (l : List Tf) : DV := .view 46 2 (tfL l)
theorem tfL_len (l : List Tf) : (tfL l).length = l.length := List.length_map _
theorem tfL_get {l : List Tf} {k : Nat} (h : k < l.length) : (tfL l)[k]? = some [dI l[k].tm, dI l[k].t] := by rw [List.getElem?_map, List.getElem?_eq_getElem h]; rfl
theorem h_appendF (acc new : List Tf) {s : ASt} {dst : Option Nat} {ty : Nat} {pos : String} {af : Array Edge} {gd : Option (Nat × Bool)} {x y : Operand} {f : Nat} {ids ids2 : List Nat} {gone : List (Nat × Option Chunk)}
  (hto : AppTo s x 46 2 (tfL acc) ids gone) (harg : AppArg s y 2 (tfL new) ids2) (h : (acc ++ new).length ≤ 100000000) (hnew : gone = [] → 0 < new.length) :
  NOp Tryz.prog (ids ++ ids2) s ⟨dst, .call { callee := .builtin .append, args := #[x, y], argTypes := #[33, 33] }, ty, pos, af, gd⟩ f ⟨.own f (acc ++ new).length, (f, some (.arr 46 2 (tfL (acc ++ new)))) :: gone⟩ := by
 have := h_append (P := Tryz.prog) (s := s) (dst := dst) (ty := ty) (pos := pos) (af := af) (gd := gd) (x := x) (y := y) (f := f) (t := 33) (tx := 33) (k := (acc ++ new).length) rfl rfl rfl rfl rfl rfl hto harg (by simp) (by omega) (by show (acc ++ new).length * 16 ≤ _; omega) (fun h => by rw [tfL_len]; exact hnew h)
 rwa [← List.map_append] at this
def mayN (c : Ck) (l : List Dl) (last : Int) : Nat → List Tf
 | 0 => []
 | k + 1 => if 0 ≤ iAt c.since k ∧ earI c l k ≤ last then mayN c l last k ++ [⟨earI c l k, k⟩] else mayN c l last k
theorem mayN_len (c : Ck) (l : List Dl) (last : Int) : ∀ k, (mayN c l last k).length ≤ k
 | 0 => Nat.le_refl _
 | k + 1 => by have := mayN_len c l last k; rw [mayN]; split <;> simp <;> omega
theorem mayN_mem {c : Ck} {l : List Dl} {last : Int} : ∀ {k : Nat} {x : Tf}, x ∈ mayN c l last k → ∃ u : Nat, x = ⟨earI c l u, u⟩ ∧ u < k ∧ 0 ≤ iAt c.since u ∧ earI c l u ≤ last
 | 0, x, h => by cases h
 | k + 1, x, h => by
  rw [mayN] at h
  split at h
  ·rename_i hc
   rcases List.mem_append.1 h with h | h
   ·obtain ⟨u, h1, h2, h3⟩ := mayN_mem h; exact ⟨u, h1, by omega, h3⟩
   ·rw [List.mem_singleton] at h; exact ⟨k, h, by omega, hc⟩
  ·obtain ⟨u, h1, h2, h3⟩ := mayN_mem h; exact ⟨u, h1, by omega, h3⟩
def stepT (c : Ck) (l : List Dl) (d : Int) : Tf :=
 let last := lsN c.since l c.since.length
 let may := mayN c l last c.since.length
 let x := may.getD (d.tmod may.length).toNat ⟨0, 0⟩
 ⟨x.tm + d.tmod (last - x.tm + 1), x.t⟩
def stepQ (N : Net) (c : Ck) (l : List Dl) (d : Int) : Tf × Ck × Bool :=
 if mayN c l (lsN c.since l c.since.length) c.since.length = [] then (⟨0, 0⟩, c, false) else (stepT c l d, fireQ N c (stepT c l d).t.toNat (stepT c l d).tm)
theorem stepT_in {c : Ck} {l : List Dl} (hb : CkB c l) {d : Int} (hd : 0 ≤ d ∧ d ≤ 999) (h : mayN c l (lsN c.since l c.since.length) c.since.length ≠ []) : ∃ u : Nat, (stepT c l d).t = u ∧ u < c.since.length ∧ 0 ≤ iAt c.since u ∧ earI c l u ≤ (stepT c l d).tm ∧ (stepT c l d).tm ≤ lsN c.since l c.since.length ∧ (mayN c l (lsN c.since l c.since.length) c.since.length).getD (d.tmod (mayN c l (lsN c.since l c.since.length) c.since.length).length).toNat ⟨0, 0⟩ = ⟨earI c l u, u⟩ := by
 have hpos : 0 < (mayN c l (lsN c.since l c.since.length) c.since.length).length := List.length_pos_iff.2 h
 have hi : (d.tmod (mayN c l (lsN c.since l c.since.length) c.since.length).length).toNat < (mayN c l (lsN c.since l c.since.length) c.since.length).length := by
  have h1 := Int.tmod_lt_of_pos d (show (0 : Int) < (mayN c l (lsN c.since l c.since.length) c.since.length).length by omega)
  omega
 have hx : (mayN c l (lsN c.since l c.since.length) c.since.length).getD (d.tmod (mayN c l (lsN c.since l c.since.length) c.since.length).length).toNat ⟨0, 0⟩ ∈ mayN c l (lsN c.since l c.since.length) c.since.length := by
  rw [List.getD_eq_getElem?_getD, List.getElem?_eq_getElem hi]; exact List.getElem_mem hi
 obtain ⟨u, h1, h2, h3, h4⟩ := mayN_mem hx
 have e : stepT c l d = ⟨earI c l u + d.tmod (lsN c.since l c.since.length - earI c l u + 1), u⟩ := by unfold stepT; dsimp only; rw [h1]
 have h5 := Int.tmod_nonneg (lsN c.since l c.since.length - earI c l u + 1) hd.1
 have h6 := Int.tmod_lt_of_pos d (show 0 < lsN c.since l c.since.length - earI c l u + 1 by omega)
 rw [e]
 exact ⟨u, rfl, h2, h3, by dsimp only; omega, by dsimp only; omega, h1⟩
structure Dok (l : List Dl) (n : Nat) : Prop where
 e : l.length = n
 b : ∀ k, k < n → 0 ≤ (dAt l k).low ∧ (dAt l k).low ≤ (dAt l k).high ∧ (dAt l k).high ≤ 100
theorem Dok.of {s : Stg} {l : List Dl} (h : validD s l = true) : goodS s = true ∧ Dok l s.net.ts.length := by
 simp only [validD, Bool.and_eq_true, decide_eq_true_eq, List.all_eq_true] at h
 obtain ⟨h1, h2, h3⟩ := h
 refine ⟨h2, by omega, fun k hk => ?_⟩
 have hk2 : k < l.length := by omega
 have := h1 _ (List.getElem_mem hk2)
 simp only [vdB, Bool.and_eq_true, decide_eq_true_eq, Bool.not_eq_true', decide_eq_false_iff_not] at this
 rw [dAt_nat hk2]
 omega
structure CkI (N : Net) (c : Ck) (T : Int) : Prop where
 len : c.since.length = N.ts.length
 m : bitsB c.mark N.places = true
 s : ∀ k, k < N.ts.length → -1 ≤ iAt c.since k ∧ iAt c.since k ≤ T
 n : 0 ≤ c.now ∧ c.now ≤ T
 en : ∀ k, k < N.ts.length → (0 ≤ iAt c.since k ↔ enB N c.mark k = true)
theorem CkI.mono {N : Net} {c : Ck} {T T' : Int} (h : CkI N c T) (hT : T ≤ T') : CkI N c T' := ⟨h.len, h.m, fun k hk => by have := h.s k hk; omega, by have := h.n; omega, h.en⟩
theorem CkI.B {N : Net} {c : Ck} {l : List Dl} {T : Int} (h : CkI N c T) (hd : Dok l N.ts.length) (hT : T ≤ 900000) : CkB c l := by
 refine ⟨fun x hx => ?_, by have := h.n; omega, fun x hx => ?_, by rw [hd.e, h.len]⟩
 ·obtain ⟨k, hk, rfl⟩ := List.getElem_of_mem hx
  have := h.s k (by rw [← h.len]; exact hk)
  rw [iAt_nat hk] at this
  omega
 ·obtain ⟨k, hk, rfl⟩ := List.getElem_of_mem hx
  have := hd.b k (by rw [← hd.e]; exact hk)
  rw [dAt_nat hk] at this
  omega
theorem newK_I {s : Stg} (hg : goodS s = true) : CkI s.net (newK s) 0 := by
 obtain ⟨_, hb, _⟩ := goodS_bits hg
 have ha : ∀ k, k < s.net.ts.length → iAt (newK s).since k = if enB s.net s.start k = true then 0 else -1 := fun k hk => rangeMap_at hk
 refine ⟨by simp [newK], hb, fun k hk => ?_, ⟨Int.le_refl _, Int.le_refl _⟩, fun k hk => ?_⟩
 ·rw [ha k hk]; split <;> omega
 ·rw [ha k hk]
  show _ ↔ enB s.net s.start k = true
  by_cases h : enB s.net s.start k = true
  ·rw [if_pos h]; simp [h]
  ·rw [if_neg h]; simp [h]
theorem sinceF_in {N : Net} {c : Ck} {T T' : Int} (h : CkI N c T) (hT : T ≤ T') {t : Nat} {m : List UInt8} {a : Int} (ha : 0 ≤ a ∧ a ≤ T') {u : Nat} (hu : u < N.ts.length) : 0 ≤ sinceF N c.since t m a u ∧ sinceF N c.since t m a u ≤ T' := by
 have := h.s u hu
 unfold sinceF
 split
 ·omega
 ·split
  ·omega
  ·split <;> omega
theorem fireQ_I {N : Net} {c : Ck} {T T' : Int} (h : CkI N c T) (hT : T ≤ T') {t : Nat} (ht : t < N.ts.length) {a : Int} (ha : 0 ≤ a ∧ a ≤ T') : CkI N (fireQ N c t a).1 T' := by
 unfold fireQ
 split
 ·rename_i h2
  have hgD : N.ts.getD t ⟨[], []⟩ = N.ts[t] := by rw [List.getD_eq_getElem?_getD, List.getElem?_eq_getElem ht]; rfl
  rw [hgD] at h2 ⊢
  have hb := fireT_bits h.m h2
  have hv : ∀ k, k < N.ts.length → iAt ((List.range N.ts.length).map fun u => if enB N (fireT N.ts[t] c.mark).1 u = true then sinceF N c.since t (fireT N.ts[t] c.mark).1 a u else -1) k = if enB N (fireT N.ts[t] c.mark).1 k = true then sinceF N c.since t (fireT N.ts[t] c.mark).1 a k else -1 := fun k hk => rangeMap_at hk
  refine ⟨by simp, hb, fun k hk => ?_, ha, fun k hk => ?_⟩
  ·have := sinceF_in h hT (t := t) (m := (fireT N.ts[t] c.mark).1) ha hk
   rw [hv k hk]; split <;> omega
  ·have := sinceF_in h hT (t := t) (m := (fireT N.ts[t] c.mark).1) ha hk
   rw [hv k hk]
   show _ ↔ enB N (fireT N.ts[t] c.mark).1 k = true
   by_cases h3 : enB N (fireT N.ts[t] c.mark).1 k = true
   ·rw [if_pos h3]; exact ⟨fun _ => h3, fun _ => this.1⟩
   ·rw [if_neg h3]; exact ⟨fun q => by omega, fun q => absurd q h3⟩
 ·exact h.mono hT
theorem lsN_le {N : Net} {c : Ck} {l : List Dl} {T : Int} (h : CkI N c T) (hd : Dok l N.ts.length) (hT : 0 ≤ T) : ∀ k, k ≤ N.ts.length → lsN c.since l k ≤ T + 100
 | 0, _ => by simp only [lsN]; omega
 | k + 1, hk => by
  have ih := lsN_le h hd hT k (by omega)
  have h1 := h.s k (by omega)
  have h2 := hd.b k (by omega)
  rw [lsN]
  split
  ·omega
  ·exact ih
theorem stepQ_I {N : Net} {c : Ck} {l : List Dl} {T d : Int} (h : CkI N c T) (hd : Dok l N.ts.length) (hT : 0 ≤ T ∧ T ≤ 900000) (hdr : 0 ≤ d ∧ d ≤ 999) : CkI N (stepQ N c l d).2.1 (T + 100) := by
 unfold stepQ
 split
 ·exact h.mono (by omega)
 ·rename_i hne
  obtain ⟨u, h1, h2, h3, h4, h5, _⟩ := stepT_in (h.B hd (by omega)) hdr hne
  have h6 := lsN_le h hd (by omega) c.since.length (by rw [h.len]; exact Nat.le_refl _)
  have h7 := h.n
  have h8 : c.now ≤ earI c l u := Int.le_max_right ..
  rw [h1]
  exact fireQ_I h (by omega) (by rw [Int.toNat_natCast, ← h.len]; exact h2) (by omega)
set_option maxHeartbeats 16000000 in
theorem lkStep_spec (N : Net) (c : Ck) (l : List Dl) (d T : Int) (hB : NetB N) (hgn : goodN N = true) (hI : CkI N c T) (hd : Dok l N.ts.length) (hT : 0 ≤ T ∧ T ≤ 800000) (hdr : 0 ≤ d ∧ d ≤ 999) : ASpec Tryz.prog 50 [.ptr 0 0, .d (vDls l), aI d] (lkChs N c 0 1) (Fun1 (.tup [tfA (stepQ N c l d).1, aT (stepQ N c l d).2.2]) (lkChs N (stepQ N c l d).2.1 0 1)) := by
 have hb := hI.B hd (by omega)
 have htl : N.ts.length ≤ 24 := by simp only [goodN, Bool.and_eq_true, decide_eq_true_eq] at hgn; have := hgn.1.2; omega
 have hsl := hI.len
 have hL := lkLast_spec N c l hb (by omega)
 have hin := lsN_in hb c.since.length (Nat.le_refl _)
 have hS0 : mayN c l (lsN c.since l c.since.length) c.since.length = [] → stepQ N c l d = (⟨0, 0⟩, c, false) := fun h => by unfold stepQ; rw [if_pos h]
 have hS1 : mayN c l (lsN c.since l c.since.length) c.since.length ≠ [] → ∃ u : Nat, u < N.ts.length ∧ (-1000000 ≤ earI c l u ∧ earI c l u ≤ lsN c.since l c.since.length) ∧ (mayN c l (lsN c.since l c.since.length) c.since.length)[(d.tmod (mayN c l (lsN c.since l c.since.length) c.since.length).length).toNat]? = some ⟨earI c l u, u⟩ ∧ stepQ N c l d = (⟨earI c l u + d.tmod (lsN c.since l c.since.length - earI c l u + 1), u⟩, fireQ N c u (earI c l u + d.tmod (lsN c.since l c.since.length - earI c l u + 1))) := fun h => by
  obtain ⟨u, h1, h2, h3, h4, h5, h6⟩ := stepT_in hb hdr h
  have h8 : c.now ≤ earI c l u := Int.le_max_right ..
  have h9 := hI.n
  have hi : (d.tmod (mayN c l (lsN c.since l c.since.length) c.since.length).length).toNat < (mayN c l (lsN c.since l c.since.length) c.since.length).length := by
   have := Int.tmod_lt_of_pos d (show (0 : Int) < (mayN c l (lsN c.since l c.since.length) c.since.length).length by have := List.length_pos_iff.2 h; omega)
   have := Int.tmod_nonneg ((mayN c l (lsN c.since l c.since.length) c.since.length).length : Int) hdr.1
   omega
  have e : stepT c l d = ⟨earI c l u + d.tmod (lsN c.since l c.since.length - earI c l u + 1), u⟩ := by unfold stepT; dsimp only; rw [h6]
  refine ⟨u, by omega, by omega, ?_, ?_⟩
  ·rw [List.getD_eq_getElem?_getD, List.getElem?_eq_getElem hi] at h6
   rw [List.getElem?_eq_getElem hi]
   exact congrArg some h6
  ·unfold stepQ
   rw [if_neg h, e, Int.toNat_natCast]
 have hml := mayN_len c l (lsN c.since l c.since.length)
 obtain ⟨Z, hZ⟩ : ∃ Z, Z = stepQ N c l d := ⟨_, rfl⟩
 rw [← hZ] at hS0 hS1 ⊢
 obtain ⟨last, hlast⟩ : ∃ last, last = lsN c.since l c.since.length := ⟨_, rfl⟩
 rw [← hlast] at hL hin hS0 hS1 hml
 clear hZ hlast
 refine ASpec.of Tryz.func50 rfl rfl fun C hC => ?_
 refine AC.seq (AC.region ?_)
 refine AL.q (by exact h_alloc rfl) rfl ?_
 refine AL.p (by exact as1 rfl) rfl ?_
 refine AL.nil (th_n (AC.seq (AC.region ?_)))
 refine AL.p (by exact mv3 rfl) rfl ?_
 refine AL.p (by exact mv1 rfl) rfl ?_
 refine AL.q (by exact h_fun (cs := [0, 1]) en_lkLast rfl rfl (by repeat (first | exact rfl | exact DLead.same | refine ⟨_, _, rfl, ?_, ?_⟩ | refine ⟨_, rfl, ?_⟩)) (by repeat (first | exact True.intro | refine And.intro ?_ ?_ | exact DLead.same | exact rfl | refine ⟨_, _, rfl, rfl, ?_⟩ | refine ⟨_, rfl, ?_⟩ | refine ⟨_, _, rfl, ?_, ?_⟩)) hL rfl rfl rfl rfl) rfl ?_
 refine AL.p (by exact as1 rfl) rfl ?_
 refine AL.nil (th_n (AC.seq (AC.region ?_)))
 refine AL.p (by exact as1 rfl) rfl ?_
 refine AL.nil (th_n (AC.seq (AC.seq (AC.region ?_))))
 refine AL.p (by exact mv3 rfl) rfl ?_
 refine AL.p (by exact g_nilP rfl) rfl ?_
 refine AL.p (by exact g_fa_ptr rfl rfl rfl rfl rfl) rfl ?_
 refine AL.p (by exact g_load_ptr rfl rfl rfl rfl rfl) rfl ?_
 refine AL.p (by exact g_len_own (sz := 1) (els := []) (e' := 0) rfl rfl (by simp only [maxLen]; omega)) rfl ?_
 refine AL.p (by exact mv1 rfl) rfl ?_
 refine AL.nil (th_n (AC.block ?_))
 refine AC.loop (ι := Nat) (fun k => ⟨82, 900, [(0, .ptr 0 0), (1, .d (vDls l)), (2, aI d), (6, .ptr 101 0), (8, aI last), (9, .own 100 (mayN c l last k).length), (20, .own 1 c.since.length), (21, aI c.since.length), (22, aI k)], chL (lkChs N c 0 1) ++ [(100, some (.arr 46 2 (tfL (mayN c l last k)))), (101, some (.cells 46 [aI 0, aI 0]))]⟩) (fun k => k ≤ c.since.length) (fun k => c.since.length - k) (0) ?_ (Nat.zero_le _) ?_
 ·exact (Weak.nilOwn (i := 9) (e := 46) (sz := 2) rfl (by decide)).trans (Weak.ren _ [(100, _), (101, _)] hC rfl (by repeat (first | exact True.intro | refine And.intro ?_ ?_ | exact DLead.same | exact rfl | refine ⟨_, rfl, ?_⟩)) (by repeat (first | exact True.intro | refine And.intro ?_ ?_ | exact DLead.same | exact rfl | refine ⟨_, _, rfl, rfl, ?_⟩ | refine ⟨_, rfl, ?_⟩ | refine ⟨_, _, rfl, ?_, ?_⟩)) rfl rfl rfl)
 ·intro k hk
  refine AC.seq (AC.region ?_)
  refine AL.p (by exact g_cmp rfl rfl rfl) rfl ?_
  refine AL.nil (th_n (AC.seq ?_))
  refine AC.condD rfl (fun h0 => ?_) (fun h0 => ?_)
  ·refine AC.skip (th_n (AC.seq (AC.block (AC.seq ?_))))
   have hk1 : k < c.since.length := by omega
   have hrow := ints_iAt hk1
   have hget := dlL_get (l := l) (k := k) (by rw [hb.e]; exact hk1)
   have hbd := hb.at hk1
   have hmk := hml k
   have hMo := l1Most_spec (iAt c.since k + (dAt l k).low) c.now
   rw [show max (iAt c.since k + (dAt l k).low) c.now = earI c l k from rfl] at hMo
   have hY : 0 ≤ iAt c.since k → earI c l k ≤ last → mayN c l last (k + 1) = mayN c l last k ++ [⟨earI c l k, k⟩] := fun h h' => by rw [mayN, if_pos ⟨h, h'⟩]
   have hN : ¬ (0 ≤ iAt c.since k ∧ earI c l k ≤ last) → mayN c l last (k + 1) = mayN c l last k := fun h => by rw [mayN, if_neg h]
   obtain ⟨ea, hea⟩ : ∃ ea, ea = earI c l k := ⟨_, rfl⟩
   rw [← hea] at hMo hY hN
   refine AC.region ?_
   refine AL.p (by exact mv1 rfl) rfl ?_
   refine AL.p (by exact g_ia_own (i := k) (l := c.since.length) rfl rfl rfl rfl rfl rfl hk1 (Nat.mul_one _)) rfl ?_
   refine AL.p (by exact g_load_arr1 rfl rfl rfl rfl (by assumption)) rfl ?_
   refine AL.p (by exact as1 rfl) rfl ?_
   refine AL.p (by exact as1 rfl) rfl ?_
   refine AL.nil (th_n (AC.seq ?_))
   refine AC.drawn' mixed_ok [[], [], [], [1,2], [1,2,3], [1,2,3,4], [0,1,2,3,4,5], [], [7], [7,8], [7,8,9], [0,1,2,3,4,5,6,7,8,9,10], [0,1,2,3,4,5,6,7,8,9,10,11]] (by decide) ?_
   refine DF.op 0 [] 13 rfl rfl rfl (.free rfl (NOp.of (by exact mv1 rfl))) rfl ?_
   refine DF.op 1 [] 13 rfl rfl rfl (.free rfl (NOp.of (by exact mv1 rfl))) rfl ?_
   refine DF.op 2 [] 13 rfl rfl rfl (.free rfl (NOp.of (by exact mv1 rfl))) rfl ?_
   refine DF.op 3 [1,2] 13 rfl rfl rfl (.free rfl (NOp.of (by exact g_ia_view rfl rfl rfl rfl rfl (by rfl) (by assumption)))) rfl ?_
   refine DF.op 4 [1,2,3] 13 rfl rfl rfl (.free rfl (NOp.of (by exact g_fa_ref rfl rfl rfl rfl rfl rfl))) rfl ?_
   refine DF.op 5 [1,2,3,4] 13 rfl rfl rfl (.free rfl (NOp.of (by exact g_load_ref rfl rfl rfl))) rfl ?_
   refine DF.op 6 [0,1,2,3,4,5] 13 rfl rfl rfl (.free rfl (NOp.of (by exact g_arith rfl rfl rfl (by exact wrap_i64 (by omega))))) rfl ?_
   refine DF.op 7 [] 13 rfl rfl rfl (.free rfl (NOp.of (by exact mv3 rfl))) rfl ?_
   refine DF.op 8 [7] 13 rfl rfl rfl (.free rfl (NOp.of (by exact g_nilP rfl))) rfl ?_
   refine DF.op 9 [7,8] 13 rfl rfl rfl (.free rfl (NOp.of (by exact g_fa_ptr rfl rfl rfl rfl rfl))) rfl ?_
   refine DF.op 10 [7,8,9] 13 rfl rfl rfl (.free rfl (NOp.of (by exact g_load_ptr rfl rfl rfl rfl rfl))) rfl ?_
   refine DF.op 11 (List.range 11) 13 rfl rfl rfl (.free rfl (by exact h_pure en_l1Most rfl rfl (by repeat (first | exact rfl | exact DLead.same | refine ⟨_, _, rfl, ?_, ?_⟩)) hMo rfl)) rfl ?_
   refine DF.op 12 (List.range 12) 13 rfl rfl rfl (.free rfl (NOp.of (by exact as1 rfl))) rfl ?_
   refine DF.fin (ps := [(0,1),(0,2),(0,3),(0,4),(0,5),(0,7),(0,8),(0,9),(0,10),(1,0),(1,2),(1,7),(1,8),(1,9),(1,10),(2,0),(2,1),(2,7),(2,8),(2,9),(2,10),(3,0),(3,7),(3,8),(3,9),(3,10),(4,0),(4,7),(4,8),(4,9),(4,10),(5,0),(5,7),(5,8),(5,9),(5,10),(6,7),(6,8),(6,9),(6,10),(7,0),(7,1),(7,2),(7,3),(7,4),(7,5),(7,6),(8,0),(8,1),(8,2),(8,3),(8,4),(8,5),(8,6),(9,0),(9,1),(9,2),(9,3),(9,4),(9,5),(9,6),(10,0),(10,1),(10,2),(10,3),(10,4),(10,5),(10,6)]) 13 rfl (by decide +kernel) (by decide +kernel) (by rfl) ?_
   refine th_n (AC.seq (AC.region ?_))
   refine AL.p (by exact mv1 rfl) rfl ?_
   refine AL.p (by exact g_cmp rfl rfl rfl) rfl ?_
   refine AL.p (by exact mv1 rfl) rfl ?_
   refine AL.caseG rfl rfl (fun h1 => ?_) (fun h1 => ?_)
   ·refine AL.yes rfl rfl rfl ?_
    refine AL.p (by exact mv1 rfl) rfl ?_
    refine AL.yes rfl rfl rfl ?_
    refine AL.p (by exact mv1 rfl) rfl ?_
    refine AL.yes rfl rfl rfl ?_
    refine AL.p (by exact g_cmp rfl rfl rfl) rfl ?_
    refine AL.p (by exact g_pickT (r := .d _) rfl rfl) rfl ?_
    refine AL.nil (th_n ?_)
    refine AC.condD rfl (fun h2 => ?_) (fun h2 => ?_)
    ·refine AC.region ?_
     refine AL.p (by exact mv2 rfl) rfl ?_
     refine AL.p (by exact mv1 rfl) rfl ?_
     refine AL.p (by exact mv1 rfl) rfl ?_
     refine AL.p (by exact g_build rfl rfl rfl) rfl ?_
     refine AL.q (by exact h_litF rfl rfl rfl rfl rfl rfl rfl rfl) rfl ?_
     refine AL.q (by exact h_appendF (mayN c l last k) [⟨ea, k⟩] (.own rfl rfl (tfL_len _).symm) (.view rfl) (by rw [List.length_append]; simp only [List.length_cons, List.length_nil]; omega) (by simp)) rfl ?_
     refine AL.p (by exact as2 rfl) rfl ?_
     refine AL.nil (ib_n (th_n (AC.region ?_)))
     refine AL.p (by exact g_arith rfl rfl rfl (by exact wrap_i64 (by omega))) rfl ?_
     refine AL.p (by exact mv1 rfl) rfl ?_
     refine AL.nil (th_n ?_)
     (have e := hY h1 h2; exact ⟨k + 1, by omega, by omega, Weak.ren _ [(100, _), (101, 101)] hC rfl (by rw [e]; repeat (first | exact True.intro | refine And.intro ?_ ?_ | exact DLead.same | exact rfl | refine ⟨_, rfl, ?_⟩)) (by rw [e]; repeat (first | exact True.intro | refine And.intro ?_ ?_ | exact DLead.same | exact rfl | refine ⟨_, _, rfl, rfl, ?_⟩ | refine ⟨_, rfl, ?_⟩ | refine ⟨_, _, rfl, ?_, ?_⟩)) rfl rfl rfl⟩)
    ·refine AC.skip (ib_n (th_n (AC.region ?_)))
     refine AL.p (by exact g_arith rfl rfl rfl (by exact wrap_i64 (by omega))) rfl ?_
     refine AL.p (by exact mv1 rfl) rfl ?_
     refine AL.nil (th_n ?_)
     (have e := hN (fun q => h2 q.2); exact ⟨k + 1, by omega, by omega, Weak.ren _ [(100, _), (101, 101)] hC rfl (by rw [e]; repeat (first | exact True.intro | refine And.intro ?_ ?_ | exact DLead.same | exact rfl | refine ⟨_, rfl, ?_⟩)) (by rw [e]; repeat (first | exact True.intro | refine And.intro ?_ ?_ | exact DLead.same | exact rfl | refine ⟨_, _, rfl, rfl, ?_⟩ | refine ⟨_, rfl, ?_⟩ | refine ⟨_, _, rfl, ?_, ?_⟩)) rfl rfl rfl⟩)
   ·refine AL.not rfl rfl rfl rfl rfl ?_
    refine AL.not rfl rfl rfl rfl rfl ?_
    refine AL.not rfl rfl rfl rfl rfl ?_
    refine AL.p (by exact g_pickF (r := .d _) rfl rfl) rfl ?_
    refine AL.nil (th_n ?_)
    refine AC.condF rfl ?_
    refine AC.skip (ib_n (th_n (AC.region ?_)))
    refine AL.p (by exact g_arith rfl rfl rfl (by exact wrap_i64 (by omega))) rfl ?_
    refine AL.p (by exact mv1 rfl) rfl ?_
    refine AL.nil (th_n ?_)
    (have e := hN (fun q => h1 q.1); exact ⟨k + 1, by omega, by omega, Weak.ren _ [(100, _), (101, 101)] hC rfl (by rw [e]; repeat (first | exact True.intro | refine And.intro ?_ ?_ | exact DLead.same | exact rfl | refine ⟨_, rfl, ?_⟩)) (by rw [e]; repeat (first | exact True.intro | refine And.intro ?_ ?_ | exact DLead.same | exact rfl | refine ⟨_, _, rfl, rfl, ?_⟩ | refine ⟨_, rfl, ?_⟩ | refine ⟨_, _, rfl, ?_, ?_⟩)) rfl rfl rfl⟩)
  ·refine AC.exit (th_e (th_e (ib_y (th_n (AC.seq (AC.seq ?_))))))
   have hkk : k = c.since.length := by omega
   subst hkk
   have hmk := hml c.since.length
   obtain ⟨may, hmay⟩ : ∃ may, may = mayN c l last c.since.length := ⟨_, rfl⟩
   rw [← hmay] at hS0 hS1 hmk ⊢
   refine AC.region ?_
   refine AL.p (by exact mv2 rfl) rfl ?_
   refine AL.p (by exact g_len_own (sz := 1) (els := []) (e' := 0) rfl rfl (by simp only [maxLen]; omega)) rfl ?_
   refine AL.p (by exact g_cmp rfl rfl rfl) rfl ?_
   refine AL.nil (th_n ?_)
   refine AC.condD rfl (fun h1 => ?_) (fun h1 => ?_)
   ·refine AC.seq (AC.region ?_)
    refine AL.p (by exact g_build rfl rfl rfl) rfl ?_
    refine AL.q (by exact h_store rfl rfl rfl rfl rfl rfl) rfl ?_
    refine AL.p (by exact as1 rfl) rfl ?_
    refine AL.nil (th_n (AC.ret (th_r (bq_r ?_))))
    have e := hS0 (List.eq_nil_of_length_eq_zero (by omega))
    exact retF rfl (by rw [e]; repeat (first | exact DLead.same | exact rfl | refine ⟨_, rfl, ?_⟩ | refine ⟨_, _, rfl, ?_, ?_⟩)) (by rw [e]; repeat (first | exact True.intro | refine And.intro ?_ ?_ | exact DLead.same | exact rfl | refine ⟨_, _, rfl, rfl, ?_⟩ | refine ⟨_, rfl, ?_⟩ | refine ⟨_, _, rfl, ?_, ?_⟩)) rfl
   ·refine AC.skip (th_n (AC.seq ?_))
    obtain ⟨u, hu, hea, hxg, hZe⟩ := hS1 (fun q => h1 (by rw [q]; rfl))
    have hpos : (0 : Int) < may.length := by omega
    have h5 := Int.tmod_nonneg (may.length : Int) hdr.1
    have h6 := Int.tmod_lt_of_pos d hpos
    have hlt : (d.tmod may.length).toNat < may.length := by omega
    have hI2 : d.tmod may.length = ((d.tmod may.length).toNat : Int) := by omega
    have hxrow : (tfL may)[(d.tmod may.length).toNat]? = some [dI (earI c l u), dI ((u : Nat) : Int)] := by rw [List.getElem?_map, hxg]; rfl
    obtain ⟨ea, heaE⟩ : ∃ ea, ea = earI c l u := ⟨_, rfl⟩
    rw [← heaE] at hea hxrow hZe
    have h7 := Int.tmod_nonneg (last - ea + 1) hdr.1
    have h8 := Int.tmod_lt_of_pos d (show 0 < last - ea + 1 by omega)
    have hFi := lkFire_spec N c u (ea + d.tmod (last - ea + 1)) hB hgn hI.m hI.len hu
    obtain ⟨F, hF⟩ : ∃ F, F = fireQ N c u (ea + d.tmod (last - ea + 1)) := ⟨_, rfl⟩
    rw [← hF] at hFi hZe
    refine AC.region ?_
    refine AL.p (by exact mv2 rfl) rfl ?_
    refine AL.p (by exact mv1 rfl) rfl ?_
    refine AL.p (by exact mv2 rfl) rfl ?_
    refine AL.p (by exact g_len_own (sz := 1) (els := []) (e' := 0) rfl rfl (by simp only [maxLen]; omega)) rfl ?_
    refine AL.p (by exact g_rem (c := d.tmod may.length) rfl rfl (by omega) rfl) rfl ?_
    refine AL.p (by exact g_ia_own (i := (d.tmod may.length).toNat) (l := may.length) rfl rfl rfl rfl rfl hI2 hlt rfl) rfl ?_
    refine AL.p (by exact g_load_arrN (i := (d.tmod may.length).toNat) rfl rfl rfl rfl rfl rfl hxrow) rfl ?_
    refine AL.q (by exact h_alloc rfl) rfl ?_
    refine AL.q (by exact h_store rfl rfl rfl rfl rfl rfl) rfl ?_
    refine AL.nil (th_n (AC.seq ?_))
    refine AC.drawn' mixed_ok [[], [0], [], [], [], [4], [3,4,5], [3,4,5,6], [2,3,4,5,6,7], [0,1,2,3,4,5,6,7,8], [0,1,2,3,4,5,6,7,8,9], [0,1,2,3,4,5,6,7,8,9,10]] (by decide) ?_
    refine DF.op 0 [] 12 rfl rfl rfl (.free rfl (NOp.of (by exact g_fa_ptr rfl rfl rfl rfl rfl))) rfl ?_
    refine DF.op 1 [0] 12 rfl rfl rfl (.free rfl (NOp.of (by exact g_load_ptr rfl rfl rfl rfl rfl))) rfl ?_
    refine DF.op 2 [] 12 rfl rfl rfl (.free rfl (NOp.of (by exact mv1 rfl))) rfl ?_
    refine DF.op 3 [] 12 rfl rfl rfl (.free rfl (NOp.of (by exact mv1 rfl))) rfl ?_
    refine DF.op 4 [] 12 rfl rfl rfl (.free rfl (NOp.of (by exact g_fa_ptr rfl rfl rfl rfl rfl))) rfl ?_
    refine DF.op 5 [4] 12 rfl rfl rfl (.free rfl (NOp.of (by exact g_load_ptr rfl rfl rfl rfl rfl))) rfl ?_
    refine DF.op 6 [3,4,5] 12 rfl rfl rfl (.free rfl (NOp.of (by exact g_arith rfl rfl rfl (by exact wrap_i64 (by omega))))) rfl ?_
    refine DF.op 7 [3,4,5,6] 12 rfl rfl rfl (.free rfl (NOp.of (by exact g_arith rfl rfl rfl (by exact wrap_i64 (by omega))))) rfl ?_
    refine DF.op 8 [2,3,4,5,6,7] 12 rfl rfl rfl (.free rfl (NOp.of (by exact g_rem (c := d.tmod (last - ea + 1)) rfl rfl (by omega) rfl))) rfl ?_
    refine DF.op 9 (List.range 9) 12 rfl rfl rfl (.free rfl (NOp.of (by exact g_arith rfl rfl rfl (by exact wrap_i64 (by omega))))) rfl ?_
    refine DF.op 10 (List.range 10) 12 rfl rfl rfl (.free rfl (NOp.of (by exact g_fa_ptr rfl rfl rfl rfl rfl))) rfl ?_
    refine DF.op 11 (List.range 11) 12 rfl rfl rfl (.free rfl (by exact h_store rfl rfl rfl rfl rfl rfl)) rfl ?_
    refine DF.fin (ps := [(0,2),(0,3),(0,4),(0,5),(0,6),(0,7),(0,8),(1,2),(1,3),(1,4),(1,5),(1,6),(1,7),(1,8),(2,0),(2,1),(2,3),(2,4),(2,5),(2,6),(2,7),(3,0),(3,1),(3,2),(3,4),(3,5),(4,0),(4,1),(4,2),(4,3),(5,0),(5,1),(5,2),(5,3),(6,0),(6,1),(6,2),(7,0),(7,1),(7,2),(8,0),(8,1)]) 12 rfl (by decide +kernel) (by decide +kernel) (by rfl) ?_
    refine th_n (AC.seq ?_)
    refine AC.drawn' mixed_ok [[], [], [], [2], [], [4], [1,2,3,4,5], [0,1,2,3,4,5,6], [0,1,2,3,4,5,6,7]] (by decide) ?_
    refine DF.op 0 [] 9 rfl rfl rfl (.free rfl (NOp.of (by exact g_load_ptrN rfl rfl rfl rfl rfl))) rfl ?_
    refine DF.op 1 [] 9 rfl rfl rfl (.free rfl (NOp.of (by exact mv3 rfl))) rfl ?_
    refine DF.op 2 [] 9 rfl rfl rfl (.free rfl (NOp.of (by exact g_fa_ptr rfl rfl rfl rfl rfl))) rfl ?_
    refine DF.op 3 [2] 9 rfl rfl rfl (.free rfl (NOp.of (by exact g_load_ptr rfl rfl rfl rfl rfl))) rfl ?_
    refine DF.op 4 [] 9 rfl rfl rfl (.free rfl (NOp.of (by exact g_fa_ptr rfl rfl rfl rfl rfl))) rfl ?_
    refine DF.op 5 [4] 9 rfl rfl rfl (.free rfl (NOp.of (by exact g_load_ptr rfl rfl rfl rfl rfl))) rfl ?_
    refine DF.op 6 [1,2,3,4,5] 9 rfl rfl rfl (.free rfl (by exact h_fun (cs := [0, 1]) en_lkFire rfl rfl (by repeat (first | exact rfl | exact DLead.same | refine ⟨_, _, rfl, ?_, ?_⟩ | refine ⟨_, rfl, ?_⟩)) (by repeat (first | exact True.intro | refine And.intro ?_ ?_ | exact DLead.same | exact rfl | refine ⟨_, _, rfl, rfl, ?_⟩ | refine ⟨_, rfl, ?_⟩ | refine ⟨_, _, rfl, ?_, ?_⟩)) hFi rfl rfl rfl rfl)) rfl ?_
    refine DF.op 7 [0,1,2,3,4,5,6] 9 rfl rfl rfl (.free rfl (by exact h_store rfl rfl rfl rfl rfl rfl)) rfl ?_
    refine DF.op 8 [0,1,2,3,4,5,6,7] 9 rfl rfl rfl (.free rfl (NOp.of (by exact as1 rfl))) rfl ?_
    refine DF.fin (ps := [(0,1),(0,2),(0,3),(0,4),(0,5),(0,6),(1,0),(1,2),(1,3),(1,4),(1,5),(2,0),(2,1),(2,4),(2,5),(3,0),(3,1),(3,4),(3,5),(4,0),(4,1),(4,2),(4,3),(5,0),(5,1),(5,2),(5,3),(6,0)]) 9 rfl (by decide +kernel) (by decide +kernel) (by rfl) ?_
    refine th_n (AC.ret (bq_r ?_))
    exact retF rfl (by rw [hZe]; repeat (first | exact DLead.same | exact rfl | refine ⟨_, rfl, ?_⟩ | refine ⟨_, _, rfl, ?_, ?_⟩)) (by rw [hZe]; repeat (first | exact True.intro | refine And.intro ?_ ?_ | exact DLead.same | exact rfl | refine ⟨_, _, rfl, rfl, ?_⟩ | refine ⟨_, rfl, ?_⟩ | refine ⟨_, _, rfl, ?_, ?_⟩)) rfl
theorem en_lkStep : Enters Tryz.prog 50 := enters_of Tryz.func50 rfl rfl
end Go.Proofs.YtmacodlgmebikaaGreatDoor
