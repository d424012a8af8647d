/- Contracts of the functions of the program and of the reference, each proved by a walk through its code. -/
import Derived.WalkKit
import Derived.WalkSpells
import Derived.WalkLawsBesides
import Derived.Deep.Draws
import Derived.Lib.Hide
import Derived.Maps.AppendAt
import Derived.OwnWalk
import Derived.Deep.MidRow
import Derived.Laws.ResultCell
import Derived.Deep.Upon
import Derived.Great.FillDense
import Derived.Laws.Tables
import Derived.Laws.BytesArg
import Derived.Laws.MakeOwn
import Derived.Great.BuildSlice
import Derived.ArgAppend
import Derived.Deep.AppendSrc
import Derived.Test.YthafkkgmekgmoaaGreatProg
import Derived.KernelRfl
import Derived.Orders
import Derived.Laws.IdiomStrings
import Derived.Lib.AppendZerosOnto
import Derived.ProofKit
import Derived.OpenShut
import Derived.Lib.SliceRun
import Derived.Laws.StructEq
import Derived.ChangeKeysEq
import Derived.Sort.Grow
import Derived.Laws.RangeString
import Derived.Below
import Derived.Laws.Small
import Derived.MapKept
import Derived.WideMake
import Derived.Laws.IdiomCopy
import Derived.Shelf.Bits.Mul64
import Derived.Test.YthafkkgmekgmoaaGreatRows
import Derived.Test.YthafkkgmekgmoaaGreatGWy8
set_option linter.all false
set_option maxRecDepth 20000
namespace Go.Proofs.YthafkkgmekgmoaaGreat
open Go.RowKit
abbrev boolL (c : List Bool) : List (List DV) := c.map fun b => [dT b]
theorem boolL_len (c : List Bool) : (boolL c).length = c.length := List.length_map _
theorem boolL_get {c : List Bool} {v : Nat} (h : v < c.length) : (boolL c)[v]? = some [dT (canAt c v)] := by
 rw [List.getElem?_map, List.getElem?_eq_getElem h]
 unfold canAt
 rw [List.getD_eq_getElem?_getD, List.getElem?_eq_getElem h]; rfl
theorem boolL_set (c : List Bool) (v : Nat) : boolL (c.set v true) = (boolL c).set v [dT true] := by unfold boolL; rw [List.map_set]
theorem boolL_rep (n : Nat) : List.replicate n (([ZK.bool] : List ZK).map fun z => DV.val z.val) = boolL (List.replicate n false) := by unfold boolL; rw [List.map_replicate]; rfl
noncomputable def backB (x : Ex) (s : Nat) : List Bool := (List.range x.marks.length).map fun v => decide (0 ≤ oa (distF (swapE (edgesR x)) x.marks.length s) v)
theorem backB_eq {c : List Bool} {n : Nat} {f : Nat → Bool} (hl : c.length = n) (h : ∀ v, canAt c v = f v) : c = (List.range n).map f := by
 refine List.ext_getElem? fun v => ?_
 rcases Nat.lt_or_ge v n with g | g
 ·rw [List.getElem?_map, List.getElem?_range g, List.getElem?_eq_getElem (by omega)]
  have := h v
  unfold canAt at this
  rw [List.getD_eq_getElem?_getD, List.getElem?_eq_getElem (by omega)] at this
  exact congrArg some this
 ·rw [List.getElem?_eq_none (by omega), List.getElem?_eq_none (by simpa using g)]
set_option maxHeartbeats 8000000 in
theorem l4Back_spec (x : Ex) (s : Nat) (hs : s < x.marks.length) (h1l : x.marks.length ≤ 100000) (h2l : x.moves.length ≤ 1000000) (hp : ∀ v, v ∈ x.moves → (0 ≤ v.from_ ∧ v.from_ < x.marks.length) ∧ 0 ≤ v.to_ ∧ v.to_ < x.marks.length) : ASpec Tryz.prog 123 [rgA x, aI s] [] (Pure1 (.d (.view 4 1 (boolL (backB x s))))) := by
 have hE := edgesR_in hp
 have hD := dist_ex hs (swapE_in hE)
 have hle := fun v => (distF_le hs (swapE_in hE) v).2
 have hB0 := BackI.start hs hD
 have hel := edgesR_len x
 have hEg : ∀ j (hj : j < x.moves.length), (edgesR x)[j]'(by rw [hel]; exact hj) = (x.moves[j].from_.toNat, x.moves[j].to_.toNat) := fun j hj => edgesR_get hj
 have hbk : backB x s = (List.range x.marks.length).map fun v => decide (0 ≤ oa (distF (swapE (edgesR x)) x.marks.length s) v) := rfl
 obtain ⟨n, hn⟩ : ∃ n, n = x.marks.length := ⟨_, rfl⟩
 rw [← hn] at hs h1l hB0 hp hD hle hbk
 obtain ⟨o, ho⟩ : ∃ o, o = distF (swapE (edgesR x)) n s := ⟨_, rfl⟩
 rw [← ho] at hB0 hD hbk
 simp only [← ho] at hle
 obtain ⟨E, hEE⟩ : ∃ E, E = edgesR x := ⟨_, rfl⟩
 simp only [← hEE] at hB0 hel hEg hD
 clear ho hE
 refine ASpec.of Tryz.func123 rfl rfl fun C hC => ?_
 refine AC.seq (AC.region ?_)
 refine AL.q (by exact h_boxF rfl rfl) rfl ?_
 refine AL.p (by exact as1 rfl) rfl ?_
 refine AL.nil (th_n (AC.seq (AC.region ?_)))
 refine AL.p (by exact g_fa_ref rfl rfl rfl rfl rfl rfl) rfl ?_
 refine AL.p (by exact g_load_ref rfl rfl rfl) rfl ?_
 refine AL.p (by exact g_len_view (k := n) rfl rfl (by rw [hn]; exact tsX_len _)) rfl ?_
 refine AL.q (by exact h_make (k := n) rfl rfl rfl rfl rfl rfl rfl rfl (by show 1 * n ≤ _; omega) (by omega)) rfl ?_
 rw [show (List.replicate n (([ZK.bool] : List ZK).map fun z => DV.val z.val)) = boolL (List.replicate n false) from boolL_rep n]
 have hr0 : (boolL (List.replicate n false))[s]? = some [dT (canAt (List.replicate n false) s)] := boolL_get (by simpa using hs)
 refine AL.p (by exact as2 rfl) rfl ?_
 refine AL.nil (th_n (AC.seq (AC.region ?_)))
 refine AL.p (by exact mv2 rfl) rfl ?_
 refine AL.p (by exact mv1 rfl) rfl ?_
 refine AL.p (by exact g_ia_own (i := s) (l := n) rfl rfl rfl rfl rfl rfl hs rfl) rfl ?_
 refine AL.q (by exact h_store_arr (i := s) (j := 0) (d := dT true) rfl rfl rfl rfl .same rfl hr0 (by decide)) rfl ?_
 refine AL.nil (th_n (AC.seq (AC.seq (AC.region ?_))))
 refine AL.p (by exact g_fa_ref rfl rfl rfl rfl rfl rfl) rfl ?_
 refine AL.p (by exact g_load_ref rfl rfl rfl) rfl ?_
 refine AL.p (by exact g_len_view (k := n) rfl rfl (by rw [hn]; exact tsX_len _)) rfl ?_
 refine AL.p (by exact mv1 rfl) rfl ?_
 refine AL.nil (th_n (AC.block ?_))
 refine AC.loop (ι := List Bool × Nat) (fun y => ⟨39, 600, [(2, .d (.ref (rgD x))), (5, .own 100 n), (17, aI n), (18, aI y.2)], [(100, some (.arr 4 1 (boolL y.1)))]⟩) (fun y => BackI E n s o y.1 y.2 0 ∧ y.2 ≤ n) (fun y => n - y.2) (((List.replicate n false).set s true, 0)) ?_ (⟨hB0, Nat.zero_le _⟩) ?_
 ·exact Weak.ren _ [(100, _)] hC rfl (by repeat (first | exact True.intro | refine And.intro ?_ ?_ | exact DLead.same | exact rfl | refine ⟨_, rfl, ?_⟩)) (by rw [boolL_set]; repeat (first | exact True.intro | refine And.intro ?_ ?_ | exact rfl | refine ⟨_, _, rfl, rfl, ?_⟩)) rfl rfl rfl
 ·rintro ⟨c, r⟩ ⟨hB, hr⟩
  dsimp only at hB hr ⊢
  refine AC.seq (AC.region ?_)
  refine AL.p (by exact g_cmp rfl rfl rfl) rfl ?_
  refine AL.nil (th_n (AC.seq ?_))
  refine AC.condD rfl (fun h0 => ?_) (fun h0 => ?_)
  ·refine AC.skip (th_n (AC.seq (AC.block (AC.seq (AC.region ?_)))))
   refine AL.p (by exact g_fa_ref rfl rfl rfl rfl rfl rfl) rfl ?_
   refine AL.p (by exact g_load_ref rfl rfl rfl) rfl ?_
   refine AL.p (by exact g_len_view (k := x.moves.length) rfl rfl (mvL_len _)) rfl ?_
   refine AL.p (by exact mv1 rfl) rfl ?_
   refine AL.nil (th_n (AC.block ?_))
   refine AC.loop (ι := List Bool × Nat) (fun y => ⟨39, 900, [(2, .d (.ref (rgD x))), (5, .own 100 n), (17, aI n), (18, aI r), (21, .d (vMvs x.moves)), (22, aI x.moves.length), (23, aI y.2)], [(100, some (.arr 4 1 (boolL y.1)))]⟩) (fun y => BackI E n s o y.1 r y.2 ∧ y.2 ≤ x.moves.length) (fun y => x.moves.length - y.2) ((c, 0)) ?_ (⟨hB, Nat.zero_le _⟩) ?_
   ·exact Weak.ren _ [(100, 100)] hC rfl (by repeat (first | exact True.intro | refine And.intro ?_ ?_ | exact DLead.same | exact rfl | refine ⟨_, rfl, ?_⟩)) (by repeat (first | exact True.intro | refine And.intro ?_ ?_ | exact rfl | refine ⟨_, _, rfl, rfl, ?_⟩)) rfl rfl rfl
   ·rintro ⟨c, j⟩ ⟨hB, hj⟩
    dsimp only at hB hj ⊢
    have hcl := hB.len
    refine AC.seq (AC.region ?_)
    refine AL.p (by exact g_cmp rfl rfl rfl) rfl ?_
    refine AL.nil (th_n (AC.seq ?_))
    refine AC.condD rfl (fun h1 => ?_) (fun h1 => ?_)
    ·refine AC.skip (th_n (AC.seq (AC.block (AC.seq ?_))))
     have hj1 : j < x.moves.length := by omega
     have hjE : j < E.length := by omega
     have hget := mvL_get hj1
     have hpv := hp _ (List.getElem_mem hj1)
     have heg := hEg j hj1
     have hno := hB.no hjE
     have hye := hB.yes hD hjE
     rw [heg] at hno hye
     dsimp only at hno hye
     obtain ⟨v, hv⟩ : ∃ v, v = x.moves[j] := ⟨_, rfl⟩
     rw [← hv] at hget hpv hno hye
     clear hv heg
     obtain ⟨f, hf⟩ : ∃ f, f = v.from_.toNat := ⟨_, rfl⟩
     obtain ⟨t, ht⟩ : ∃ t, t = v.to_.toNat := ⟨_, rfl⟩
     rw [← ht] at hno
     rw [← hf, ← ht] at hye
     have e1 : v.from_ = (f : Int) := by omega
     have e2 : v.to_ = (t : Int) := by omega
     rw [e1, e2] at hget
     have hye2 := hye (by omega)
     have hct := boolL_get (c := c) (v := t) (by omega)
     have hcf := boolL_get (c := c) (v := f) (by omega)
     obtain ⟨b, hb⟩ : ∃ b, b = canAt c t := ⟨_, rfl⟩
     rw [← hb] at hno hye2 hct
     clear hye hb
     refine AC.region ?_
     refine AL.p (by exact g_ia_view rfl rfl rfl rfl rfl (by rfl) (by assumption)) rfl ?_
     refine AL.p (by exact g_load_refN rfl rfl rfl rfl) rfl ?_
     refine AL.q (by exact h_alloc rfl) rfl ?_
     refine AL.q (by exact h_store rfl rfl rfl rfl rfl rfl) rfl ?_
     refine AL.nil (th_n (AC.seq (AC.region ?_)))
     refine AL.p (by exact mv2 rfl) rfl ?_
     refine AL.p (by exact g_fa_ptr rfl rfl rfl rfl rfl) rfl ?_
     refine AL.p (by exact g_load_ptr rfl rfl rfl rfl rfl) rfl ?_
     refine AL.p (by exact g_ia_own (i := t) (l := n) rfl rfl rfl rfl rfl rfl (by omega) rfl) rfl ?_
     refine AL.p (by exact g_load_arr1 rfl rfl rfl rfl (by rw [Nat.mul_one]; exact hct)) rfl ?_
     refine AL.nil (th_n ?_)
     refine AC.condB rfl (fun h2 => ?_) (fun h2 => ?_)
     ·refine AC.region ?_
      refine AL.p (by exact mv2 rfl) rfl ?_
      refine AL.p (by exact g_fa_ptr rfl rfl rfl rfl rfl) rfl ?_
      refine AL.p (by exact g_load_ptr rfl rfl rfl rfl rfl) rfl ?_
      refine AL.p (by exact g_ia_own (i := f) (l := n) rfl rfl rfl rfl rfl rfl (by omega) rfl) rfl ?_
      refine AL.q (by exact h_store_arr (i := f) (j := 0) (d := dT true) rfl rfl rfl rfl .same rfl hcf (by decide)) rfl ?_
      refine AL.nil (ib_n (th_n (AC.region ?_)))
      refine AL.p (by exact g_arith rfl rfl rfl (by exact wrap_i64 (by omega))) rfl ?_
      refine AL.p (by exact mv1 rfl) rfl ?_
      refine AL.nil (th_n ?_)
      (have e := hye2 ‹b = true›; exact ⟨(c.set f true, j + 1), ⟨e, by dsimp only; omega⟩, by dsimp only; omega, Weak.ren _ [(100, 100)] hC rfl (by repeat (first | exact True.intro | refine And.intro ?_ ?_ | exact DLead.same | exact rfl | refine ⟨_, rfl, ?_⟩)) (by rw [boolL_set]; repeat (first | exact True.intro | refine And.intro ?_ ?_ | exact rfl | refine ⟨_, _, rfl, rfl, ?_⟩)) rfl rfl rfl⟩)
     ·refine AC.skip (ib_n (th_n (AC.region ?_)))
      refine AL.p (by exact g_arith rfl rfl rfl (by exact wrap_i64 (by omega))) rfl ?_
      refine AL.p (by exact mv1 rfl) rfl ?_
      refine AL.nil (th_n ?_)
      (have e := hno ‹b = false›; exact ⟨(c, j + 1), ⟨e, by dsimp only; omega⟩, by dsimp only; omega, Weak.ren _ [(100, 100)] hC rfl (by repeat (first | exact True.intro | refine And.intro ?_ ?_ | exact DLead.same | exact rfl | refine ⟨_, rfl, ?_⟩)) (by repeat (first | exact True.intro | refine And.intro ?_ ?_ | exact rfl | refine ⟨_, _, rfl, rfl, ?_⟩)) rfl rfl rfl⟩)
    ·refine AC.exit (th_e (th_e (ib_y (ib_n (th_n (AC.region ?_))))))
     refine AL.p (by exact g_arith rfl rfl rfl (by exact wrap_i64 (by omega))) rfl ?_
     refine AL.p (by exact mv1 rfl) rfl ?_
     refine AL.nil (th_n ?_)
     have e := hB.next hD (by omega)
     exact ⟨(c, r + 1), ⟨e, by dsimp only; omega⟩, by dsimp only; omega, Weak.ren _ [(100, 100)] hC rfl (by repeat (first | exact True.intro | refine And.intro ?_ ?_ | exact DLead.same | exact rfl | refine ⟨_, rfl, ?_⟩)) (by repeat (first | exact True.intro | refine And.intro ?_ ?_ | exact rfl | refine ⟨_, _, rfl, rfl, ?_⟩)) rfl rfl rfl⟩
  ·refine AC.exit (th_e (th_e (ib_y (th_n (AC.seq ?_)))))
   have hrn : r = n := by omega
   rw [hrn] at hB
   have hcl := hB.len
   have hce := backB_eq hcl (fun v => hB.all hle v)
   rw [← hbk] at hce
   rw [← hce]
   refine AC.weak (Weak.freeze (i := 5) rfl rfl (by rw [boolL_len, hcl]; exact Nat.le_refl _) (List.take_of_length_le (by rw [boolL_len, hcl]; exact Nat.le_refl _))) ?_
   refine AC.region ?_
   refine AL.p (by exact mv1 rfl) rfl ?_
   refine AL.p (by exact as1 rfl) rfl ?_
   refine AL.nil (th_n (AC.ret (bq_r ?_)))
   exact ret1 rfl rfl
theorem en_l4Back : Enters Tryz.prog 123 := enters_of Tryz.func123 rfl rfl
theorem home_any {x : Ex} (hg : goodR x = true) {k : Nat} (hk : k < x.marks.length) : ((distF (swapE (edgesR x)) x.marks.length k).any fun v => decide (-1 = v)) = !homeB x k := by
 have hE := swapE_in (goodR_edges hg)
 have hD := dist_ex hk hE
 have hlen := hD.len
 have hlo := hD.lo
 unfold homeB
 rw [Bool.eq_iff_iff, List.any_eq_true, Bool.not_eq_true', List.all_eq_false]
 constructor
 ·rintro ⟨v, hv, h⟩
  obtain ⟨i, hi, rfl⟩ := List.getElem_of_mem hv
  rw [decide_eq_true_eq] at h
  exact ⟨i, List.mem_range.2 (by omega), by rw [decide_eq_true_eq, oa_get hi]; omega⟩
 ·rintro ⟨i, hi, h⟩
  have hi2 := List.mem_range.1 hi
  rw [decide_eq_true_eq] at h
  have := hlo i
  exact ⟨_, List.getElem_mem (show i < _ by omega), by rw [decide_eq_true_eq, ← oa_get (by omega)]; omega⟩
theorem swapE_take {E : List (Nat × Nat)} {j : Nat} (h : j < E.length) : swapE (E.take (j + 1)) = swapE (E.take j) ++ [(E[j].2, E[j].1)] := by
 unfold swapE
 rw [List.take_add_one, List.getElem?_eq_getElem h, List.map_append]; rfl
set_option maxHeartbeats 8000000 in
theorem iHome_spec (x : Ex) (h1l : x.marks.length ≤ 100000) (h2l : x.moves.length ≤ 1000000) : ASpec Tryz.prog 30 [rgA x] [] (Pure1 (.tup [.d (vI (homeR x).1), aT (homeR x).2])) := by
 have hV := iIsReach_spec x (by omega) h2l
 have hS := fun h : goodR x = true => stepsOf_spec x (by omega) h2l (fun v hv => by have := goodR_moves h v hv; omega)
 have hD := fun (h : goodR x = true) (k : Nat) (hk : k < x.marks.length) => distances_spec (swapE (edgesR x)) x.marks.length k hk h1l (by rw [swapE_len, edgesR_len]; exact h2l) (swapE_in (goodR_edges h))
 have hCt := fun (h : goodR x = true) (k : Nat) (hk : k < x.marks.length) => Contains_spec (distF (swapE (edgesR x)) x.marks.length k) (by rw [(dist_ex hk (swapE_in (goodR_edges h))).len]; omega) (-1)
 have hAny := fun (h : goodR x = true) (k : Nat) (hk : k < x.marks.length) => home_any h hk
 have hR : homeR x = if goodR x = true then (homeL x x.marks.length, true) else ([], false) := rfl
 have hHs := homeL_succ x
 have hHl := homeL_len x
 have hel := edgesR_len x
 obtain ⟨b, hb⟩ : ∃ b, b = goodR x := ⟨_, rfl⟩
 rw [← hb] at hV hS hD hR hCt hAny
 obtain ⟨R, hRR⟩ : ∃ R, R = homeR x := ⟨_, rfl⟩
 rw [← hRR] at hR ⊢
 obtain ⟨E, hE⟩ : ∃ E, E = edgesR x := ⟨_, rfl⟩
 simp only [← hE] at hS hD hCt hAny hel
 clear hb hRR hE
 refine ASpec.of Tryz.func30 rfl rfl fun C hC => ?_
 refine AC.seq (AC.region ?_)
 refine AL.q (by exact h_boxF rfl rfl) rfl ?_
 refine AL.p (by exact as1 rfl) rfl ?_
 refine AL.p (by exact as1 rfl) rfl ?_
 refine AL.nil (th_n (AC.seq (AC.seq (AC.region ?_))))
 refine AL.p (by exact g_load_refN rfl rfl rfl rfl) rfl ?_
 refine AL.q (by exact h_pure en_iIsReach rfl rfl (by repeat (first | exact rfl | exact DLead.same | refine ⟨_, _, rfl, ?_, ?_⟩ | refine ⟨_, rfl, ?_⟩)) hV rfl) rfl ?_
 refine AL.p (by exact g_not rfl) rfl ?_
 refine AL.nil (th_n ?_)
 refine AC.condB rfl (fun h0 => ?_) (fun h0 => ?_)
 ·refine AC.seq (AC.region ?_)
  refine AL.p (by exact as1 rfl) rfl ?_
  refine AL.p (by exact as1 rfl) rfl ?_
  refine AL.nil (th_n (AC.ret (th_r (bq_r ?_))))
  have e : R = ([], false) := hR.trans (if_neg (by simp_all))
  exact ret0 rfl (by rw [e]; show AV.leads _ (.tup [.d (vI []), aT false]) _; repeat (first | exact DLead.same | exact DLead.nil | exact rfl | refine ⟨_, rfl, ?_⟩ | refine ⟨_, _, rfl, ?_, ?_⟩))
 ·refine AC.skip (th_n (AC.seq ?_))
  have hb1 : b = true := by simp_all
  have hS1 := hS hb1
  have hD1 := hD hb1
  have hC1 := hCt hb1
  have hA1 := hAny hb1
  rw [if_pos hb1] at hR
  clear hS hD hCt hAny hV
  refine AC.region ?_
  refine AL.q (by exact h_lit rfl rfl rfl rfl rfl rfl rfl rfl) rfl ?_
  refine AL.q (by exact h_lit rfl rfl rfl rfl rfl rfl rfl rfl) rfl ?_
  refine AL.p (by exact as2 rfl) rfl ?_
  refine AL.p (by exact as2 rfl) rfl ?_
  refine AL.nil (th_n (AC.seq (AC.seq (AC.region ?_))))
  refine AL.p (by exact g_load_refN rfl rfl rfl rfl) rfl ?_
  refine AL.q (by exact h_pure en_stepsOf rfl rfl (by repeat (first | exact rfl | exact DLead.same | refine ⟨_, _, rfl, ?_, ?_⟩ | refine ⟨_, rfl, ?_⟩)) hS1 rfl) rfl ?_
  refine AL.p (by exact g_len_view (k := E.length) rfl rfl (stepL_len _)) rfl ?_
  refine AL.p (by exact mv1 rfl) rfl ?_
  refine AL.nil (th_n (AC.block ?_))
  refine AC.loop (ι := Nat) (fun j => ⟨50, 300, [(1, .d (.ref (rgD x))), (4, .own 100 0), (5, .own 101 j), (15, .d (vSteps E)), (16, aI E.length), (17, aI j)], [(100, some (.arr 3 1 (ints []))), (101, some (.arr 138 2 (stepL (swapE (E.take j)))))]⟩) (fun j => j ≤ E.length) (fun j => E.length - j) (0) ?_ (Nat.zero_le _) ?_
  ·exact Weak.ren _ [(100, _), (101, _)] hC rfl (by repeat (first | exact True.intro | refine And.intro ?_ ?_ | exact DLead.same | exact rfl | refine ⟨_, rfl, ?_⟩)) (by repeat (first | exact True.intro | refine And.intro ?_ ?_ | exact rfl | refine ⟨_, _, rfl, rfl, ?_⟩)) rfl rfl rfl
  ·intro j hj
   refine AC.seq (AC.region ?_)
   refine AL.p (by exact g_cmp rfl rfl rfl) rfl ?_
   refine AL.nil (th_n (AC.seq ?_))
   refine AC.condD rfl (fun h1 => ?_) (fun h1 => ?_)
   ·refine AC.skip (th_n (AC.seq (AC.block (AC.seq ?_))))
    have hj1 : j < E.length := by omega
    have hget := stepL_get hj1
    have hst := swapE_take hj1
    have hsl : (swapE (E.take j)).length = j := by rw [swapE_len, List.length_take]; omega
    refine AC.region ?_
    refine AL.p (by exact g_ia_view rfl rfl rfl rfl rfl (by rfl) (by assumption)) rfl ?_
    refine AL.p (by exact g_load_refN rfl rfl rfl rfl) rfl ?_
    refine AL.q (by exact h_alloc rfl) rfl ?_
    refine AL.q (by exact h_store rfl rfl rfl rfl rfl rfl) rfl ?_
    refine AL.nil (th_n (AC.region ?_))
    refine AL.p (by exact mv2 rfl) rfl ?_
    refine AL.p (by exact g_fa_ptr rfl rfl rfl rfl rfl) rfl ?_
    refine AL.p (by exact g_load_ptr rfl rfl rfl rfl rfl) rfl ?_
    refine AL.p (by exact g_fa_ptr rfl rfl rfl rfl rfl) rfl ?_
    refine AL.p (by exact g_load_ptr rfl rfl rfl rfl rfl) rfl ?_
    refine AL.p (by exact g_build rfl rfl rfl) rfl ?_
    refine AL.q (by exact h_litF rfl rfl rfl rfl rfl rfl rfl rfl) rfl ?_
    refine AL.q (by exact h_appendSt (swapE (E.take j)) [(E[j].2, E[j].1)] (.own rfl rfl (by rw [stepL_len, hsl])) (.view rfl) (by rw [List.length_append, hsl]; simp only [List.length_cons, List.length_nil]; omega) (by simp)) rfl ?_
    refine AL.p (by exact as2 rfl) rfl ?_
    refine AL.nil (ib_n (th_n (AC.region ?_)))
    refine AL.p (by exact g_arith rfl rfl rfl (by exact wrap_i64 (by omega))) rfl ?_
    refine AL.p (by exact mv1 rfl) rfl ?_
    refine AL.nil (th_n ?_)
    exact ⟨j + 1, by omega, by omega, Weak.ren _ [(100, 100), (101, _)] hC rfl (by rw [List.length_append, hsl]; repeat (first | exact True.intro | refine And.intro ?_ ?_ | exact DLead.same | exact rfl | refine ⟨_, rfl, ?_⟩)) (by rw [hst]; repeat (first | exact True.intro | refine And.intro ?_ ?_ | exact rfl | refine ⟨_, _, rfl, rfl, ?_⟩)) rfl rfl rfl⟩
   ·refine AC.exit (th_e (th_e (ib_y (th_n (AC.seq (AC.seq ?_))))))
    have hjj : j = E.length := by omega
    rw [hjj, List.take_length]
    have hsl : (swapE E).length = E.length := swapE_len E
    refine AC.weak (Weak.freeze (i := 5) rfl rfl (by rw [stepL_len, hsl]; exact Nat.le_refl _) (List.take_of_length_le (by rw [stepL_len, hsl]; exact Nat.le_refl _))) ?_
    refine AC.region ?_
    refine AL.p (by exact g_fa_ref rfl rfl rfl rfl rfl rfl) rfl ?_
    refine AL.p (by exact g_load_ref rfl rfl rfl) rfl ?_
    refine AL.p (by exact g_len_view (k := x.marks.length) rfl rfl (tsX_len _)) rfl ?_
    refine AL.p (by exact mv1 rfl) rfl ?_
    refine AL.nil (th_n (AC.block ?_))
    refine AC.loop (ι := Nat) (fun k => ⟨50, 600, [(1, .d (.ref (rgD x))), (4, .own 100 (homeL x k).length), (5, .d (vSteps (swapE E))), (32, aI x.marks.length), (33, aI k)], [(100, some (.arr 3 1 (ints (homeL x k))))]⟩) (fun k => k ≤ x.marks.length) (fun k => x.marks.length - k) (0) ?_ (Nat.zero_le _) ?_
    ·exact Weak.ren _ [(100, 100)] hC rfl (by repeat (first | exact True.intro | refine And.intro ?_ ?_ | exact DLead.same | exact rfl | refine ⟨_, rfl, ?_⟩)) (by repeat (first | exact True.intro | refine And.intro ?_ ?_ | exact rfl | refine ⟨_, _, rfl, rfl, ?_⟩)) rfl rfl rfl
    ·intro k hk
     refine AC.seq (AC.region ?_)
     refine AL.p (by exact g_cmp rfl rfl rfl) rfl ?_
     refine AL.nil (th_n (AC.seq ?_))
     refine AC.condD rfl (fun h2 => ?_) (fun h2 => ?_)
     ·refine AC.skip (th_n (AC.seq (AC.block (AC.seq ?_))))
      have hk1 : k < x.marks.length := by omega
      have hDk := hD1 k hk1
      have hCk := hC1 k hk1
      rw [hA1 k hk1] at hCk
      have hHk := hHs k
      have hHlk := hHl k
      obtain ⟨h, hh⟩ : ∃ h, h = homeB x k := ⟨_, rfl⟩
      rw [← hh] at hCk hHk
      clear hh
      refine AC.region ?_
      refine AL.p (by exact mv1 rfl) rfl ?_
      refine AL.p (by exact as1 rfl) rfl ?_
      refine AL.nil (th_n (AC.seq (AC.region ?_)))
      refine AL.p (by exact g_fa_ref rfl rfl rfl rfl rfl rfl) rfl ?_
      refine AL.p (by exact g_load_ref rfl rfl rfl) rfl ?_
      refine AL.p (by exact g_len_view (k := x.marks.length) rfl rfl (tsX_len _)) rfl ?_
      refine AL.p (by exact mv1 rfl) rfl ?_
      refine AL.p (by exact mv1 rfl) rfl ?_
      refine AL.q (by exact h_pure en_distances rfl rfl (by repeat (first | exact rfl | exact DLead.same | refine ⟨_, _, rfl, ?_, ?_⟩)) hDk rfl) rfl ?_
      refine AL.q (by exact h_pure en_Contains rfl rfl (by repeat (first | exact rfl | exact DLead.same | refine ⟨_, _, rfl, ?_, ?_⟩)) hCk rfl) rfl ?_
      refine AL.p (by exact g_not rfl) rfl ?_
      refine AL.nil (th_n ?_)
      refine AC.condB rfl (fun h3 => ?_) (fun h3 => ?_)
      ·refine AC.region ?_
       refine AL.p (by exact mv2 rfl) rfl ?_
       refine AL.p (by exact mv1 rfl) rfl ?_
       refine AL.q (by exact h_litF rfl rfl rfl rfl rfl rfl rfl rfl) rfl ?_
       refine AL.q (by exact h_appendI (homeL x k) [(k : Int)] (.own rfl rfl (ints_len _).symm) (.view rfl) (by rw [List.length_append]; simp only [List.length_cons, List.length_nil]; omega) (by simp)) rfl ?_
       refine AL.p (by exact as2 rfl) rfl ?_
       refine AL.nil (ib_n (th_n (AC.region ?_)))
       refine AL.p (by exact g_arith rfl rfl rfl (by exact wrap_i64 (by omega))) rfl ?_
       refine AL.p (by exact mv1 rfl) rfl ?_
       refine AL.nil (th_n ?_)
       (have e : h = true := (by simpa using ‹(!!h) = true›); rw [if_pos e] at hHk; exact ⟨k + 1, by omega, by omega, Weak.ren _ [(100, _)] hC rfl (by rw [hHk]; repeat (first | exact True.intro | refine And.intro ?_ ?_ | exact DLead.same | exact rfl | refine ⟨_, rfl, ?_⟩)) (by rw [hHk]; repeat (first | exact True.intro | refine And.intro ?_ ?_ | exact rfl | refine ⟨_, _, rfl, rfl, ?_⟩)) rfl rfl rfl⟩)
      ·refine AC.skip (ib_n (th_n (AC.region ?_)))
       refine AL.p (by exact g_arith rfl rfl rfl (by exact wrap_i64 (by omega))) rfl ?_
       refine AL.p (by exact mv1 rfl) rfl ?_
       refine AL.nil (th_n ?_)
       (have e : ¬ h = true := (by simpa using ‹(!!h) = false›); rw [if_neg e, List.append_nil] at hHk; exact ⟨k + 1, by omega, by omega, Weak.ren _ [(100, 100)] hC rfl (by rw [hHk]; repeat (first | exact True.intro | refine And.intro ?_ ?_ | exact DLead.same | exact rfl | refine ⟨_, rfl, ?_⟩)) (by rw [hHk]; repeat (first | exact True.intro | refine And.intro ?_ ?_ | exact rfl | refine ⟨_, _, rfl, rfl, ?_⟩)) rfl rfl rfl⟩)
     ·refine AC.exit (th_e (th_e (ib_y (th_n (AC.seq ?_)))))
      have hkk : k = x.marks.length := by omega
      rw [hkk]
      refine AC.weak (Weak.freeze (i := 4) rfl rfl (Nat.le_of_eq (ints_len _).symm) (List.take_of_length_le (Nat.le_of_eq (ints_len _)))) ?_
      refine AC.region ?_
      refine AL.p (by exact mv1 rfl) rfl ?_
      refine AL.p (by exact as1 rfl) rfl ?_
      refine AL.p (by exact as1 rfl) rfl ?_
      refine AL.nil (th_n (AC.ret (bq_r ?_)))
      exact ret0 rfl (by rw [hR]; show AV.leads _ (.tup [.d (vI (homeL x x.marks.length)), aT true]) _; repeat (first | exact DLead.same | exact rfl | refine ⟨_, rfl, ?_⟩ | refine ⟨_, _, rfl, ?_, ?_⟩))
theorem en_iHome : Enters Tryz.prog 30 := enters_of Tryz.func30 rfl rfl
def allU (o : List Int) (i : Nat) : Bool := (List.range i).all fun v => decide (0 ≤ oa o v)
theorem allU_succ (o : List Int) (i : Nat) : allU o (i + 1) = (allU o i && decide (0 ≤ oa o i)) := by
 unfold allU
 rw [List.range_succ, List.all_append]
 simp
set_option maxHeartbeats 8000000 in
theorem sHome_spec (x : Ex) (h1l : x.marks.length ≤ 100000) (h2l : x.moves.length ≤ 1000000) : ASpec Tryz.prog 31 [rgA x] [] (Pure1 (.tup [.d (vI (homeR x).1), aT (homeR x).2])) := by
 have hV := sGoodR_spec x (by omega) h2l
 have hD := fun (h : goodR x = true) (k : Nat) (hk : k < x.marks.length) => l4Back_spec x k hk h1l h2l (fun v hv => by have := goodR_moves h v hv; exact ⟨this.1, this.2.1⟩)
 have hR : homeR x = if goodR x = true then (homeL x x.marks.length, true) else ([], false) := rfl
 have hHs := homeL_succ x
 have hHl := homeL_len x
 have hHB : ∀ k, homeB x k = allU (distF (swapE (edgesR x)) x.marks.length k) x.marks.length := fun k => rfl
 have hBB : ∀ k, backB x k = (List.range x.marks.length).map fun v => decide (0 ≤ oa (distF (swapE (edgesR x)) x.marks.length k) v) := fun k => rfl
 obtain ⟨b, hb⟩ : ∃ b, b = goodR x := ⟨_, rfl⟩
 rw [← hb] at hV hD hR
 obtain ⟨R, hRR⟩ : ∃ R, R = homeR x := ⟨_, rfl⟩
 rw [← hRR] at hR ⊢
 clear hb hRR
 refine ASpec.of Tryz.func31 rfl rfl fun C hC => ?_
 refine AC.seq (AC.region ?_)
 refine AL.q (by exact h_boxF rfl rfl) rfl ?_
 refine AL.p (by exact as1 rfl) rfl ?_
 refine AL.p (by exact as1 rfl) rfl ?_
 refine AL.nil (th_n (AC.seq (AC.seq (AC.region ?_))))
 refine AL.p (by exact g_load_refN rfl rfl rfl rfl) rfl ?_
 refine AL.q (by exact h_pure en_sGoodR rfl rfl (by repeat (first | exact rfl | exact DLead.same | refine ⟨_, _, rfl, ?_, ?_⟩ | refine ⟨_, rfl, ?_⟩)) hV rfl) rfl ?_
 refine AL.p (by exact g_not rfl) rfl ?_
 refine AL.nil (th_n ?_)
 refine AC.condB rfl (fun h0 => ?_) (fun h0 => ?_)
 ·refine AC.seq (AC.region ?_)
  refine AL.p (by exact as1 rfl) rfl ?_
  refine AL.p (by exact as1 rfl) rfl ?_
  refine AL.nil (th_n (AC.ret (th_r (bq_r ?_))))
  have e : R = ([], false) := hR.trans (if_neg (by simp_all))
  exact ret0 rfl (by rw [e]; show AV.leads _ (.tup [.d (vI []), aT false]) _; repeat (first | exact DLead.same | exact DLead.nil | exact rfl | refine ⟨_, rfl, ?_⟩ | refine ⟨_, _, rfl, ?_, ?_⟩))
 ·refine AC.skip (th_n (AC.seq ?_))
  have hb1 : b = true := by simp_all
  have hD1 := hD hb1
  rw [if_pos hb1] at hR
  clear hD hV
  refine AC.region ?_
  refine AL.p (by exact as1 rfl) rfl ?_
  refine AL.nil (th_n (AC.seq (AC.seq (AC.region ?_))))
  refine AL.p (by exact g_fa_ref rfl rfl rfl rfl rfl rfl) rfl ?_
  refine AL.p (by exact g_load_ref rfl rfl rfl) rfl ?_
  refine AL.p (by exact g_len_view (k := x.marks.length) rfl rfl (tsX_len _)) rfl ?_
  refine AL.p (by exact mv1 rfl) rfl ?_
  refine AL.nil (th_n (AC.block ?_))
  refine AC.loop (ι := Nat) (fun k => ⟨38, 600, [(1, .d (.ref (rgD x))), (4, .own 100 (homeL x k).length), (14, aI x.marks.length), (15, aI k)], [(100, some (.arr 3 1 (ints (homeL x k))))]⟩) (fun k => k ≤ x.marks.length) (fun k => x.marks.length - k) (0) ?_ (Nat.zero_le _) ?_
  ·exact (Weak.nilOwn (i := 4) (e := 3) (sz := 1) rfl (by decide)).trans (Weak.ren _ [(100, _)] hC rfl (by repeat (first | exact True.intro | refine And.intro ?_ ?_ | exact DLead.same | exact rfl | refine ⟨_, rfl, ?_⟩)) (by repeat (first | exact True.intro | refine And.intro ?_ ?_ | exact rfl | refine ⟨_, _, rfl, rfl, ?_⟩)) rfl rfl rfl)
  ·intro k hk
   refine AC.seq (AC.region ?_)
   refine AL.p (by exact g_cmp rfl rfl rfl) rfl ?_
   refine AL.nil (th_n (AC.seq ?_))
   refine AC.condD rfl (fun h1 => ?_) (fun h1 => ?_)
   ·refine AC.skip (th_n (AC.seq (AC.block (AC.seq ?_))))
    have hk1 : k < x.marks.length := by omega
    have hDk := hD1 k hk1
    have hHk := hHs k
    have hHlk := hHl k
    rw [hHB k] at hHk
    have hBk := hBB k
    obtain ⟨B, hBe⟩ : ∃ B, B = backB x k := ⟨_, rfl⟩
    rw [← hBe] at hDk hBk
    obtain ⟨o, ho⟩ : ∃ o, o = distF (swapE (edgesR x)) x.marks.length k := ⟨_, rfl⟩
    rw [← ho] at hHk hBk
    have hBl : B.length = x.marks.length := by rw [hBk]; simp
    have hBg : ∀ i (hi : i < x.marks.length), (boolL B)[i]? = some [dT (decide (0 ≤ oa o i))] := fun i hi => by rw [hBk, List.getElem?_map, List.getElem?_map, List.getElem?_range hi]; rfl
    clear hBe ho
    refine AC.region ?_
    refine AL.p (by exact mv1 rfl) rfl ?_
    refine AL.p (by exact as1 rfl) rfl ?_
    refine AL.nil (th_n (AC.seq (AC.region ?_)))
    refine AL.p (by exact as1 rfl) rfl ?_
    refine AL.nil (th_n (AC.seq (AC.seq (AC.region ?_))))
    refine AL.p (by exact g_load_refN rfl rfl rfl rfl) rfl ?_
    refine AL.p (by exact mv1 rfl) rfl ?_
    refine AL.q (by exact h_pure en_l4Back rfl rfl (by repeat (first | exact rfl | exact DLead.same | refine ⟨_, _, rfl, ?_, ?_⟩ | refine ⟨_, rfl, ?_⟩)) hDk rfl) rfl ?_
    refine AL.p (by exact g_len_view (k := x.marks.length) rfl rfl (by rw [boolL_len, hBl])) rfl ?_
    refine AL.p (by exact mv1 rfl) rfl ?_
    refine AL.nil (th_n (AC.block ?_))
    refine AC.loop (ι := Nat) (fun i => ⟨38, 900, [(1, .d (.ref (rgD x))), (4, .own 100 (homeL x k).length), (5, aI k), (6, aT (allU o i)), (14, aI x.marks.length), (15, aI k), (20, .d (.view 4 1 (boolL B))), (21, aI x.marks.length), (22, aI i)], [(100, some (.arr 3 1 (ints (homeL x k))))]⟩) (fun i => i ≤ x.marks.length) (fun i => x.marks.length - i) (0) ?_ (Nat.zero_le _) ?_
    ·exact Weak.ren _ [(100, 100)] hC rfl (by repeat (first | exact True.intro | refine And.intro ?_ ?_ | exact DLead.same | exact rfl | refine ⟨_, rfl, ?_⟩)) (by repeat (first | exact True.intro | refine And.intro ?_ ?_ | exact rfl | refine ⟨_, _, rfl, rfl, ?_⟩)) rfl rfl rfl
    ·intro i hi
     refine AC.seq (AC.region ?_)
     refine AL.p (by exact g_cmp rfl rfl rfl) rfl ?_
     refine AL.nil (th_n (AC.seq ?_))
     refine AC.condD rfl (fun h2 => ?_) (fun h2 => ?_)
     ·refine AC.skip (th_n (AC.seq (AC.block (AC.seq ?_))))
      have hi1 : i < x.marks.length := by omega
      have hget := hBg i hi1
      have hsu := allU_succ o i
      obtain ⟨g, hg⟩ : ∃ g, g = allU o i := ⟨_, rfl⟩
      rw [← hg] at hsu ⊢
      obtain ⟨d, hd⟩ : ∃ d, d = decide (0 ≤ oa o i) := ⟨_, rfl⟩
      rw [← hd] at hsu hget
      clear hg hd
      refine AC.region ?_
      refine AL.p (by exact g_ia_view rfl rfl rfl rfl rfl (by rfl) (by assumption)) rfl ?_
      refine AL.p (by exact g_load_ref rfl rfl rfl) rfl ?_
      refine AL.p (by exact as1 rfl) rfl ?_
      refine AL.nil (th_n (AC.region ?_))
      refine AL.p (by exact mv1 rfl) rfl ?_
      refine AL.p (by exact mv1 rfl) rfl ?_
      refine AL.caseGB rfl rfl (fun h3 => ?_) (fun h3 => ?_)
      ·refine AL.yes rfl rfl rfl ?_
       refine AL.p (by exact mv1 rfl) rfl ?_
       refine AL.p (by exact g_pickT (r := .d _) rfl rfl) rfl ?_
       refine AL.p (by exact as1 rfl) rfl ?_
       refine AL.nil (ib_n (th_n (AC.region ?_)))
       refine AL.p (by exact g_arith rfl rfl rfl (by exact wrap_i64 (by omega))) rfl ?_
       refine AL.p (by exact mv1 rfl) rfl ?_
       refine AL.nil (th_n ?_)
       (have e : g = true := ‹g = true›; rw [e, Bool.true_and] at hsu; exact ⟨i + 1, by omega, by omega, Weak.ren _ [(100, 100)] hC rfl (by rw [hsu]; repeat (first | exact True.intro | refine And.intro ?_ ?_ | exact DLead.same | exact rfl | refine ⟨_, rfl, ?_⟩)) (by repeat (first | exact True.intro | refine And.intro ?_ ?_ | exact rfl | refine ⟨_, _, rfl, rfl, ?_⟩)) rfl rfl rfl⟩)
      ·refine AL.not rfl rfl rfl rfl rfl ?_
       refine AL.p (by exact g_pickF (r := .d _) rfl rfl) rfl ?_
       refine AL.p (by exact as1 rfl) rfl ?_
       refine AL.nil (ib_n (th_n (AC.region ?_)))
       refine AL.p (by exact g_arith rfl rfl rfl (by exact wrap_i64 (by omega))) rfl ?_
       refine AL.p (by exact mv1 rfl) rfl ?_
       refine AL.nil (th_n ?_)
       (have e : g = false := ‹g = false›; rw [e, Bool.false_and] at hsu; exact ⟨i + 1, by omega, by omega, Weak.ren _ [(100, 100)] hC rfl (by rw [hsu]; repeat (first | exact True.intro | refine And.intro ?_ ?_ | exact DLead.same | exact rfl | refine ⟨_, rfl, ?_⟩)) (by repeat (first | exact True.intro | refine And.intro ?_ ?_ | exact rfl | refine ⟨_, _, rfl, rfl, ?_⟩)) rfl rfl rfl⟩)
     ·refine AC.exit (th_e (th_e (ib_y (th_n (AC.seq ?_)))))
      have hii : i = x.marks.length := by omega
      rw [hii]
      obtain ⟨h, hh⟩ : ∃ h, h = allU o x.marks.length := ⟨_, rfl⟩
      rw [← hh] at hHk ⊢
      clear hh
      refine AC.region ?_
      refine AL.p (by exact mv1 rfl) rfl ?_
      refine AL.nil (th_n ?_)
      refine AC.condB rfl (fun h3 => ?_) (fun h3 => ?_)
      ·refine AC.region ?_
       refine AL.p (by exact mv2 rfl) rfl ?_
       refine AL.p (by exact mv1 rfl) rfl ?_
       refine AL.q (by exact h_litF rfl rfl rfl rfl rfl rfl rfl rfl) rfl ?_
       refine AL.q (by exact h_appendI (homeL x k) [(k : Int)] (.own rfl rfl (ints_len _).symm) (.view rfl) (by rw [List.length_append]; simp only [List.length_cons, List.length_nil]; omega) (by simp)) rfl ?_
       refine AL.p (by exact as2 rfl) rfl ?_
       refine AL.nil (ib_n (th_n (AC.region ?_)))
       refine AL.p (by exact g_arith rfl rfl rfl (by exact wrap_i64 (by omega))) rfl ?_
       refine AL.p (by exact mv1 rfl) rfl ?_
       refine AL.nil (th_n ?_)
       (have e : h = true := ‹h = true›; rw [if_pos e] at hHk; exact ⟨k + 1, by omega, by omega, Weak.ren _ [(100, _)] hC rfl (by rw [hHk]; repeat (first | exact True.intro | refine And.intro ?_ ?_ | exact DLead.same | exact rfl | refine ⟨_, rfl, ?_⟩)) (by rw [hHk]; repeat (first | exact True.intro | refine And.intro ?_ ?_ | exact rfl | refine ⟨_, _, rfl, rfl, ?_⟩)) rfl rfl rfl⟩)
      ·refine AC.skip (ib_n (th_n (AC.region ?_)))
       refine AL.p (by exact g_arith rfl rfl rfl (by exact wrap_i64 (by omega))) rfl ?_
       refine AL.p (by exact mv1 rfl) rfl ?_
       refine AL.nil (th_n ?_)
       (have e : ¬ h = true := (by simpa using ‹h = false›); rw [if_neg e, List.append_nil] at hHk; exact ⟨k + 1, by omega, by omega, Weak.ren _ [(100, 100)] hC rfl (by rw [hHk]; repeat (first | exact True.intro | refine And.intro ?_ ?_ | exact DLead.same | exact rfl | refine ⟨_, rfl, ?_⟩)) (by rw [hHk]; repeat (first | exact True.intro | refine And.intro ?_ ?_ | exact rfl | refine ⟨_, _, rfl, rfl, ?_⟩)) rfl rfl rfl⟩)
   ·refine AC.exit (th_e (th_e (ib_y (th_n (AC.seq ?_)))))
    have hkk : k = x.marks.length := by omega
    rw [hkk]
    refine AC.weak (Weak.freeze (i := 4) rfl rfl (Nat.le_of_eq (ints_len _).symm) (List.take_of_length_le (Nat.le_of_eq (ints_len _)))) ?_
    refine AC.region ?_
    refine AL.p (by exact mv1 rfl) rfl ?_
    refine AL.p (by exact as1 rfl) rfl ?_
    refine AL.p (by exact as1 rfl) rfl ?_
    refine AL.nil (th_n (AC.ret (bq_r ?_)))
    exact ret0 rfl (by rw [hR]; show AV.leads _ (.tup [.d (vI (homeL x x.marks.length)), aT true]) _; repeat (first | exact DLead.same | exact rfl | refine ⟨_, rfl, ?_⟩ | refine ⟨_, _, rfl, ?_, ?_⟩))
theorem en_sHome : Enters Tryz.prog 31 := enters_of Tryz.func31 rfl rfl
theorem iDeadl1_spec (v : Mv) (k : Int) : ASpec Tryz.prog 125 [mvA v, .d (.ref [dI k])] [] (Pure1 (aT (decide (v.from_ = k)))) := by
 refine ASpec.of Tryz.func125 rfl rfl fun C hC => ?_
 refine AC.seq (AC.region ?_)
 refine AL.q (by exact h_boxF rfl rfl) rfl ?_
 refine AL.p (by exact as1 rfl) rfl ?_
 refine AL.nil (th_n (AC.seq (AC.region ?_)))
 refine AL.p (by exact g_fa_ref rfl rfl rfl rfl rfl rfl) rfl ?_
 refine AL.p (by exact g_load_ref rfl rfl rfl) rfl ?_
 refine AL.p (by exact g_load_ref rfl rfl rfl) rfl ?_
 refine AL.p (by exact g_cmp rfl rfl rfl) rfl ?_
 refine AL.p (by exact as1 rfl) rfl ?_
 refine AL.nil (th_n (AC.ret (bq_r ?_)))
 exact ret1 rfl rfl
theorem en_iDeadl1 : Enters Tryz.prog 125 := enters_of Tryz.func125 rfl rfl
theorem iDeadT1_spec (v : Mv) (k : Int) : ASpec Tryz.prog 128 [mvA v, .d (.ref [dI k])] [] (Pure1 (aT (decide (v.by_ = k)))) := by
 refine ASpec.of Tryz.func128 rfl rfl fun C hC => ?_
 refine AC.seq (AC.region ?_)
 refine AL.q (by exact h_boxF rfl rfl) rfl ?_
 refine AL.p (by exact as1 rfl) rfl ?_
 refine AL.nil (th_n (AC.seq (AC.region ?_)))
 refine AL.p (by exact g_fa_ref rfl rfl rfl rfl rfl rfl) rfl ?_
 refine AL.p (by exact g_load_ref rfl rfl rfl) rfl ?_
 refine AL.p (by exact g_load_ref rfl rfl rfl) rfl ?_
 refine AL.p (by exact g_cmp rfl rfl rfl) rfl ?_
 refine AL.p (by exact as1 rfl) rfl ?_
 refine AL.nil (th_n (AC.ret (bq_r ?_)))
 exact ret1 rfl rfl
theorem en_iDeadT1 : Enters Tryz.prog 128 := enters_of Tryz.func128 rfl rfl
set_option maxHeartbeats 4000000 in
theorem iDeadl_spec (x : Ex) (h1l : x.marks.length ≤ 100000) (h2l : x.moves.length ≤ 1000000) : ASpec Tryz.prog 32 [rgA x] [] (Pure1 (.tup [.d (vI (deadR x).1), aT (deadR x).2])) := by
 have hV := iIsReach_spec x (by omega) h2l
 have hR : deadR x = if goodR x = true then (deadL x x.marks.length, true) else ([], false) := rfl
 have hHs := deadL_succ x
 have hHl := deadL_len x
 obtain ⟨b, hb⟩ : ∃ b, b = goodR x := ⟨_, rfl⟩
 rw [← hb] at hV hR
 obtain ⟨R, hRR⟩ : ∃ R, R = deadR x := ⟨_, rfl⟩
 rw [← hRR] at hR ⊢
 clear hb hRR
 refine ASpec.of Tryz.func32 rfl rfl fun C hC => ?_
 refine AC.seq (AC.region ?_)
 refine AL.q (by exact h_boxF rfl rfl) rfl ?_
 refine AL.p (by exact as1 rfl) rfl ?_
 refine AL.p (by exact as1 rfl) rfl ?_
 refine AL.nil (th_n (AC.seq (AC.seq (AC.region ?_))))
 refine AL.p (by exact g_load_refN rfl rfl rfl rfl) rfl ?_
 refine AL.q (by exact h_pure en_iIsReach rfl rfl (by repeat (first | exact rfl | exact DLead.same | refine ⟨_, _, rfl, ?_, ?_⟩ | refine ⟨_, rfl, ?_⟩)) hV rfl) rfl ?_
 refine AL.p (by exact g_not rfl) rfl ?_
 refine AL.nil (th_n ?_)
 refine AC.condB rfl (fun h0 => ?_) (fun h0 => ?_)
 ·refine AC.seq (AC.region ?_)
  refine AL.p (by exact as1 rfl) rfl ?_
  refine AL.p (by exact as1 rfl) rfl ?_
  refine AL.nil (th_n (AC.ret (th_r (bq_r ?_))))
  have e : R = ([], false) := hR.trans (if_neg (by simp_all))
  exact ret0 rfl (by rw [e]; show AV.leads _ (.tup [.d (vI []), aT false]) _; repeat (first | exact DLead.same | exact DLead.nil | exact rfl | refine ⟨_, rfl, ?_⟩ | refine ⟨_, _, rfl, ?_, ?_⟩))
 ·refine AC.skip (th_n (AC.seq ?_))
  have hb1 : b = true := by simp_all
  rw [if_pos hb1] at hR
  refine AC.region ?_
  refine AL.q (by exact h_lit rfl rfl rfl rfl rfl rfl rfl rfl) rfl ?_
  refine AL.p (by exact as2 rfl) rfl ?_
  refine AL.nil (th_n (AC.seq (AC.seq (AC.region ?_))))
  refine AL.p (by exact g_fa_ref rfl rfl rfl rfl rfl rfl) rfl ?_
  refine AL.p (by exact g_load_ref rfl rfl rfl) rfl ?_
  refine AL.p (by exact g_len_view (k := x.marks.length) rfl rfl (tsX_len _)) rfl ?_
  refine AL.p (by exact mv1 rfl) rfl ?_
  refine AL.nil (th_n (AC.block ?_))
  refine AC.loop (ι := Nat) (fun k => ⟨27, 600, [(1, .d (.ref (rgD x))), (4, .own 100 (deadL x k).length), (12, aI x.marks.length), (13, aI k)], [(100, some (.arr 3 1 (ints (deadL x k))))]⟩) (fun k => k ≤ x.marks.length) (fun k => x.marks.length - k) (0) ?_ (Nat.zero_le _) ?_
  ·exact Weak.ren _ [(100, _)] hC rfl (by repeat (first | exact True.intro | refine And.intro ?_ ?_ | exact DLead.same | exact rfl | refine ⟨_, rfl, ?_⟩)) (by repeat (first | exact True.intro | refine And.intro ?_ ?_ | exact rfl | refine ⟨_, _, rfl, rfl, ?_⟩)) rfl rfl rfl
  ·intro k hk
   refine AC.seq (AC.region ?_)
   refine AL.p (by exact g_cmp rfl rfl rfl) rfl ?_
   refine AL.nil (th_n (AC.seq ?_))
   refine AC.condD rfl (fun h1 => ?_) (fun h1 => ?_)
   ·refine AC.skip (th_n (AC.seq (AC.block (AC.seq ?_))))
    have hk1 : k < x.marks.length := by omega
    have hCf := cfMv_spec x.moves h2l 125 [.ref [dI (k : Int)]] en_iDeadl1 (fun v => decide (v.from_ = (k : Int))) (fun v _ => iDeadl1_spec v k)
    rw [dead_any x k] at hCf
    have hHk := hHs k
    have hHlk := hHl k
    obtain ⟨h, hh⟩ : ∃ h, h = deadB x k := ⟨_, rfl⟩
    rw [← hh] at hCf hHk
    clear hh
    refine AC.region ?_
    refine AL.p (by exact mv1 rfl) rfl ?_
    refine AL.q (by exact h_alloc rfl) rfl ?_
    refine AL.q (by exact h_store rfl rfl rfl rfl rfl rfl) rfl ?_
    refine AL.nil (th_n (AC.seq (AC.region ?_)))
    refine AL.p (by exact g_fa_ref rfl rfl rfl rfl rfl rfl) rfl ?_
    refine AL.p (by exact g_load_ref rfl rfl rfl) rfl ?_
    refine AL.p (by exact g_fn rfl) rfl ?_
    refine AL.q (by exact h_borrow [600] en_cfMv rfl rfl hCf (.cons (.of .d) (.cons (.cloB (.cons (.ptr rfl rfl (.cons .d .nil)) .nil)) .nil)) rfl) rfl ?_
    refine AL.p (by exact g_not rfl) rfl ?_
    refine AL.nil (th_n ?_)
    refine AC.condB rfl (fun h2 => ?_) (fun h2 => ?_)
    ·refine AC.region ?_
     refine AL.p (by exact mv2 rfl) rfl ?_
     refine AL.p (by exact g_load_ptr rfl rfl rfl rfl rfl) rfl ?_
     refine AL.q (by exact h_litF rfl rfl rfl rfl rfl rfl rfl rfl) rfl ?_
     refine AL.q (by exact h_appendI (deadL x k) [(k : Int)] (.own rfl rfl (ints_len _).symm) (.view rfl) (by rw [List.length_append]; simp only [List.length_cons, List.length_nil]; omega) (by simp)) rfl ?_
     refine AL.p (by exact as2 rfl) rfl ?_
     refine AL.nil (ib_n (th_n (AC.region ?_)))
     refine AL.p (by exact g_arith rfl rfl rfl (by exact wrap_i64 (by omega))) rfl ?_
     refine AL.p (by exact mv1 rfl) rfl ?_
     refine AL.nil (th_n ?_)
     (have e : h = true := (by simpa using ‹(!!h) = true›); rw [if_pos e] at hHk; exact ⟨k + 1, by omega, by omega, Weak.ren _ [(100, _)] hC rfl (by rw [hHk]; repeat (first | exact True.intro | refine And.intro ?_ ?_ | exact DLead.same | exact rfl | refine ⟨_, rfl, ?_⟩)) (by rw [hHk]; repeat (first | exact True.intro | refine And.intro ?_ ?_ | exact rfl | refine ⟨_, _, rfl, rfl, ?_⟩)) rfl rfl rfl⟩)
    ·refine AC.skip (ib_n (th_n (AC.region ?_)))
     refine AL.p (by exact g_arith rfl rfl rfl (by exact wrap_i64 (by omega))) rfl ?_
     refine AL.p (by exact mv1 rfl) rfl ?_
     refine AL.nil (th_n ?_)
     (have e : ¬ h = true := (by simpa using ‹(!!h) = false›); rw [if_neg e, List.append_nil] at hHk; exact ⟨k + 1, by omega, by omega, Weak.ren _ [(100, 100)] hC rfl (by rw [hHk]; repeat (first | exact True.intro | refine And.intro ?_ ?_ | exact DLead.same | exact rfl | refine ⟨_, rfl, ?_⟩)) (by rw [hHk]; repeat (first | exact True.intro | refine And.intro ?_ ?_ | exact rfl | refine ⟨_, _, rfl, rfl, ?_⟩)) rfl rfl rfl⟩)
   ·refine AC.exit (th_e (th_e (ib_y (th_n (AC.seq ?_)))))
    have hkk : k = x.marks.length := by omega
    rw [hkk]
    refine AC.weak (Weak.freeze (i := 4) rfl rfl (Nat.le_of_eq (ints_len _).symm) (List.take_of_length_le (Nat.le_of_eq (ints_len _)))) ?_
    refine AC.region ?_
    refine AL.p (by exact mv1 rfl) rfl ?_
    refine AL.p (by exact as1 rfl) rfl ?_
    refine AL.p (by exact as1 rfl) rfl ?_
    refine AL.nil (th_n (AC.ret (bq_r ?_)))
    exact ret0 rfl (by rw [hR]; show AV.leads _ (.tup [.d (vI (deadL x x.marks.length)), aT true]) _; repeat (first | exact DLead.same | exact rfl | refine ⟨_, rfl, ?_⟩ | refine ⟨_, _, rfl, ?_, ?_⟩))
theorem en_iDeadl : Enters Tryz.prog 32 := enters_of Tryz.func32 rfl rfl
theorem movesR_good {x : Ex} (hg : goodR x = true) {k : Nat} (hk : k < x.marks.length) : movesR x (k : Int) = (fromL x k, true) := by
 unfold movesR
 rw [if_pos (by rw [hg, Bool.true_and, Bool.and_eq_true, decide_eq_true_eq, decide_eq_true_eq]; omega)]
 rfl
set_option maxHeartbeats 4000000 in
theorem sDeadl_spec (x : Ex) (h1l : x.marks.length ≤ 100000) (h2l : x.moves.length ≤ 1000000) : ASpec Tryz.prog 33 [rgA x] [] (Pure1 (.tup [.d (vI (deadR x).1), aT (deadR x).2])) := by
 have hV := sGoodR_spec x (by omega) h2l
 have hM := fun (h : goodR x = true) (k : Nat) (hk : k < x.marks.length) => movesR_good h hk
 have hR : deadR x = if goodR x = true then (deadL x x.marks.length, true) else ([], false) := rfl
 have hHs := deadL_succ x
 have hHl := deadL_len x
 have hDB : ∀ k, deadB x k = decide ((fromL x k).length = 0) := fun k => rfl
 have hFl : ∀ k, (fromL x k).length ≤ x.moves.length := fun k => List.length_filter_le ..
 obtain ⟨b, hb⟩ : ∃ b, b = goodR x := ⟨_, rfl⟩
 rw [← hb] at hV hR hM
 obtain ⟨R, hRR⟩ : ∃ R, R = deadR x := ⟨_, rfl⟩
 rw [← hRR] at hR ⊢
 clear hb hRR
 refine ASpec.of Tryz.func33 rfl rfl fun C hC => ?_
 refine AC.seq (AC.region ?_)
 refine AL.q (by exact h_boxF rfl rfl) rfl ?_
 refine AL.p (by exact as1 rfl) rfl ?_
 refine AL.p (by exact as1 rfl) rfl ?_
 refine AL.nil (th_n (AC.seq (AC.seq (AC.region ?_))))
 refine AL.p (by exact g_load_refN rfl rfl rfl rfl) rfl ?_
 refine AL.q (by exact h_pure en_sGoodR rfl rfl (by repeat (first | exact rfl | exact DLead.same | refine ⟨_, _, rfl, ?_, ?_⟩ | refine ⟨_, rfl, ?_⟩)) hV rfl) rfl ?_
 refine AL.p (by exact g_not rfl) rfl ?_
 refine AL.nil (th_n ?_)
 refine AC.condB rfl (fun h0 => ?_) (fun h0 => ?_)
 ·refine AC.seq (AC.region ?_)
  refine AL.p (by exact as1 rfl) rfl ?_
  refine AL.p (by exact as1 rfl) rfl ?_
  refine AL.nil (th_n (AC.ret (th_r (bq_r ?_))))
  have e : R = ([], false) := hR.trans (if_neg (by simp_all))
  exact ret0 rfl (by rw [e]; show AV.leads _ (.tup [.d (vI []), aT false]) _; repeat (first | exact DLead.same | exact DLead.nil | exact rfl | refine ⟨_, rfl, ?_⟩ | refine ⟨_, _, rfl, ?_, ?_⟩))
 ·refine AC.skip (th_n (AC.seq ?_))
  have hb1 : b = true := by simp_all
  rw [if_pos hb1] at hR
  refine AC.region ?_
  refine AL.p (by exact as1 rfl) rfl ?_
  refine AL.nil (th_n (AC.seq (AC.seq (AC.region ?_))))
  refine AL.p (by exact g_fa_ref rfl rfl rfl rfl rfl rfl) rfl ?_
  refine AL.p (by exact g_load_ref rfl rfl rfl) rfl ?_
  refine AL.p (by exact g_len_view (k := x.marks.length) rfl rfl (tsX_len _)) rfl ?_
  refine AL.p (by exact mv1 rfl) rfl ?_
  refine AL.nil (th_n (AC.block ?_))
  refine AC.loop (ι := Nat) (fun k => ⟨32, 600, [(1, .d (.ref (rgD x))), (4, .own 100 (deadL x k).length), (13, aI x.marks.length), (14, aI k)], [(100, some (.arr 3 1 (ints (deadL x k))))]⟩) (fun k => k ≤ x.marks.length) (fun k => x.marks.length - k) (0) ?_ (Nat.zero_le _) ?_
  ·exact (Weak.nilOwn (i := 4) (e := 3) (sz := 1) rfl (by decide)).trans (Weak.ren _ [(100, _)] hC rfl (by repeat (first | exact True.intro | refine And.intro ?_ ?_ | exact DLead.same | exact rfl | refine ⟨_, rfl, ?_⟩)) (by repeat (first | exact True.intro | refine And.intro ?_ ?_ | exact rfl | refine ⟨_, _, rfl, rfl, ?_⟩)) rfl rfl rfl)
  ·intro k hk
   refine AC.seq (AC.region ?_)
   refine AL.p (by exact g_cmp rfl rfl rfl) rfl ?_
   refine AL.nil (th_n (AC.seq ?_))
   refine AC.condD rfl (fun h1 => ?_) (fun h1 => ?_)
   ·refine AC.skip (th_n (AC.seq (AC.block (AC.seq ?_))))
    have hk1 : k < x.marks.length := by omega
    have hMv := sMovesFrom_spec x (k : Int) (by omega) (by omega) h2l
    rw [hM hb1 k hk1] at hMv
    have hHk := hHs k
    have hHlk := hHl k
    rw [hDB k] at hHk
    have hFk := hFl k
    obtain ⟨L, hL⟩ : ∃ L, L = fromL x k := ⟨_, rfl⟩
    rw [← hL] at hMv hHk hFk
    clear hL
    refine AC.region ?_
    refine AL.p (by exact mv1 rfl) rfl ?_
    refine AL.p (by exact as1 rfl) rfl ?_
    refine AL.nil (th_n (AC.seq (AC.region ?_)))
    refine AL.p (by exact g_load_refN rfl rfl rfl rfl) rfl ?_
    refine AL.p (by exact mv1 rfl) rfl ?_
    refine AL.q (by exact h_pure en_sMovesFrom rfl rfl (by repeat (first | exact rfl | exact DLead.same | refine ⟨_, _, rfl, ?_, ?_⟩ | refine ⟨_, rfl, ?_⟩)) hMv rfl) rfl ?_
    refine AL.p (by exact mv5 rfl) rfl ?_
    refine AL.p (by exact g_extract (r := .d _) rfl rfl) rfl ?_
    refine AL.p (by exact g_extract (r := .d _) rfl rfl) rfl ?_
    refine AL.p (by exact as1 rfl) rfl ?_
    refine AL.p (by exact as1 rfl) rfl ?_
    refine AL.nil (th_n (AC.seq (AC.region ?_)))
    refine AL.p (by exact mv1 rfl) rfl ?_
    refine AL.p (by exact g_len_view (k := L.length) rfl rfl (mvL_len _)) rfl ?_
    refine AL.p (by exact g_cmp rfl rfl rfl) rfl ?_
    refine AL.nil (th_n ?_)
    refine AC.condD rfl (fun h2 => ?_) (fun h2 => ?_)
    ·refine AC.region ?_
     refine AL.p (by exact mv2 rfl) rfl ?_
     refine AL.p (by exact mv1 rfl) rfl ?_
     refine AL.q (by exact h_litF rfl rfl rfl rfl rfl rfl rfl rfl) rfl ?_
     refine AL.q (by exact h_appendI (deadL x k) [(k : Int)] (.own rfl rfl (ints_len _).symm) (.view rfl) (by rw [List.length_append]; simp only [List.length_cons, List.length_nil]; omega) (by simp)) rfl ?_
     refine AL.p (by exact as2 rfl) rfl ?_
     refine AL.nil (ib_n (th_n (AC.region ?_)))
     refine AL.p (by exact g_arith rfl rfl rfl (by exact wrap_i64 (by omega))) rfl ?_
     refine AL.p (by exact mv1 rfl) rfl ?_
     refine AL.nil (th_n ?_)
     (have q := ‹(L.length : Int) = 0›; have e : decide (L.length = 0) = true := decide_eq_true (by omega); rw [if_pos e] at hHk; exact ⟨k + 1, by omega, by omega, Weak.ren _ [(100, _)] hC rfl (by rw [hHk]; repeat (first | exact True.intro | refine And.intro ?_ ?_ | exact DLead.same | exact rfl | refine ⟨_, rfl, ?_⟩)) (by rw [hHk]; repeat (first | exact True.intro | refine And.intro ?_ ?_ | exact rfl | refine ⟨_, _, rfl, rfl, ?_⟩)) rfl rfl rfl⟩)
    ·refine AC.skip (ib_n (th_n (AC.region ?_)))
     refine AL.p (by exact g_arith rfl rfl rfl (by exact wrap_i64 (by omega))) rfl ?_
     refine AL.p (by exact mv1 rfl) rfl ?_
     refine AL.nil (th_n ?_)
     (have q := ‹¬ (L.length : Int) = 0›; have e : ¬ decide (L.length = 0) = true := (by rw [decide_eq_true_eq]; omega); rw [if_neg e, List.append_nil] at hHk; exact ⟨k + 1, by omega, by omega, Weak.ren _ [(100, 100)] hC rfl (by rw [hHk]; repeat (first | exact True.intro | refine And.intro ?_ ?_ | exact DLead.same | exact rfl | refine ⟨_, rfl, ?_⟩)) (by rw [hHk]; repeat (first | exact True.intro | refine And.intro ?_ ?_ | exact rfl | refine ⟨_, _, rfl, rfl, ?_⟩)) rfl rfl rfl⟩)
   ·refine AC.exit (th_e (th_e (ib_y (th_n (AC.seq ?_)))))
    have hkk : k = x.marks.length := by omega
    rw [hkk]
    refine AC.weak (Weak.freeze (i := 4) rfl rfl (Nat.le_of_eq (ints_len _).symm) (List.take_of_length_le (Nat.le_of_eq (ints_len _)))) ?_
    refine AC.region ?_
    refine AL.p (by exact mv1 rfl) rfl ?_
    refine AL.p (by exact as1 rfl) rfl ?_
    refine AL.p (by exact as1 rfl) rfl ?_
    refine AL.nil (th_n (AC.ret (bq_r ?_)))
    exact ret0 rfl (by rw [hR]; show AV.leads _ (.tup [.d (vI (deadL x x.marks.length)), aT true]) _; repeat (first | exact DLead.same | exact rfl | refine ⟨_, rfl, ?_⟩ | refine ⟨_, _, rfl, ?_, ?_⟩))
theorem en_sDeadl : Enters Tryz.prog 33 := enters_of Tryz.func33 rfl rfl
set_option maxHeartbeats 4000000 in
theorem iDeadT_spec (s : Stg) (x : Ex) (hB : StgB s) (h1l : x.marks.length ≤ 100000) (h2l : x.moves.length ≤ 1000000) : ASpec Tryz.prog 35 [stgA s, rgA x] [] (Pure1 (.tup [.d (vI (neverR s x).1), aT (neverR s x).2])) := by
 have hV := iIsValidSTG_spec s hB.L
 have hV2 := iIsReach_spec x (by omega) h2l
 have hR : neverR s x = if (goodS s && goodR x) = true then (neverL x s.labs.length, true) else ([], false) := rfl
 have hHs := neverL_succ x
 have hHl := neverL_len x
 have hll := hB.l
 obtain ⟨b, hb⟩ : ∃ b, b = goodS s := ⟨_, rfl⟩
 rw [← hb] at hV hR
 obtain ⟨b2, hb2⟩ : ∃ b, b = goodR x := ⟨_, rfl⟩
 rw [← hb2] at hV2 hR
 obtain ⟨R, hRR⟩ : ∃ R, R = neverR s x := ⟨_, rfl⟩
 rw [← hRR] at hR ⊢
 clear hb hb2 hRR
 refine ASpec.of Tryz.func35 rfl rfl fun C hC => ?_
 refine AC.seq (AC.region ?_)
 refine AL.q (by exact h_boxF rfl rfl) rfl ?_
 refine AL.q (by exact h_boxF rfl rfl) rfl ?_
 refine AL.p (by exact as1 rfl) rfl ?_
 refine AL.p (by exact as1 rfl) rfl ?_
 refine AL.nil (th_n (AC.seq (AC.seq (AC.region ?_))))
 refine AL.p (by exact g_load_refN rfl rfl rfl rfl) rfl ?_
 refine AL.q (by exact h_pure en_iIsValidSTG rfl rfl (by repeat (first | exact rfl | exact DLead.same | refine ⟨_, _, rfl, ?_, ?_⟩ | refine ⟨_, rfl, ?_⟩)) hV rfl) rfl ?_
 refine AL.p (by exact g_not rfl) rfl ?_
 refine AL.p (by exact mv1 rfl) rfl ?_
 refine AL.caseGB rfl rfl (fun h0 => ?_) (fun h0 => ?_)
 ·refine AL.not rfl rfl rfl rfl rfl ?_
  refine AL.not rfl rfl rfl rfl rfl ?_
  refine AL.not rfl rfl rfl rfl rfl ?_
  refine AL.p (by exact g_pickT (r := .d _) rfl rfl) rfl ?_
  refine AL.nil (th_n ?_)
  refine AC.condT rfl ?_
  refine AC.seq (AC.region ?_)
  refine AL.p (by exact as1 rfl) rfl ?_
  refine AL.p (by exact as1 rfl) rfl ?_
  refine AL.nil (th_n (AC.ret (th_r (bq_r ?_))))
  have e : R = ([], false) := hR.trans (if_neg (by simp_all))
  exact ret0 rfl (by rw [e]; show AV.leads _ (.tup [.d (vI []), aT false]) _; repeat (first | exact DLead.same | exact DLead.nil | exact rfl | refine ⟨_, rfl, ?_⟩ | refine ⟨_, _, rfl, ?_, ?_⟩))
 ·refine AL.yes rfl rfl rfl ?_
  refine AL.p (by exact g_load_refN rfl rfl rfl rfl) rfl ?_
  refine AL.yes rfl rfl rfl ?_
  refine AL.q (by exact h_pure en_iIsReach rfl rfl (by repeat (first | exact rfl | exact DLead.same | refine ⟨_, _, rfl, ?_, ?_⟩ | refine ⟨_, rfl, ?_⟩)) hV2 rfl) rfl ?_
  refine AL.yes rfl rfl rfl ?_
  refine AL.p (by exact g_not rfl) rfl ?_
  refine AL.p (by exact g_pickF (r := .d _) rfl rfl) rfl ?_
  refine AL.nil (th_n ?_)
  refine AC.condB rfl (fun h1 => ?_) (fun h1 => ?_)
  ·refine AC.seq (AC.region ?_)
   refine AL.p (by exact as1 rfl) rfl ?_
   refine AL.p (by exact as1 rfl) rfl ?_
   refine AL.nil (th_n (AC.ret (th_r (bq_r ?_))))
   have e : R = ([], false) := hR.trans (if_neg (by simp_all))
   exact ret0 rfl (by rw [e]; show AV.leads _ (.tup [.d (vI []), aT false]) _; repeat (first | exact DLead.same | exact DLead.nil | exact rfl | refine ⟨_, rfl, ?_⟩ | refine ⟨_, _, rfl, ?_, ?_⟩))
  ·refine AC.skip (th_n (AC.seq ?_))
   have hb1 : (b && b2) = true := by simp_all
   rw [if_pos hb1] at hR
   refine AC.region ?_
   refine AL.q (by exact h_lit rfl rfl rfl rfl rfl rfl rfl rfl) rfl ?_
   refine AL.p (by exact as2 rfl) rfl ?_
   refine AL.nil (th_n (AC.seq (AC.seq (AC.region ?_))))
   refine AL.p (by exact g_fa_ref rfl rfl rfl rfl rfl rfl) rfl ?_
   refine AL.p (by exact g_load_ref rfl rfl rfl) rfl ?_
   refine AL.p (by exact g_len_view (k := s.labs.length) rfl rfl (labsL_len _)) rfl ?_
   refine AL.p (by exact mv1 rfl) rfl ?_
   refine AL.nil (th_n (AC.block ?_))
   refine AC.loop (ι := Nat) (fun k => ⟨34, 600, [(2, .d (.ref (stgD s))), (3, .d (.ref (rgD x))), (6, .own 100 (neverL x k).length), (19, aI s.labs.length), (20, aI k)], [(100, some (.arr 3 1 (ints (neverL x k))))]⟩) (fun k => k ≤ s.labs.length) (fun k => s.labs.length - k) (0) ?_ (Nat.zero_le _) ?_
   ·exact Weak.ren _ [(100, _)] hC rfl (by repeat (first | exact True.intro | refine And.intro ?_ ?_ | exact DLead.same | exact rfl | refine ⟨_, rfl, ?_⟩)) (by repeat (first | exact True.intro | refine And.intro ?_ ?_ | exact rfl | refine ⟨_, _, rfl, rfl, ?_⟩)) rfl rfl rfl
   ·intro k hk
    refine AC.seq (AC.region ?_)
    refine AL.p (by exact g_cmp rfl rfl rfl) rfl ?_
    refine AL.nil (th_n (AC.seq ?_))
    refine AC.condD rfl (fun h2 => ?_) (fun h2 => ?_)
    ·refine AC.skip (th_n (AC.seq (AC.block (AC.seq ?_))))
     have hk1 : k < s.labs.length := by omega
     have hCf := cfMv_spec x.moves h2l 128 [.ref [dI (k : Int)]] en_iDeadT1 (fun v => decide (v.by_ = (k : Int))) (fun v _ => iDeadT1_spec v k)
     have hHk := hHs k
     have hHlk := hHl k
     obtain ⟨h, hh⟩ : ∃ h, h = (x.moves.any fun v => decide (v.by_ = (k : Int))) := ⟨_, rfl⟩
     rw [← hh] at hCf hHk
     clear hh
     refine AC.region ?_
     refine AL.p (by exact mv1 rfl) rfl ?_
     refine AL.q (by exact h_alloc rfl) rfl ?_
     refine AL.q (by exact h_store rfl rfl rfl rfl rfl rfl) rfl ?_
     refine AL.nil (th_n (AC.seq (AC.region ?_)))
     refine AL.p (by exact g_fa_ref rfl rfl rfl rfl rfl rfl) rfl ?_
     refine AL.p (by exact g_load_ref rfl rfl rfl) rfl ?_
     refine AL.p (by exact g_fn rfl) rfl ?_
     refine AL.q (by exact h_borrow [600] en_cfMv rfl rfl hCf (.cons (.of .d) (.cons (.cloB (.cons (.ptr rfl rfl (.cons .d .nil)) .nil)) .nil)) rfl) rfl ?_
     refine AL.p (by exact g_not rfl) rfl ?_
     refine AL.nil (th_n ?_)
     refine AC.condB rfl (fun h3 => ?_) (fun h3 => ?_)
     ·refine AC.region ?_
      refine AL.p (by exact mv2 rfl) rfl ?_
      refine AL.p (by exact g_load_ptr rfl rfl rfl rfl rfl) rfl ?_
      refine AL.q (by exact h_litF rfl rfl rfl rfl rfl rfl rfl rfl) rfl ?_
      refine AL.q (by exact h_appendI (neverL x k) [(k : Int)] (.own rfl rfl (ints_len _).symm) (.view rfl) (by rw [List.length_append]; simp only [List.length_cons, List.length_nil]; omega) (by simp)) rfl ?_
      refine AL.p (by exact as2 rfl) rfl ?_
      refine AL.nil (ib_n (th_n (AC.region ?_)))
      refine AL.p (by exact g_arith rfl rfl rfl (by exact wrap_i64 (by omega))) rfl ?_
      refine AL.p (by exact mv1 rfl) rfl ?_
      refine AL.nil (th_n ?_)
      (have e : ¬ h = true := (by simpa using ‹(!h) = true›); rw [if_neg e] at hHk; exact ⟨k + 1, by omega, by omega, Weak.ren _ [(100, _)] hC rfl (by rw [hHk]; repeat (first | exact True.intro | refine And.intro ?_ ?_ | exact DLead.same | exact rfl | refine ⟨_, rfl, ?_⟩)) (by rw [hHk]; repeat (first | exact True.intro | refine And.intro ?_ ?_ | exact rfl | refine ⟨_, _, rfl, rfl, ?_⟩)) rfl rfl rfl⟩)
     ·refine AC.skip (ib_n (th_n (AC.region ?_)))
      refine AL.p (by exact g_arith rfl rfl rfl (by exact wrap_i64 (by omega))) rfl ?_
      refine AL.p (by exact mv1 rfl) rfl ?_
      refine AL.nil (th_n ?_)
      (have e : h = true := (by simpa using ‹(!h) = false›); rw [if_pos e, List.append_nil] at hHk; exact ⟨k + 1, by omega, by omega, Weak.ren _ [(100, 100)] hC rfl (by rw [hHk]; repeat (first | exact True.intro | refine And.intro ?_ ?_ | exact DLead.same | exact rfl | refine ⟨_, rfl, ?_⟩)) (by rw [hHk]; repeat (first | exact True.intro | refine And.intro ?_ ?_ | exact rfl | refine ⟨_, _, rfl, rfl, ?_⟩)) rfl rfl rfl⟩)
    ·refine AC.exit (th_e (th_e (ib_y (th_n (AC.seq ?_)))))
     have hkk : k = s.labs.length := by omega
     rw [hkk]
     refine AC.weak (Weak.freeze (i := 6) rfl rfl (Nat.le_of_eq (ints_len _).symm) (List.take_of_length_le (Nat.le_of_eq (ints_len _)))) ?_
     refine AC.region ?_
     refine AL.p (by exact mv1 rfl) rfl ?_
     refine AL.p (by exact as1 rfl) rfl ?_
     refine AL.p (by exact as1 rfl) rfl ?_
     refine AL.nil (th_n (AC.ret (bq_r ?_)))
     exact ret0 rfl (by rw [hR]; show AV.leads _ (.tup [.d (vI (neverL x s.labs.length)), aT true]) _; repeat (first | exact DLead.same | exact rfl | refine ⟨_, rfl, ?_⟩ | refine ⟨_, _, rfl, ?_, ?_⟩))
theorem en_iDeadT : Enters Tryz.prog 35 := enters_of Tryz.func35 rfl rfl
theorem any_take {l : List Mv} {p : Mv → Bool} {j : Nat} (h : j < l.length) : (l.take (j + 1)).any p = ((l.take j).any p || p l[j]) := by
 rw [List.take_add_one, List.getElem?_eq_getElem h, List.any_append]
 simp
set_option maxHeartbeats 8000000 in
theorem sDeadT_spec (s : Stg) (x : Ex) (hB : StgB s) (h1l : x.marks.length ≤ 100000) (h2l : x.moves.length ≤ 1000000) : ASpec Tryz.prog 36 [stgA s, rgA x] [] (Pure1 (.tup [.d (vI (neverR s x).1), aT (neverR s x).2])) := by
 have hV := l2Good_spec s hB.L
 have hV2 := sGoodR_spec x (by omega) h2l
 have hR : neverR s x = if (goodS s && goodR x) = true then (neverL x s.labs.length, true) else ([], false) := rfl
 have hHs := neverL_succ x
 have hHl := neverL_len x
 have hll := hB.l
 have hlt := fun h : goodS s = true => (goodS_sigs h).2.2.2
 obtain ⟨b, hb⟩ : ∃ b, b = goodS s := ⟨_, rfl⟩
 rw [← hb] at hV hR hlt
 obtain ⟨b2, hb2⟩ : ∃ b, b = goodR x := ⟨_, rfl⟩
 rw [← hb2] at hV2 hR
 obtain ⟨R, hRR⟩ : ∃ R, R = neverR s x := ⟨_, rfl⟩
 rw [← hRR] at hR ⊢
 clear hb hb2 hRR
 refine ASpec.of Tryz.func36 rfl rfl fun C hC => ?_
 refine AC.seq (AC.region ?_)
 refine AL.q (by exact h_boxF rfl rfl) rfl ?_
 refine AL.q (by exact h_boxF rfl rfl) rfl ?_
 refine AL.p (by exact as1 rfl) rfl ?_
 refine AL.p (by exact as1 rfl) rfl ?_
 refine AL.nil (th_n (AC.seq (AC.seq (AC.region ?_))))
 refine AL.p (by exact g_load_refN rfl rfl rfl rfl) rfl ?_
 refine AL.q (by exact h_pure en_l2Good rfl rfl (by repeat (first | exact rfl | exact DLead.same | refine ⟨_, _, rfl, ?_, ?_⟩ | refine ⟨_, rfl, ?_⟩)) hV rfl) rfl ?_
 refine AL.p (by exact g_not rfl) rfl ?_
 refine AL.p (by exact mv1 rfl) rfl ?_
 refine AL.caseGB rfl rfl (fun h0 => ?_) (fun h0 => ?_)
 ·refine AL.not rfl rfl rfl rfl rfl ?_
  refine AL.not rfl rfl rfl rfl rfl ?_
  refine AL.not rfl rfl rfl rfl rfl ?_
  refine AL.p (by exact g_pickT (r := .d _) rfl rfl) rfl ?_
  refine AL.nil (th_n ?_)
  refine AC.condT rfl ?_
  refine AC.seq (AC.region ?_)
  refine AL.p (by exact as1 rfl) rfl ?_
  refine AL.p (by exact as1 rfl) rfl ?_
  refine AL.nil (th_n (AC.ret (th_r (bq_r ?_))))
  have e : R = ([], false) := hR.trans (if_neg (by simp_all))
  exact ret0 rfl (by rw [e]; show AV.leads _ (.tup [.d (vI []), aT false]) _; repeat (first | exact DLead.same | exact DLead.nil | exact rfl | refine ⟨_, rfl, ?_⟩ | refine ⟨_, _, rfl, ?_, ?_⟩))
 ·refine AL.yes rfl rfl rfl ?_
  refine AL.p (by exact g_load_refN rfl rfl rfl rfl) rfl ?_
  refine AL.yes rfl rfl rfl ?_
  refine AL.q (by exact h_pure en_sGoodR rfl rfl (by repeat (first | exact rfl | exact DLead.same | refine ⟨_, _, rfl, ?_, ?_⟩ | refine ⟨_, rfl, ?_⟩)) hV2 rfl) rfl ?_
  refine AL.yes rfl rfl rfl ?_
  refine AL.p (by exact g_not rfl) rfl ?_
  refine AL.p (by exact g_pickF (r := .d _) rfl rfl) rfl ?_
  refine AL.nil (th_n ?_)
  refine AC.condB rfl (fun h1 => ?_) (fun h1 => ?_)
  ·refine AC.seq (AC.region ?_)
   refine AL.p (by exact as1 rfl) rfl ?_
   refine AL.p (by exact as1 rfl) rfl ?_
   refine AL.nil (th_n (AC.ret (th_r (bq_r ?_))))
   have e : R = ([], false) := hR.trans (if_neg (by simp_all))
   exact ret0 rfl (by rw [e]; show AV.leads _ (.tup [.d (vI []), aT false]) _; repeat (first | exact DLead.same | exact DLead.nil | exact rfl | refine ⟨_, rfl, ?_⟩ | refine ⟨_, _, rfl, ?_, ?_⟩))
  ·refine AC.skip (th_n (AC.seq ?_))
   have hb1 : (b && b2) = true := by simp_all
   have hlt2 := hlt (Bool.and_eq_true_iff.1 hb1).1
   rw [if_pos hb1, hlt2] at hR
   refine AC.region ?_
   refine AL.p (by exact as1 rfl) rfl ?_
   refine AL.nil (th_n (AC.seq (AC.seq (AC.region ?_))))
   refine AL.p (by exact g_fa_ref rfl rfl rfl rfl rfl rfl) rfl ?_
   refine AL.p (by exact g_fa_ref rfl rfl rfl rfl rfl rfl) rfl ?_
   refine AL.p (by exact g_load_ref rfl rfl rfl) rfl ?_
   refine AL.p (by exact g_len_view (k := s.net.ts.length) rfl rfl (tsL_len _)) rfl ?_
   refine AL.p (by exact mv1 rfl) rfl ?_
   refine AL.nil (th_n (AC.block ?_))
   refine AC.loop (ι := Nat) (fun k => ⟨49, 600, [(2, .d (.ref (stgD s))), (3, .d (.ref (rgD x))), (6, .own 100 (neverL x k).length), (22, aI s.net.ts.length), (23, aI k)], [(100, some (.arr 3 1 (ints (neverL x k))))]⟩) (fun k => k ≤ s.net.ts.length) (fun k => s.net.ts.length - k) (0) ?_ (Nat.zero_le _) ?_
   ·exact (Weak.nilOwn (i := 6) (e := 3) (sz := 1) rfl (by decide)).trans (Weak.ren _ [(100, _)] hC rfl (by repeat (first | exact True.intro | refine And.intro ?_ ?_ | exact DLead.same | exact rfl | refine ⟨_, rfl, ?_⟩)) (by repeat (first | exact True.intro | refine And.intro ?_ ?_ | exact rfl | refine ⟨_, _, rfl, rfl, ?_⟩)) rfl rfl rfl)
   ·intro k hk
    refine AC.seq (AC.region ?_)
    refine AL.p (by exact g_cmp rfl rfl rfl) rfl ?_
    refine AL.nil (th_n (AC.seq ?_))
    refine AC.condD rfl (fun h2 => ?_) (fun h2 => ?_)
    ·refine AC.skip (th_n (AC.seq (AC.block (AC.seq ?_))))
     have hk1 : k < s.net.ts.length := by omega
     have hHk := hHs k
     have hHlk := hHl k
     have hAs := fun j (hj : j < x.moves.length) => any_take (p := fun v : Mv => decide (v.by_ = (k : Int))) hj
     refine AC.region ?_
     refine AL.p (by exact mv1 rfl) rfl ?_
     refine AL.p (by exact as1 rfl) rfl ?_
     refine AL.nil (th_n (AC.seq (AC.region ?_)))
     refine AL.p (by exact as1 rfl) rfl ?_
     refine AL.nil (th_n (AC.seq (AC.seq (AC.region ?_))))
     refine AL.p (by exact g_fa_ref rfl rfl rfl rfl rfl rfl) rfl ?_
     refine AL.p (by exact g_load_ref rfl rfl rfl) rfl ?_
     refine AL.p (by exact g_len_view (k := x.moves.length) rfl rfl (mvL_len _)) rfl ?_
     refine AL.p (by exact mv1 rfl) rfl ?_
     refine AL.nil (th_n (AC.block ?_))
     refine AC.loop (ι := Nat) (fun j => ⟨49, 900, [(2, .d (.ref (stgD s))), (3, .d (.ref (rgD x))), (6, .own 100 (neverL x k).length), (7, aI k), (8, aT ((x.moves.take j).any fun v => decide (v.by_ = (k : Int)))), (22, aI s.net.ts.length), (23, aI k), (27, .d (vMvs x.moves)), (28, aI x.moves.length), (29, aI j)], [(100, some (.arr 3 1 (ints (neverL x k))))]⟩) (fun j => j ≤ x.moves.length) (fun j => x.moves.length - j) (0) ?_ (Nat.zero_le _) ?_
     ·exact Weak.ren _ [(100, 100)] hC rfl (by repeat (first | exact True.intro | refine And.intro ?_ ?_ | exact DLead.same | exact rfl | refine ⟨_, rfl, ?_⟩)) (by repeat (first | exact True.intro | refine And.intro ?_ ?_ | exact rfl | refine ⟨_, _, rfl, rfl, ?_⟩)) rfl rfl rfl
     ·intro j hj
      refine AC.seq (AC.region ?_)
      refine AL.p (by exact g_cmp rfl rfl rfl) rfl ?_
      refine AL.nil (th_n (AC.seq ?_))
      refine AC.condD rfl (fun h3 => ?_) (fun h3 => ?_)
      ·refine AC.skip (th_n (AC.seq (AC.block (AC.seq ?_))))
       have hj1 : j < x.moves.length := by omega
       have hget := mvL_get hj1
       have hsu := hAs j hj1
       obtain ⟨v, hv⟩ : ∃ v, v = x.moves[j] := ⟨_, rfl⟩
       rw [← hv] at hget hsu
       obtain ⟨g, hg⟩ : ∃ g, g = (x.moves.take j).any fun v => decide (v.by_ = (k : Int)) := ⟨_, rfl⟩
       rw [← hg] at hsu ⊢
       clear hv hg
       refine AC.region ?_
       refine AL.p (by exact g_ia_view rfl rfl rfl rfl rfl (by rfl) (by assumption)) rfl ?_
       refine AL.p (by exact g_load_refN rfl rfl rfl rfl) rfl ?_
       refine AL.q (by exact h_alloc rfl) rfl ?_
       refine AL.q (by exact h_store rfl rfl rfl rfl rfl rfl) rfl ?_
       refine AL.nil (th_n (AC.region ?_))
       refine AL.p (by exact mv1 rfl) rfl ?_
       refine AL.p (by exact mv1 rfl) rfl ?_
       refine AL.caseGB rfl rfl (fun h4 => ?_) (fun h4 => ?_)
       ·refine AL.not rfl rfl rfl rfl rfl ?_
        refine AL.not rfl rfl rfl rfl rfl ?_
        refine AL.not rfl rfl rfl rfl rfl ?_
        refine AL.not rfl rfl rfl rfl rfl ?_
        refine AL.p (by exact g_pickT (r := .d _) rfl rfl) rfl ?_
        refine AL.p (by exact as1 rfl) rfl ?_
        refine AL.nil (ib_n (th_n (AC.region ?_)))
        refine AL.p (by exact g_arith rfl rfl rfl (by exact wrap_i64 (by omega))) rfl ?_
        refine AL.p (by exact mv1 rfl) rfl ?_
        refine AL.nil (th_n ?_)
        (have e : g = true := ‹g = true›; rw [e, Bool.true_or] at hsu; exact ⟨j + 1, by omega, by omega, Weak.ren _ [(100, 100)] hC rfl (by rw [hsu]; repeat (first | exact True.intro | refine And.intro ?_ ?_ | exact DLead.same | exact rfl | refine ⟨_, rfl, ?_⟩)) (by repeat (first | exact True.intro | refine And.intro ?_ ?_ | exact rfl | refine ⟨_, _, rfl, rfl, ?_⟩)) rfl rfl rfl⟩)
       ·refine AL.yes rfl rfl rfl ?_
        refine AL.p (by exact g_fa_ptr rfl rfl rfl rfl rfl) rfl ?_
        refine AL.yes rfl rfl rfl ?_
        refine AL.p (by exact g_load_ptr rfl rfl rfl rfl rfl) rfl ?_
        refine AL.yes rfl rfl rfl ?_
        refine AL.p (by exact mv1 rfl) rfl ?_
        refine AL.yes rfl rfl rfl ?_
        refine AL.p (by exact g_cmp rfl rfl rfl) rfl ?_
        refine AL.p (by exact g_pickF (r := .d _) rfl rfl) rfl ?_
        refine AL.p (by exact as1 rfl) rfl ?_
        refine AL.nil (ib_n (th_n (AC.region ?_)))
        refine AL.p (by exact g_arith rfl rfl rfl (by exact wrap_i64 (by omega))) rfl ?_
        refine AL.p (by exact mv1 rfl) rfl ?_
        refine AL.nil (th_n ?_)
        (have e : g = false := ‹g = false›; rw [e, Bool.false_or] at hsu; exact ⟨j + 1, by omega, by omega, Weak.ren _ [(100, 100)] hC rfl (by rw [hsu]; repeat (first | exact True.intro | refine And.intro ?_ ?_ | exact DLead.same | exact rfl | refine ⟨_, rfl, ?_⟩)) (by repeat (first | exact True.intro | refine And.intro ?_ ?_ | exact rfl | refine ⟨_, _, rfl, rfl, ?_⟩)) rfl rfl rfl⟩)
      ·refine AC.exit (th_e (th_e (ib_y (th_n (AC.seq ?_)))))
       have hjj : j = x.moves.length := by omega
       rw [hjj, List.take_length]
       obtain ⟨h, hh⟩ : ∃ h, h = (x.moves.any fun v => decide (v.by_ = (k : Int))) := ⟨_, rfl⟩
       rw [← hh] at hHk ⊢
       clear hh
       refine AC.region ?_
       refine AL.p (by exact mv1 rfl) rfl ?_
       refine AL.p (by exact g_not rfl) rfl ?_
       refine AL.nil (th_n ?_)
       refine AC.condB rfl (fun h4 => ?_) (fun h4 => ?_)
       ·refine AC.region ?_
        refine AL.p (by exact mv2 rfl) rfl ?_
        refine AL.p (by exact mv1 rfl) rfl ?_
        refine AL.q (by exact h_litF rfl rfl rfl rfl rfl rfl rfl rfl) rfl ?_
        refine AL.q (by exact h_appendI (neverL x k) [(k : Int)] (.own rfl rfl (ints_len _).symm) (.view rfl) (by rw [List.length_append]; simp only [List.length_cons, List.length_nil]; omega) (by simp)) rfl ?_
        refine AL.p (by exact as2 rfl) rfl ?_
        refine AL.nil (ib_n (th_n (AC.region ?_)))
        refine AL.p (by exact g_arith rfl rfl rfl (by exact wrap_i64 (by omega))) rfl ?_
        refine AL.p (by exact mv1 rfl) rfl ?_
        refine AL.nil (th_n ?_)
        (have e : ¬ h = true := (by simpa using ‹(!h) = true›); rw [if_neg e] at hHk; exact ⟨k + 1, by omega, by omega, Weak.ren _ [(100, _)] hC rfl (by rw [hHk]; repeat (first | exact True.intro | refine And.intro ?_ ?_ | exact DLead.same | exact rfl | refine ⟨_, rfl, ?_⟩)) (by rw [hHk]; repeat (first | exact True.intro | refine And.intro ?_ ?_ | exact rfl | refine ⟨_, _, rfl, rfl, ?_⟩)) rfl rfl rfl⟩)
       ·refine AC.skip (ib_n (th_n (AC.region ?_)))
        refine AL.p (by exact g_arith rfl rfl rfl (by exact wrap_i64 (by omega))) rfl ?_
        refine AL.p (by exact mv1 rfl) rfl ?_
        refine AL.nil (th_n ?_)
        (have e : h = true := (by simpa using ‹(!h) = false›); rw [if_pos e, List.append_nil] at hHk; exact ⟨k + 1, by omega, by omega, Weak.ren _ [(100, 100)] hC rfl (by rw [hHk]; repeat (first | exact True.intro | refine And.intro ?_ ?_ | exact DLead.same | exact rfl | refine ⟨_, rfl, ?_⟩)) (by rw [hHk]; repeat (first | exact True.intro | refine And.intro ?_ ?_ | exact rfl | refine ⟨_, _, rfl, rfl, ?_⟩)) rfl rfl rfl⟩)
    ·refine AC.exit (th_e (th_e (ib_y (th_n (AC.seq ?_)))))
     have hkk : k = s.net.ts.length := by omega
     rw [hkk]
     refine AC.weak (Weak.freeze (i := 6) rfl rfl (Nat.le_of_eq (ints_len _).symm) (List.take_of_length_le (Nat.le_of_eq (ints_len _)))) ?_
     refine AC.region ?_
     refine AL.p (by exact mv1 rfl) rfl ?_
     refine AL.p (by exact as1 rfl) rfl ?_
     refine AL.p (by exact as1 rfl) rfl ?_
     refine AL.nil (th_n (AC.ret (bq_r ?_)))
     exact ret0 rfl (by rw [hR]; show AV.leads _ (.tup [.d (vI (neverL x s.net.ts.length)), aT true]) _; repeat (first | exact DLead.same | exact rfl | refine ⟨_, rfl, ?_⟩ | refine ⟨_, _, rfl, ?_, ?_⟩))
theorem en_sDeadT : Enters Tryz.prog 36 := enters_of Tryz.func36 rfl rfl
set_option maxHeartbeats 1000000 in
theorem sMarkIx_spec (x : Ex) (m : List UInt8) (h1l : x.marks.length ≤ 1000000) (h2l : x.moves.length ≤ 1000000) : ASpec Tryz.prog 41 [rgA x, aS (bstr m)] [] (Pure1 (.tup [aI (markIxR x m).1, aT (markIxR x m).2])) := by
 have hV := sGoodR_spec x h1l h2l
 have hF := l4Find_spec x.marks m h1l
 have hR : markIxR x m = if (goodR x && decide (0 ≤ posI m x.marks)) = true then (posI m x.marks, true) else (0, false) := rfl
 obtain ⟨b, hb⟩ : ∃ b, b = goodR x := ⟨_, rfl⟩
 rw [← hb] at hV hR
 obtain ⟨p, hp⟩ : ∃ p, p = posI m x.marks := ⟨_, rfl⟩
 rw [← hp] at hF hR
 obtain ⟨R, hRR⟩ : ∃ R, R = markIxR x m := ⟨_, rfl⟩
 rw [← hRR] at hR ⊢
 clear hb hp hRR
 refine ASpec.of Tryz.func41 rfl rfl fun C hC => ?_
 refine AC.seq (AC.region ?_)
 refine AL.q (by exact h_boxF rfl rfl) rfl ?_
 refine AL.p (by exact as1 rfl) rfl ?_
 refine AL.p (by exact as1 rfl) rfl ?_
 refine AL.nil (th_n (AC.seq (AC.seq (AC.region ?_))))
 refine AL.p (by exact g_load_refN rfl rfl rfl rfl) rfl ?_
 refine AL.q (by exact h_pure en_sGoodR rfl rfl (by repeat (first | exact rfl | exact DLead.same | refine ⟨_, _, rfl, ?_, ?_⟩ | refine ⟨_, rfl, ?_⟩)) hV rfl) rfl ?_
 refine AL.p (by exact g_not rfl) rfl ?_
 refine AL.p (by exact mv1 rfl) rfl ?_
 refine AL.caseGB rfl rfl (fun h0 => ?_) (fun h0 => ?_)
 ·refine AL.not rfl rfl rfl rfl rfl ?_
  refine AL.not rfl rfl rfl rfl rfl ?_
  refine AL.not rfl rfl rfl rfl rfl ?_
  refine AL.not rfl rfl rfl rfl rfl ?_
  refine AL.not rfl rfl rfl rfl rfl ?_
  refine AL.p (by exact g_pickT (r := .d _) rfl rfl) rfl ?_
  refine AL.nil (th_n ?_)
  refine AC.condT rfl ?_
  refine AC.seq (AC.region ?_)
  refine AL.p (by exact as1 rfl) rfl ?_
  refine AL.p (by exact as1 rfl) rfl ?_
  refine AL.nil (th_n (AC.ret (th_r (bq_r ?_))))
  have e : R = (0, false) := hR.trans (if_neg (by intro q; rw [Bool.and_eq_true, decide_eq_true_eq] at q; (obtain ⟨q1, q2⟩ := q; simp_all)))
  exact ret2 rfl (by rw [e]) (by rw [e])
 ·refine AL.yes rfl rfl rfl ?_
  refine AL.p (by exact g_fa_ref rfl rfl rfl rfl rfl rfl) rfl ?_
  refine AL.yes rfl rfl rfl ?_
  refine AL.p (by exact g_load_ref rfl rfl rfl) rfl ?_
  refine AL.yes rfl rfl rfl ?_
  refine AL.p (by exact mv1 rfl) rfl ?_
  refine AL.yes rfl rfl rfl ?_
  refine AL.q (by exact h_pure en_l4Find rfl rfl (by repeat (first | exact rfl | exact DLead.same | refine ⟨_, _, rfl, ?_, ?_⟩)) hF rfl) rfl ?_
  refine AL.yes rfl rfl rfl ?_
  refine AL.p (by exact g_cmp rfl rfl rfl) rfl ?_
  refine AL.p (by exact g_pickF (r := .d _) rfl rfl) rfl ?_
  refine AL.nil (th_n ?_)
  refine AC.condD rfl (fun h1 => ?_) (fun h1 => ?_)
  ·refine AC.seq (AC.region ?_)
   refine AL.p (by exact as1 rfl) rfl ?_
   refine AL.p (by exact as1 rfl) rfl ?_
   refine AL.nil (th_n (AC.ret (th_r (bq_r ?_))))
   have e : R = (0, false) := hR.trans (if_neg (by intro q; rw [Bool.and_eq_true, decide_eq_true_eq] at q; omega))
   exact ret2 rfl (by rw [e]) (by rw [e])
  ·refine AC.skip (th_n (AC.seq (AC.region ?_)))
   refine AL.p (by exact g_fa_ref rfl rfl rfl rfl rfl rfl) rfl ?_
   refine AL.p (by exact g_load_ref rfl rfl rfl) rfl ?_
   refine AL.p (by exact mv1 rfl) rfl ?_
   refine AL.q (by exact h_pure en_l4Find rfl rfl (by repeat (first | exact rfl | exact DLead.same | refine ⟨_, _, rfl, ?_, ?_⟩)) hF rfl) rfl ?_
   refine AL.p (by exact as1 rfl) rfl ?_
   refine AL.p (by exact as1 rfl) rfl ?_
   refine AL.nil (th_n (AC.ret (bq_r ?_)))
   have e : R = (p, true) := hR.trans (if_pos (by have : 0 ≤ p := (by omega); simp_all))
   exact ret2 rfl (by rw [e]) (by rw [e])
theorem en_sMarkIdx : Enters Tryz.prog 41 := enters_of Tryz.func41 rfl rfl
def BdI (M : Int) (l : List Int) : Prop := ∀ v, 0 ≤ l.getD v 0 ∧ l.getD v 0 ≤ M
theorem BdI.set {M : Int} {l : List Int} (h : BdI M l) (i : Nat) {x : Int} (hx : 0 ≤ x ∧ x ≤ M) : BdI M (l.set i x) := fun v => by
 rw [iget_set]; split
 ·exact hx
 ·exact h v
theorem BdI.zero {M : Int} (hM : 0 ≤ M) (n : Nat) : BdI M (List.replicate n 0) := fun v => by rw [iget_rep]; exact ⟨Int.le_refl _, hM⟩
theorem cutM_in {M a : Int} (hM : 0 ≤ M) (ha : 0 ≤ a) : 0 ≤ cutM M a ∧ cutM M a ≤ M := by unfold cutM; split <;> omega
theorem cutM_min (M a : Int) : (if M < a then M else a) = cutM M a := by unfold cutM; split <;> split <;> omega
theorem BdI.add {M : Int} (hM : 0 ≤ M) {now : List Int} (hn : BdI M now) : ∀ (L : List Mv) {a : List Int}, BdI M a → BdI M (addC M now L a)
 | [], a, h => h
 | v :: L, a, h => by
  rw [addC]
  exact BdI.add hM hn L (h.set _ (cutM_in hM (by have := h v.to_.toNat; have := hn v.from_.toNat; omega)))
theorem BdI.cnt {M : Int} (hM : 1 ≤ M) (L : List Mv) (n : Nat) : ∀ k, BdI M (cntC M L n k)
 | 0 => (BdI.zero (by omega) n).set 0 ⟨by decide, hM⟩
 | k + 1 => (BdI.cnt hM L n k).add (by omega) L (BdI.zero (by omega) n)
theorem sum_take {l : List Int} {i : Nat} (h : i < l.length) : (l.take (i + 1)).sum = (l.take i).sum + l.getD i 0 := by
 rw [List.take_add_one, List.getElem?_eq_getElem h, List.getD_eq_getElem?_getD, List.getElem?_eq_getElem h, List.sum_append]
 simp
theorem sum_bd {M : Int} {l : List Int} (h : BdI M l) : ∀ i, i ≤ l.length → 0 ≤ (l.take i).sum ∧ (l.take i).sum ≤ i * M
 | 0, _ => by simp
 | i + 1, hi => by
  have ih := sum_bd h i (by omega)
  have h1 := h i
  rw [sum_take (by omega), show ((i + 1 : Nat) : Int) * M = (i : Int) * M + M by rw [Int.natCast_add, Int.add_mul]; simp]
  omega
theorem l1Least_spec (a b : Int) : ASpec Tryz.prog 130 [aI a, aI b] [] (Pure1 (aI (if a < b then a else b))) := by
 refine ASpec.of Tryz.func130 rfl rfl fun C hC => ?_
 refine AC.seq (AC.region ?_)
 refine AL.p (by exact as1 rfl) rfl ?_
 refine AL.nil (th_n (AC.seq (AC.seq (AC.region ?_))))
 refine AL.p (by exact mv1 rfl) rfl ?_
 refine AL.p (by exact mv1 rfl) rfl ?_
 refine AL.p (by exact g_cmp rfl rfl rfl) rfl ?_
 refine AL.nil (th_n ?_)
 refine AC.condD rfl (fun h0 => ?_) (fun h0 => ?_)
 ·refine AC.seq (AC.region ?_)
  refine AL.p (by exact mv1 rfl) rfl ?_
  refine AL.p (by exact as1 rfl) rfl ?_
  refine AL.nil (th_n (AC.ret (th_r (bq_r ?_))))
  exact ret1 rfl (by rw [if_pos (by assumption)])
 ·refine AC.skip (th_n (AC.seq (AC.region ?_)))
  refine AL.p (by exact mv1 rfl) rfl ?_
  refine AL.p (by exact as1 rfl) rfl ?_
  refine AL.nil (th_n (AC.ret (bq_r ?_)))
  exact ret1 rfl (by rw [if_neg (by assumption)])
theorem en_l1Least : Enters Tryz.prog 130 := enters_of Tryz.func130 rfl rfl
set_option maxHeartbeats 16000000 in
theorem iCount_spec (x : Ex) (k : Int) (hk : -1000000 ≤ k ∧ k ≤ 1000000) (h1l : x.marks.length ≤ 100000) (h2l : x.moves.length ≤ 1000000) : ASpec Tryz.prog 38 [rgA x, aI k] [] (Pure1 (.tup [aI (countR x k).1, aT (countR x k).2])) := by
 have hV := iIsReach_spec x (by omega) h2l
 have hW := within_spec k 0 12
 have hM := fun h : goodR x = true => goodR_moves h
 have hn1 := fun h : goodR x = true => (goodR_iff.1 h).1
 have hR : countR x k = if (goodR x && (decide (0 ≤ k) && decide (k ≤ 12))) = true then (if (cntC 2000000 x.moves x.marks.length k.toNat).sum > 1000000 then (0, false) else ((cntC 2000000 x.moves x.marks.length k.toNat).sum, true)) else (0, false) := rfl
 have hBd := BdI.cnt (M := 2000000) (by decide) x.moves x.marks.length
 have hCl := cntC_len 2000000 x.moves x.marks.length
 have hC0 : cntC 2000000 x.moves x.marks.length 0 = (List.replicate x.marks.length 0).set 0 1 := rfl
 have hCs : ∀ i, cntC 2000000 x.moves x.marks.length (i + 1) = addC 2000000 (cntC 2000000 x.moves x.marks.length i) x.moves (List.replicate x.marks.length 0) := fun i => rfl
 obtain ⟨b, hb⟩ : ∃ b, b = goodR x := ⟨_, rfl⟩
 rw [← hb] at hV hR hM hn1
 obtain ⟨c, hc⟩ : ∃ c, c = (decide (0 ≤ k) && decide (k ≤ 12)) := ⟨_, rfl⟩
 rw [← hc] at hW hR
 obtain ⟨R, hRR⟩ : ∃ R, R = countR x k := ⟨_, rfl⟩
 rw [← hRR] at hR ⊢
 have hck : c = true → 0 ≤ k ∧ k ≤ 12 := fun h => by rw [hc, Bool.and_eq_true, decide_eq_true_eq, decide_eq_true_eq] at h; omega
 clear hb hc hRR
 obtain ⟨n, hn⟩ : ∃ n, n = x.marks.length := ⟨_, rfl⟩
 simp only [← hn] at h1l hR hBd hCl hC0 hCs hM hn1
 obtain ⟨cnt, hcnt⟩ : ∃ cnt, cnt = cntC 2000000 x.moves n := ⟨_, rfl⟩
 simp only [← hcnt] at hR hBd hCl hC0 hCs
 clear hcnt
 refine ASpec.of Tryz.func38 rfl rfl fun C hC => ?_
 refine AC.seq (AC.region ?_)
 refine AL.q (by exact h_boxF rfl rfl) rfl ?_
 refine AL.p (by exact as1 rfl) rfl ?_
 refine AL.p (by exact as1 rfl) rfl ?_
 refine AL.nil (th_n (AC.seq (AC.seq (AC.region ?_))))
 refine AL.p (by exact g_load_refN rfl rfl rfl rfl) rfl ?_
 refine AL.q (by exact h_pure en_iIsReach rfl rfl (by repeat (first | exact rfl | exact DLead.same | refine ⟨_, _, rfl, ?_, ?_⟩ | refine ⟨_, rfl, ?_⟩)) hV rfl) rfl ?_
 refine AL.p (by exact g_not rfl) rfl ?_
 refine AL.p (by exact mv1 rfl) rfl ?_
 refine AL.caseGB rfl rfl (fun h0 => ?_) (fun h0 => ?_)
 ·refine AL.not rfl rfl rfl rfl rfl ?_
  refine AL.not rfl rfl rfl rfl rfl ?_
  refine AL.not rfl rfl rfl rfl rfl ?_
  refine AL.p (by exact g_pickT (r := .d _) rfl rfl) rfl ?_
  refine AL.nil (th_n ?_)
  refine AC.condT rfl ?_
  refine AC.seq (AC.region ?_)
  refine AL.p (by exact as1 rfl) rfl ?_
  refine AL.p (by exact as1 rfl) rfl ?_
  refine AL.nil (th_n (AC.ret (th_r (bq_r ?_))))
  have e : R = (0, false) := hR.trans (if_neg (by simp_all))
  exact ret2 rfl (by rw [e]) (by rw [e])
 ·refine AL.yes rfl rfl rfl ?_
  refine AL.p (by exact mv1 rfl) rfl ?_
  refine AL.yes rfl rfl rfl ?_
  refine AL.q (by exact h_pure en_within rfl rfl (by repeat (first | exact rfl | exact DLead.same | refine ⟨_, _, rfl, ?_, ?_⟩)) hW rfl) rfl ?_
  refine AL.yes rfl rfl rfl ?_
  refine AL.p (by exact g_not rfl) rfl ?_
  refine AL.p (by exact g_pickF (r := .d _) rfl rfl) rfl ?_
  refine AL.nil (th_n ?_)
  refine AC.condB rfl (fun h1 => ?_) (fun h1 => ?_)
  ·refine AC.seq (AC.region ?_)
   refine AL.p (by exact as1 rfl) rfl ?_
   refine AL.p (by exact as1 rfl) rfl ?_
   refine AL.nil (th_n (AC.ret (th_r (bq_r ?_))))
   have e : R = (0, false) := hR.trans (if_neg (by simp_all))
   exact ret2 rfl (by rw [e]) (by rw [e])
  ·refine AC.skip (th_n (AC.seq ?_))
   have hb1 : b = true := by simp_all
   have hc1 : c = true := by simp_all
   have hkk := hck hc1
   have hn2 := hn1 hb1
   have hM2 := hM hb1
   rw [hb1, hc1, Bool.and_self, if_pos rfl] at hR
   obtain ⟨k0, hk0⟩ : ∃ k0, k0 = k.toNat := ⟨_, rfl⟩
   rw [← hk0] at hR
   have hkk0 : k = (k0 : Int) := by omega
   rw [hkk0]
   clear hM hn1 hV hW
   refine AC.region ?_
   refine AL.p (by exact g_fa_ref rfl rfl rfl rfl rfl rfl) rfl ?_
   refine AL.p (by exact g_load_ref rfl rfl rfl) rfl ?_
   refine AL.p (by exact g_len_view (k := n) rfl rfl (by rw [hn]; exact tsX_len _)) rfl ?_
   refine AL.q (by exact h_make (k := n) rfl rfl rfl rfl rfl rfl rfl rfl (by show 8 * n ≤ _; omega) (by omega)) rfl ?_
   rw [show (List.replicate n (([ZK.int .i64] : List ZK).map fun z => DV.val z.val)) = ints (List.replicate n 0) from repZ n]
   have hr0 : (ints (List.replicate n 0))[0]? = some [dI 0] := by rw [rep_ints, List.getElem?_replicate, if_pos (by omega)]
   refine AL.p (by exact as2 rfl) rfl ?_
   refine AL.nil (th_n (AC.seq (AC.region ?_)))
   refine AL.p (by exact mv2 rfl) rfl ?_
   refine AL.p (by exact g_ia_own (i := 0) (l := n) rfl rfl rfl rfl rfl rfl (by omega) rfl) rfl ?_
   refine AL.q (by exact h_store_arr (i := 0) (j := 0) (d := dI 1) rfl rfl rfl rfl .same rfl hr0 (by decide)) rfl ?_
   refine AL.nil (th_n (AC.seq (AC.seq (AC.region ?_))))
   refine AL.p (by exact mv1 rfl) rfl ?_
   refine AL.p (by exact mv1 rfl) rfl ?_
   refine AL.nil (th_n (AC.block ?_))
   refine AC.loop (ι := Nat) (fun i => ⟨73, 600, [(2, .d (.ref (rgD x))), (6, .own 100 n), (27, aI k0), (28, aI i)], [(100, some (.arr 3 1 (ints (cnt i))))]⟩) (fun i => i ≤ k0) (fun i => k0 - i) (0) ?_ (Nat.zero_le _) ?_
   ·exact Weak.ren _ [(100, _)] hC rfl (by repeat (first | exact True.intro | refine And.intro ?_ ?_ | exact DLead.same | exact rfl | refine ⟨_, rfl, ?_⟩)) (by dsimp only; rw [hC0, ints_set]; repeat (first | exact True.intro | refine And.intro ?_ ?_ | exact rfl | refine ⟨_, _, rfl, rfl, ?_⟩)) rfl rfl rfl
   ·intro i hi
    have hnl := hCl i
    have hnb := hBd i
    have hns := hCs i
    obtain ⟨now, hnow⟩ : ∃ now, now = cnt i := ⟨_, rfl⟩
    rw [← hnow] at hnl hnb hns ⊢
    refine AC.seq (AC.region ?_)
    refine AL.p (by exact g_cmp rfl rfl rfl) rfl ?_
    refine AL.nil (th_n (AC.seq ?_))
    refine AC.condD rfl (fun h2 => ?_) (fun h2 => ?_)
    ·refine AC.skip (th_n (AC.seq (AC.block (AC.seq (AC.region ?_)))))
     refine AL.p (by exact g_fa_ref rfl rfl rfl rfl rfl rfl) rfl ?_
     refine AL.p (by exact g_load_ref rfl rfl rfl) rfl ?_
     refine AL.p (by exact g_len_view (k := n) rfl rfl (by rw [hn]; exact tsX_len _)) rfl ?_
     refine AL.q (by exact h_make (k := n) rfl rfl rfl rfl rfl rfl rfl rfl (by show 8 * n ≤ _; omega) (by omega)) rfl ?_
     rw [show (List.replicate n (([ZK.int .i64] : List ZK).map fun z => DV.val z.val)) = ints (List.replicate n 0) from repZ n]
     refine AL.p (by exact as2 rfl) rfl ?_
     refine AL.nil (th_n (AC.seq (AC.seq (AC.region ?_))))
     refine AL.p (by exact g_fa_ref rfl rfl rfl rfl rfl rfl) rfl ?_
     refine AL.p (by exact g_load_ref rfl rfl rfl) rfl ?_
     refine AL.p (by exact g_len_view (k := x.moves.length) rfl rfl (mvL_len _)) rfl ?_
     refine AL.p (by exact mv1 rfl) rfl ?_
     refine AL.nil (th_n (AC.block ?_))
     refine AC.loop (ι := Nat × List Int) (fun y => ⟨73, 900, [(2, .d (.ref (rgD x))), (6, .own 100 n), (7, .own 101 n), (27, aI k0), (28, aI i), (35, .d (vMvs x.moves)), (36, aI x.moves.length), (37, aI y.1)], [(100, some (.arr 3 1 (ints now))), (101, some (.arr 3 1 (ints y.2)))]⟩) (fun y => y.1 ≤ x.moves.length ∧ y.2.length = n ∧ BdI 2000000 y.2 ∧ addC 2000000 now (x.moves.drop y.1) y.2 = cnt (i + 1)) (fun y => x.moves.length - y.1) ((0, List.replicate n 0)) ?_ (⟨Nat.zero_le _, by simp, BdI.zero (by decide) n, by rw [hns]; rfl⟩) ?_
     ·exact Weak.ren _ [(100, 100), (101, _)] hC rfl (by repeat (first | exact True.intro | refine And.intro ?_ ?_ | exact DLead.same | exact rfl | refine ⟨_, rfl, ?_⟩)) (by repeat (first | exact True.intro | refine And.intro ?_ ?_ | exact rfl | refine ⟨_, _, rfl, rfl, ?_⟩)) rfl rfl rfl
     ·rintro ⟨j, nx⟩ ⟨hj, hxl, hxb, hrun⟩
      dsimp only at hj hxl hxb hrun ⊢
      refine AC.seq (AC.region ?_)
      refine AL.p (by exact g_cmp rfl rfl rfl) rfl ?_
      refine AL.nil (th_n (AC.seq ?_))
      refine AC.condD rfl (fun h3 => ?_) (fun h3 => ?_)
      ·refine AC.skip (th_n (AC.seq (AC.block (AC.seq ?_))))
       have hj1 : j < x.moves.length := by omega
       have hget := mvL_get hj1
       have hpv := hM2 _ (List.getElem_mem hj1)
       rw [List.drop_eq_getElem_cons hj1, addC] at hrun
       obtain ⟨v, hv⟩ : ∃ v, v = x.moves[j] := ⟨_, rfl⟩
       rw [← hv] at hget hpv hrun
       clear hv
       obtain ⟨f, hf⟩ : ∃ f, f = v.from_.toNat := ⟨_, rfl⟩
       obtain ⟨t, ht⟩ : ∃ t, t = v.to_.toNat := ⟨_, rfl⟩
       rw [← hf, ← ht] at hrun
       have e1 : v.from_ = (f : Int) := by omega
       have e2 : v.to_ = (t : Int) := by omega
       rw [e1, e2] at hget
       have hxt := ints_get (l := nx) (k := t) (by omega)
       have hnf := ints_get (l := now) (k := f) (by omega)
       have b1 := hxb t
       have b2 := hnb f
       have hmn := cutM_min 2000000 (nx.getD t 0 + now.getD f 0)
       have hci := cutM_in (M := 2000000) (a := nx.getD t 0 + now.getD f 0) (by decide) (by omega)
       refine AC.region ?_
       refine AL.p (by exact g_ia_view rfl rfl rfl rfl rfl (by rfl) (by assumption)) rfl ?_
       refine AL.p (by exact g_load_refN rfl rfl rfl rfl) rfl ?_
       refine AL.q (by exact h_alloc rfl) rfl ?_
       refine AL.q (by exact h_store rfl rfl rfl rfl rfl rfl) rfl ?_
       refine AL.nil (th_n ?_)
       refine AC.drawn' mixed_ok [[], [], [1], [], [], [4], [3,4,5], [3,4,5,6], [], [], [9], [8,9,10], [8,9,10,11], [3,4,5,6,7,8,9,10,11,12], [3,4,5,6,7,8,9,10,11,12,13], [0,1,2,3,4,5,6,7,8,9,10,11,12,13,14], [0,1,2,3,4,5,6,7,8,9,10,11,12,13,14,15]] (by decide) ?_
       refine DF.op 0 [] 17 rfl rfl rfl (.free rfl (NOp.of (by exact mv2 rfl))) rfl ?_
       refine DF.op 1 [] 17 rfl rfl rfl (.free rfl (NOp.of (by exact g_fa_ptr rfl rfl rfl rfl rfl))) rfl ?_
       refine DF.op 2 [1] 17 rfl rfl rfl (.free rfl (NOp.of (by exact g_load_ptr rfl rfl rfl rfl rfl))) rfl ?_
       refine DF.op 3 [] 17 rfl rfl rfl (.free rfl (NOp.of (by exact mv2 rfl))) rfl ?_
       refine DF.op 4 [] 17 rfl rfl rfl (.free rfl (NOp.of (by exact g_fa_ptr rfl rfl rfl rfl rfl))) rfl ?_
       refine DF.op 5 [4] 17 rfl rfl rfl (.free rfl (NOp.of (by exact g_load_ptr rfl rfl rfl rfl rfl))) rfl ?_
       refine DF.op 6 [3,4,5] 17 rfl rfl rfl (.free rfl (NOp.of (by exact g_ia_own (i := t) (l := n) rfl rfl rfl rfl rfl rfl (by omega) rfl))) rfl ?_
       refine DF.op 7 [3,4,5,6] 17 rfl rfl rfl (.free rfl (NOp.of (by exact g_load_arr1 rfl rfl rfl rfl (by rw [Nat.mul_one]; exact hxt)))) rfl ?_
       refine DF.op 8 [] 17 rfl rfl rfl (.free rfl (NOp.of (by exact mv2 rfl))) rfl ?_
       refine DF.op 9 [] 17 rfl rfl rfl (.free rfl (NOp.of (by exact g_fa_ptr rfl rfl rfl rfl rfl))) rfl ?_
       refine DF.op 10 [9] 17 rfl rfl rfl (.free rfl (NOp.of (by exact g_load_ptr rfl rfl rfl rfl rfl))) rfl ?_
       refine DF.op 11 [8,9,10] 17 rfl rfl rfl (.free rfl (NOp.of (by exact g_ia_own (i := f) (l := n) rfl rfl rfl rfl rfl rfl (by omega) rfl))) rfl ?_
       refine DF.op 12 [8,9,10,11] 17 rfl rfl rfl (.free rfl (NOp.of (by exact g_load_arr1 rfl rfl rfl rfl (by rw [Nat.mul_one]; exact hnf)))) rfl ?_
       refine DF.op 13 [3,4,5,6,7,8,9,10,11,12] 17 rfl rfl rfl (.free rfl (NOp.of (by exact g_arith rfl rfl rfl (by exact wrap_i64 (by omega))))) rfl ?_
       refine DF.op 14 [3,4,5,6,7,8,9,10,11,12,13] 17 rfl rfl rfl (.free rfl (NOp.of (by exact g_min rfl rfl hmn))) rfl ?_
       refine DF.op 15 (List.range 15) 17 rfl rfl rfl (.free rfl (NOp.of (by exact g_ia_own (i := t) (l := n) rfl rfl rfl rfl rfl rfl (by omega) rfl))) rfl ?_
       refine DF.op 16 (List.range 16) 17 rfl rfl rfl (.free rfl (by exact h_store_arr (i := t) (j := 0) (d := dI (cutM 2000000 (nx.getD t 0 + now.getD f 0))) rfl rfl rfl rfl .same rfl hxt (by decide))) rfl ?_
       refine DF.fin (ps := [(0,1),(0,2),(0,3),(0,4),(0,5),(0,6),(0,7),(0,8),(0,9),(0,10),(0,11),(0,12),(0,13),(0,14),(1,0),(1,3),(1,4),(1,5),(1,6),(1,7),(1,8),(1,9),(1,10),(1,11),(1,12),(1,13),(1,14),(2,0),(2,3),(2,4),(2,5),(2,6),(2,7),(2,8),(2,9),(2,10),(2,11),(2,12),(2,13),(2,14),(3,0),(3,1),(3,2),(3,4),(3,5),(3,8),(3,9),(3,10),(3,11),(3,12),(4,0),(4,1),(4,2),(4,3),(4,8),(4,9),(4,10),(4,11),(4,12),(5,0),(5,1),(5,2),(5,3),(5,8),(5,9),(5,10),(5,11),(5,12),(6,0),(6,1),(6,2),(6,8),(6,9),(6,10),(6,11),(6,12),(7,0),(7,1),(7,2),(7,8),(7,9),(7,10),(7,11),(7,12),(8,0),(8,1),(8,2),(8,3),(8,4),(8,5),(8,6),(8,7),(8,9),(8,10),(9,0),(9,1),(9,2),(9,3),(9,4),(9,5),(9,6),(9,7),(9,8),(10,0),(10,1),(10,2),(10,3),(10,4),(10,5),(10,6),(10,7),(10,8),(11,0),(11,1),(11,2),(11,3),(11,4),(11,5),(11,6),(11,7),(12,0),(12,1),(12,2),(12,3),(12,4),(12,5),(12,6),(12,7),(13,0),(13,1),(13,2),(14,0),(14,1),(14,2)]) 17 rfl (by decide +kernel) (by decide +kernel) (by rfl) ?_
       refine ib_n (th_n (AC.region ?_))
       refine AL.p (by exact g_arith rfl rfl rfl (by exact wrap_i64 (by omega))) rfl ?_
       refine AL.p (by exact mv1 rfl) rfl ?_
       refine AL.nil (th_n ?_)
       exact ⟨(j + 1, nx.set t (cutM 2000000 (nx.getD t 0 + now.getD f 0))), ⟨by dsimp only; omega, by rw [List.length_set]; exact hxl, hxb.set t hci, hrun⟩, by dsimp only; omega, Weak.ren _ [(100, 100), (101, 101)] hC rfl (by repeat (first | exact True.intro | refine And.intro ?_ ?_ | exact DLead.same | exact rfl | refine ⟨_, rfl, ?_⟩)) (by rw [ints_set]; repeat (first | exact True.intro | refine And.intro ?_ ?_ | exact rfl | refine ⟨_, _, rfl, rfl, ?_⟩)) rfl rfl rfl⟩
      ·refine AC.exit (th_e (th_e (ib_y (th_n (AC.region ?_)))))
       refine AL.p (by exact mv2 rfl) rfl ?_
       refine AL.p (by exact as2 rfl) rfl ?_
       refine AL.nil (ib_n (th_n (AC.region ?_)))
       refine AL.p (by exact g_arith rfl rfl rfl (by exact wrap_i64 (by omega))) rfl ?_
       refine AL.p (by exact mv1 rfl) rfl ?_
       refine AL.nil (th_n ?_)
       have hjj : j = x.moves.length := by omega
       rw [hjj, List.drop_length, addC] at hrun
       exact ⟨i + 1, by omega, by omega, Weak.ren _ [(100, 101)] hC rfl (by repeat (first | exact True.intro | refine And.intro ?_ ?_ | exact DLead.same | exact rfl | refine ⟨_, rfl, ?_⟩)) (by rw [← hrun]; repeat (first | exact True.intro | refine And.intro ?_ ?_ | exact rfl | refine ⟨_, _, rfl, rfl, ?_⟩)) rfl rfl rfl⟩
    ·refine AC.exit (th_e (th_e (ib_y (th_n (AC.seq ?_)))))
     have hik : i = k0 := by omega
     rw [hik] at hnow
     rw [← hnow] at hR
     have hsb := sum_bd hnb
     refine AC.region ?_
     refine AL.p (by exact as1 rfl) rfl ?_
     refine AL.nil (th_n (AC.seq (AC.seq (AC.region ?_))))
     refine AL.p (by exact mv2 rfl) rfl ?_
     refine AL.p (by exact g_len_own (sz := 1) (els := []) (e' := 0) rfl rfl (by simp only [maxLen]; omega)) rfl ?_
     refine AL.p (by exact mv1 rfl) rfl ?_
     refine AL.nil (th_n (AC.block ?_))
     refine AC.loop (ι := Nat) (fun i => ⟨73, 1200, [(10, aI ((now.take i).sum)), (60, .own 100 n), (61, aI n), (62, aI i)], [(100, some (.arr 3 1 (ints now)))]⟩) (fun i => i ≤ n) (fun i => n - i) (0) ?_ (Nat.zero_le _) ?_
     ·exact Weak.ren _ [(100, 100)] hC rfl (by repeat (first | exact True.intro | refine And.intro ?_ ?_ | exact DLead.same | exact rfl | refine ⟨_, rfl, ?_⟩)) (by repeat (first | exact True.intro | refine And.intro ?_ ?_ | exact rfl | refine ⟨_, _, rfl, rfl, ?_⟩)) rfl rfl rfl
     ·intro i hi
      refine AC.seq (AC.region ?_)
      refine AL.p (by exact g_cmp rfl rfl rfl) rfl ?_
      refine AL.nil (th_n (AC.seq ?_))
      refine AC.condD rfl (fun h3 => ?_) (fun h3 => ?_)
      ·refine AC.skip (th_n (AC.seq (AC.block (AC.seq ?_))))
       have hi1 : i < n := by omega
       have hgi := ints_get (l := now) (k := i) (by omega)
       have hst := sum_take (l := now) (i := i) (by omega)
       have b3 := hsb i (by omega)
       have b4 := hnb i
       refine AC.region ?_
       refine AL.p (by exact g_ia_own (i := i) (l := n) rfl rfl rfl rfl rfl rfl hi1 rfl) rfl ?_
       refine AL.p (by exact g_load_arr1 rfl rfl rfl rfl (by rw [Nat.mul_one]; exact hgi)) rfl ?_
       refine AL.p (by exact as1 rfl) rfl ?_
       refine AL.nil (th_n (AC.region ?_))
       refine AL.p (by exact mv1 rfl) rfl ?_
       refine AL.p (by exact mv1 rfl) rfl ?_
       refine AL.p (by exact g_arith rfl rfl rfl (by exact wrap_i64 (by omega))) rfl ?_
       refine AL.p (by exact as1 rfl) rfl ?_
       refine AL.nil (ib_n (th_n (AC.region ?_)))
       refine AL.p (by exact g_arith rfl rfl rfl (by exact wrap_i64 (by omega))) rfl ?_
       refine AL.p (by exact mv1 rfl) rfl ?_
       refine AL.nil (th_n ?_)
       exact ⟨i + 1, by omega, by omega, Weak.ren _ [(100, 100)] hC rfl (by rw [hst]; repeat (first | exact True.intro | refine And.intro ?_ ?_ | exact DLead.same | exact rfl | refine ⟨_, rfl, ?_⟩)) (by repeat (first | exact True.intro | refine And.intro ?_ ?_ | exact rfl | refine ⟨_, _, rfl, rfl, ?_⟩)) rfl rfl rfl⟩
      ·refine AC.exit (th_e (th_e (ib_y (th_n (AC.seq (AC.seq ?_))))))
       have hin : i = now.length := by omega
       rw [hin, List.take_length]
       refine AC.region ?_
       refine AL.p (by exact mv1 rfl) rfl ?_
       refine AL.p (by exact g_cmp rfl rfl rfl) rfl ?_
       refine AL.nil (th_n ?_)
       refine AC.condD rfl (fun h4 => ?_) (fun h4 => ?_)
       ·refine AC.seq (AC.region ?_)
        refine AL.p (by exact as1 rfl) rfl ?_
        refine AL.p (by exact as1 rfl) rfl ?_
        refine AL.nil (th_n (AC.ret (th_r (bq_r ?_))))
        have e : R = (0, false) := hR.trans (if_pos (by assumption))
        exact ret2 rfl (by rw [e]) (by rw [e])
       ·refine AC.skip (th_n (AC.seq (AC.region ?_)))
        refine AL.p (by exact mv1 rfl) rfl ?_
        refine AL.p (by exact as1 rfl) rfl ?_
        refine AL.p (by exact as1 rfl) rfl ?_
        refine AL.nil (th_n (AC.ret (bq_r ?_)))
        have e := hR.trans (if_neg (by assumption))
        exact ret2 rfl (by rw [e]) (by rw [e])
theorem en_iCount : Enters Tryz.prog 38 := enters_of Tryz.func38 rfl rfl
set_option maxHeartbeats 16000000 in
theorem sCount_spec (x : Ex) (k : Int) (hk : -1000000 ≤ k ∧ k ≤ 1000000) (h1l : x.marks.length ≤ 100000) (h2l : x.moves.length ≤ 1000000) : ASpec Tryz.prog 39 [rgA x, aI k] [] (Pure1 (.tup [aI (countR x k).1, aT (countR x k).2])) := by
 have hV := sGoodR_spec x (by omega) h2l
 have hW := l1In_spec k 0 12
 have hM := fun h : goodR x = true => goodR_moves h
 have hn1 := fun h : goodR x = true => (goodR_iff.1 h).1
 have hR : countR x k = if (goodR x && (decide (0 ≤ k) && decide (k ≤ 12))) = true then (if (cntC 2000000 x.moves x.marks.length k.toNat).sum > 1000000 then (0, false) else ((cntC 2000000 x.moves x.marks.length k.toNat).sum, true)) else (0, false) := rfl
 have hBd := BdI.cnt (M := 1000001) (by decide) x.moves x.marks.length
 have hCl := cntC_len 1000001 x.moves x.marks.length
 have hC0 : cntC 1000001 x.moves x.marks.length 0 = (List.replicate x.marks.length 0).set 0 1 := rfl
 have hCs : ∀ i, cntC 1000001 x.moves x.marks.length (i + 1) = addC 1000001 (cntC 1000001 x.moves x.marks.length i) x.moves (List.replicate x.marks.length 0) := fun i => rfl
 have hSm := fun i => count_same x.moves x.marks.length i
 obtain ⟨b, hb⟩ : ∃ b, b = goodR x := ⟨_, rfl⟩
 rw [← hb] at hV hR hM hn1
 obtain ⟨c, hc⟩ : ∃ c, c = (decide (0 ≤ k) && decide (k ≤ 12)) := ⟨_, rfl⟩
 rw [← hc] at hW hR
 obtain ⟨R, hRR⟩ : ∃ R, R = countR x k := ⟨_, rfl⟩
 rw [← hRR] at hR ⊢
 have hck : c = true → 0 ≤ k ∧ k ≤ 12 := fun h => by rw [hc, Bool.and_eq_true, decide_eq_true_eq, decide_eq_true_eq] at h; omega
 clear hb hc hRR
 obtain ⟨n, hn⟩ : ∃ n, n = x.marks.length := ⟨_, rfl⟩
 simp only [← hn] at h1l hR hBd hCl hC0 hCs hM hn1 hSm
 obtain ⟨cnt, hcnt⟩ : ∃ cnt, cnt = cntC 1000001 x.moves n := ⟨_, rfl⟩
 simp only [← hcnt] at hBd hCl hC0 hCs hSm
 clear hcnt
 refine ASpec.of Tryz.func39 rfl rfl fun C hC => ?_
 refine AC.seq (AC.region ?_)
 refine AL.q (by exact h_boxF rfl rfl) rfl ?_
 refine AL.p (by exact as1 rfl) rfl ?_
 refine AL.p (by exact as1 rfl) rfl ?_
 refine AL.nil (th_n (AC.seq (AC.seq (AC.region ?_))))
 refine AL.p (by exact g_load_refN rfl rfl rfl rfl) rfl ?_
 refine AL.q (by exact h_pure en_sGoodR rfl rfl (by repeat (first | exact rfl | exact DLead.same | refine ⟨_, _, rfl, ?_, ?_⟩ | refine ⟨_, rfl, ?_⟩)) hV rfl) rfl ?_
 refine AL.p (by exact g_not rfl) rfl ?_
 refine AL.p (by exact mv1 rfl) rfl ?_
 refine AL.caseGB rfl rfl (fun h0 => ?_) (fun h0 => ?_)
 ·refine AL.not rfl rfl rfl rfl rfl ?_
  refine AL.not rfl rfl rfl rfl rfl ?_
  refine AL.not rfl rfl rfl rfl rfl ?_
  refine AL.p (by exact g_pickT (r := .d _) rfl rfl) rfl ?_
  refine AL.nil (th_n ?_)
  refine AC.condT rfl ?_
  refine AC.seq (AC.region ?_)
  refine AL.p (by exact as1 rfl) rfl ?_
  refine AL.p (by exact as1 rfl) rfl ?_
  refine AL.nil (th_n (AC.ret (th_r (bq_r ?_))))
  have e : R = (0, false) := hR.trans (if_neg (by simp_all))
  exact ret2 rfl (by rw [e]) (by rw [e])
 ·refine AL.yes rfl rfl rfl ?_
  refine AL.p (by exact mv1 rfl) rfl ?_
  refine AL.yes rfl rfl rfl ?_
  refine AL.q (by exact h_pure en_l1In rfl rfl (by repeat (first | exact rfl | exact DLead.same | refine ⟨_, _, rfl, ?_, ?_⟩)) hW rfl) rfl ?_
  refine AL.yes rfl rfl rfl ?_
  refine AL.p (by exact g_not rfl) rfl ?_
  refine AL.p (by exact g_pickF (r := .d _) rfl rfl) rfl ?_
  refine AL.nil (th_n ?_)
  refine AC.condB rfl (fun h1 => ?_) (fun h1 => ?_)
  ·refine AC.seq (AC.region ?_)
   refine AL.p (by exact as1 rfl) rfl ?_
   refine AL.p (by exact as1 rfl) rfl ?_
   refine AL.nil (th_n (AC.ret (th_r (bq_r ?_))))
   have e : R = (0, false) := hR.trans (if_neg (by simp_all))
   exact ret2 rfl (by rw [e]) (by rw [e])
  ·refine AC.skip (th_n (AC.seq ?_))
   have hb1 : b = true := by simp_all
   have hc1 : c = true := by simp_all
   have hkk := hck hc1
   have hn2 := hn1 hb1
   have hM2 := hM hb1
   rw [hb1, hc1, Bool.and_self, if_pos rfl] at hR
   obtain ⟨k0, hk0⟩ : ∃ k0, k0 = k.toNat := ⟨_, rfl⟩
   rw [← hk0] at hR
   have hkk0 : k = (k0 : Int) := by omega
   rw [hkk0]
   clear hM hn1 hV hW
   refine AC.region ?_
   refine AL.p (by exact g_fa_ref rfl rfl rfl rfl rfl rfl) rfl ?_
   refine AL.p (by exact g_load_ref rfl rfl rfl) rfl ?_
   refine AL.p (by exact g_len_view (k := n) rfl rfl (by rw [hn]; exact tsX_len _)) rfl ?_
   refine AL.q (by exact h_make (k := n) rfl rfl rfl rfl rfl rfl rfl rfl (by show 8 * n ≤ _; omega) (by omega)) rfl ?_
   rw [show (List.replicate n (([ZK.int .i64] : List ZK).map fun z => DV.val z.val)) = ints (List.replicate n 0) from repZ n]
   have hr0 : (ints (List.replicate n 0))[0]? = some [dI 0] := by rw [rep_ints, List.getElem?_replicate, if_pos (by omega)]
   refine AL.p (by exact as2 rfl) rfl ?_
   refine AL.nil (th_n (AC.seq (AC.region ?_)))
   refine AL.p (by exact mv2 rfl) rfl ?_
   refine AL.p (by exact g_ia_own (i := 0) (l := n) rfl rfl rfl rfl rfl rfl (by omega) rfl) rfl ?_
   refine AL.q (by exact h_store_arr (i := 0) (j := 0) (d := dI 1) rfl rfl rfl rfl .same rfl hr0 (by decide)) rfl ?_
   refine AL.nil (th_n (AC.seq (AC.block ?_)))
   refine AC.loop (ι := Nat) (fun i => ⟨73, 600, [(1, aI ((k0 : Int) - i)), (2, .d (.ref (rgD x))), (6, .own 100 n)], [(100, some (.arr 3 1 (ints (cnt i))))]⟩) (fun i => i ≤ k0) (fun i => k0 - i) (0) ?_ (Nat.zero_le _) ?_
   ·exact Weak.ren _ [(100, _)] hC rfl (by repeat (first | exact True.intro | refine And.intro ?_ ?_ | exact DLead.same | exact rfl | refine ⟨_, rfl, ?_⟩)) (by dsimp only; rw [hC0, ints_set]; repeat (first | exact True.intro | refine And.intro ?_ ?_ | exact rfl | refine ⟨_, _, rfl, rfl, ?_⟩)) rfl rfl rfl
   ·intro i hi
    have hnl := hCl i
    have hnb := hBd i
    have hns := hCs i
    obtain ⟨now, hnow⟩ : ∃ now, now = cnt i := ⟨_, rfl⟩
    rw [← hnow] at hnl hnb hns ⊢
    refine AC.seq (AC.seq (AC.region ?_))
    refine AL.p (by exact mv1 rfl) rfl ?_
    refine AL.p (by exact g_cmp rfl rfl rfl) rfl ?_
    refine AL.nil (th_n ?_)
    refine AC.condD rfl (fun h2 => ?_) (fun h2 => ?_)
    ·refine AC.skip (th_n (AC.seq (AC.block (AC.seq (AC.region ?_)))))
     refine AL.p (by exact mv2 rfl) rfl ?_
     refine AL.p (by exact g_len_own (sz := 1) (els := []) (e' := 0) rfl rfl (by simp only [maxLen]; omega)) rfl ?_
     refine AL.q (by exact h_make (k := n) rfl rfl rfl rfl rfl rfl rfl rfl (by show 8 * n ≤ _; omega) (by omega)) rfl ?_
     rw [show (List.replicate n (([ZK.int .i64] : List ZK).map fun z => DV.val z.val)) = ints (List.replicate n 0) from repZ n]
     refine AL.p (by exact as2 rfl) rfl ?_
     refine AL.nil (th_n (AC.seq (AC.seq (AC.region ?_))))
     refine AL.p (by exact g_fa_ref rfl rfl rfl rfl rfl rfl) rfl ?_
     refine AL.p (by exact g_load_ref rfl rfl rfl) rfl ?_
     refine AL.p (by exact g_len_view (k := x.moves.length) rfl rfl (mvL_len _)) rfl ?_
     refine AL.p (by exact mv1 rfl) rfl ?_
     refine AL.nil (th_n (AC.block ?_))
     refine AC.loop (ι := Nat × List Int) (fun y => ⟨73, 900, [(1, aI ((k0 : Int) - i)), (2, .d (.ref (rgD x))), (6, .own 100 n), (7, .own 101 n), (35, .d (vMvs x.moves)), (36, aI x.moves.length), (37, aI y.1)], [(100, some (.arr 3 1 (ints now))), (101, some (.arr 3 1 (ints y.2)))]⟩) (fun y => y.1 ≤ x.moves.length ∧ y.2.length = n ∧ BdI 1000001 y.2 ∧ addC 1000001 now (x.moves.drop y.1) y.2 = cnt (i + 1)) (fun y => x.moves.length - y.1) ((0, List.replicate n 0)) ?_ (⟨Nat.zero_le _, by simp, BdI.zero (by decide) n, by rw [hns]; rfl⟩) ?_
     ·exact Weak.ren _ [(100, 100), (101, _)] hC rfl (by repeat (first | exact True.intro | refine And.intro ?_ ?_ | exact DLead.same | exact rfl | refine ⟨_, rfl, ?_⟩)) (by repeat (first | exact True.intro | refine And.intro ?_ ?_ | exact rfl | refine ⟨_, _, rfl, rfl, ?_⟩)) rfl rfl rfl
     ·rintro ⟨j, nx⟩ ⟨hj, hxl, hxb, hrun⟩
      dsimp only at hj hxl hxb hrun ⊢
      refine AC.seq (AC.region ?_)
      refine AL.p (by exact g_cmp rfl rfl rfl) rfl ?_
      refine AL.nil (th_n (AC.seq ?_))
      refine AC.condD rfl (fun h3 => ?_) (fun h3 => ?_)
      ·refine AC.skip (th_n (AC.seq (AC.block (AC.seq ?_))))
       have hj1 : j < x.moves.length := by omega
       have hget := mvL_get hj1
       have hpv := hM2 _ (List.getElem_mem hj1)
       rw [List.drop_eq_getElem_cons hj1, addC] at hrun
       obtain ⟨v, hv⟩ : ∃ v, v = x.moves[j] := ⟨_, rfl⟩
       rw [← hv] at hget hpv hrun
       clear hv
       obtain ⟨f, hf⟩ : ∃ f, f = v.from_.toNat := ⟨_, rfl⟩
       obtain ⟨t, ht⟩ : ∃ t, t = v.to_.toNat := ⟨_, rfl⟩
       rw [← hf, ← ht] at hrun
       have e1 : v.from_ = (f : Int) := by omega
       have e2 : v.to_ = (t : Int) := by omega
       rw [e1, e2] at hget
       have hxt := ints_get (l := nx) (k := t) (by omega)
       have hnf := ints_get (l := now) (k := f) (by omega)
       have b1 := hxb t
       have b2 := hnb f
       have hLs := l1Least_spec 1000001 (nx.getD t 0 + now.getD f 0)
       rw [cutM_min] at hLs
       have hci := cutM_in (M := 1000001) (a := nx.getD t 0 + now.getD f 0) (by decide) (by omega)
       refine AC.region ?_
       refine AL.p (by exact g_ia_view rfl rfl rfl rfl rfl (by rfl) (by assumption)) rfl ?_
       refine AL.p (by exact g_load_refN rfl rfl rfl rfl) rfl ?_
       refine AL.q (by exact h_alloc rfl) rfl ?_
       refine AL.q (by exact h_store rfl rfl rfl rfl rfl rfl) rfl ?_
       refine AL.nil (th_n ?_)
       refine AC.drawn' mixed_ok [[], [], [1], [], [], [4], [3,4,5], [3,4,5,6], [], [], [9], [8,9,10], [8,9,10,11], [3,4,5,6,7,8,9,10,11,12], [3,4,5,6,7,8,9,10,11,12,13], [0,1,2,3,4,5,6,7,8,9,10,11,12,13,14], [0,1,2,3,4,5,6,7,8,9,10,11,12,13,14,15]] (by decide) ?_
       refine DF.op 0 [] 17 rfl rfl rfl (.free rfl (NOp.of (by exact mv2 rfl))) rfl ?_
       refine DF.op 1 [] 17 rfl rfl rfl (.free rfl (NOp.of (by exact g_fa_ptr rfl rfl rfl rfl rfl))) rfl ?_
       refine DF.op 2 [1] 17 rfl rfl rfl (.free rfl (NOp.of (by exact g_load_ptr rfl rfl rfl rfl rfl))) rfl ?_
       refine DF.op 3 [] 17 rfl rfl rfl (.free rfl (NOp.of (by exact mv2 rfl))) rfl ?_
       refine DF.op 4 [] 17 rfl rfl rfl (.free rfl (NOp.of (by exact g_fa_ptr rfl rfl rfl rfl rfl))) rfl ?_
       refine DF.op 5 [4] 17 rfl rfl rfl (.free rfl (NOp.of (by exact g_load_ptr rfl rfl rfl rfl rfl))) rfl ?_
       refine DF.op 6 [3,4,5] 17 rfl rfl rfl (.free rfl (NOp.of (by exact g_ia_own (i := t) (l := n) rfl rfl rfl rfl rfl rfl (by omega) rfl))) rfl ?_
       refine DF.op 7 [3,4,5,6] 17 rfl rfl rfl (.free rfl (NOp.of (by exact g_load_arr1 rfl rfl rfl rfl (by rw [Nat.mul_one]; exact hxt)))) rfl ?_
       refine DF.op 8 [] 17 rfl rfl rfl (.free rfl (NOp.of (by exact mv2 rfl))) rfl ?_
       refine DF.op 9 [] 17 rfl rfl rfl (.free rfl (NOp.of (by exact g_fa_ptr rfl rfl rfl rfl rfl))) rfl ?_
       refine DF.op 10 [9] 17 rfl rfl rfl (.free rfl (NOp.of (by exact g_load_ptr rfl rfl rfl rfl rfl))) rfl ?_
       refine DF.op 11 [8,9,10] 17 rfl rfl rfl (.free rfl (NOp.of (by exact g_ia_own (i := f) (l := n) rfl rfl rfl rfl rfl rfl (by omega) rfl))) rfl ?_
       refine DF.op 12 [8,9,10,11] 17 rfl rfl rfl (.free rfl (NOp.of (by exact g_load_arr1 rfl rfl rfl rfl (by rw [Nat.mul_one]; exact hnf)))) rfl ?_
       refine DF.op 13 [3,4,5,6,7,8,9,10,11,12] 17 rfl rfl rfl (.free rfl (NOp.of (by exact g_arith rfl rfl rfl (by exact wrap_i64 (by omega))))) rfl ?_
       refine DF.op 14 [3,4,5,6,7,8,9,10,11,12,13] 17 rfl rfl rfl (.free rfl (by exact h_pure en_l1Least rfl rfl (by repeat (first | exact rfl | exact DLead.same | refine ⟨_, _, rfl, ?_, ?_⟩)) hLs rfl)) rfl ?_
       refine DF.op 15 (List.range 15) 17 rfl rfl rfl (.free rfl (NOp.of (by exact g_ia_own (i := t) (l := n) rfl rfl rfl rfl rfl rfl (by omega) rfl))) rfl ?_
       refine DF.op 16 (List.range 16) 17 rfl rfl rfl (.free rfl (by exact h_store_arr (i := t) (j := 0) (d := dI (cutM 1000001 (nx.getD t 0 + now.getD f 0))) rfl rfl rfl rfl .same rfl hxt (by decide))) rfl ?_
       refine DF.fin (ps := [(0,1),(0,2),(0,3),(0,4),(0,5),(0,6),(0,7),(0,8),(0,9),(0,10),(0,11),(0,12),(0,13),(0,14),(1,0),(1,3),(1,4),(1,5),(1,6),(1,7),(1,8),(1,9),(1,10),(1,11),(1,12),(1,13),(1,14),(2,0),(2,3),(2,4),(2,5),(2,6),(2,7),(2,8),(2,9),(2,10),(2,11),(2,12),(2,13),(2,14),(3,0),(3,1),(3,2),(3,4),(3,5),(3,8),(3,9),(3,10),(3,11),(3,12),(4,0),(4,1),(4,2),(4,3),(4,8),(4,9),(4,10),(4,11),(4,12),(5,0),(5,1),(5,2),(5,3),(5,8),(5,9),(5,10),(5,11),(5,12),(6,0),(6,1),(6,2),(6,8),(6,9),(6,10),(6,11),(6,12),(7,0),(7,1),(7,2),(7,8),(7,9),(7,10),(7,11),(7,12),(8,0),(8,1),(8,2),(8,3),(8,4),(8,5),(8,6),(8,7),(8,9),(8,10),(9,0),(9,1),(9,2),(9,3),(9,4),(9,5),(9,6),(9,7),(9,8),(10,0),(10,1),(10,2),(10,3),(10,4),(10,5),(10,6),(10,7),(10,8),(11,0),(11,1),(11,2),(11,3),(11,4),(11,5),(11,6),(11,7),(12,0),(12,1),(12,2),(12,3),(12,4),(12,5),(12,6),(12,7),(13,0),(13,1),(13,2),(14,0),(14,1),(14,2)]) 17 rfl (by decide +kernel) (by decide +kernel) (by rfl) ?_
       refine ib_n (th_n (AC.region ?_))
       refine AL.p (by exact g_arith rfl rfl rfl (by exact wrap_i64 (by omega))) rfl ?_
       refine AL.p (by exact mv1 rfl) rfl ?_
       refine AL.nil (th_n ?_)
       exact ⟨(j + 1, nx.set t (cutM 1000001 (nx.getD t 0 + now.getD f 0))), ⟨by dsimp only; omega, by rw [List.length_set]; exact hxl, hxb.set t hci, hrun⟩, by dsimp only; omega, Weak.ren _ [(100, 100), (101, 101)] hC rfl (by repeat (first | exact True.intro | refine And.intro ?_ ?_ | exact DLead.same | exact rfl | refine ⟨_, rfl, ?_⟩)) (by rw [ints_set]; repeat (first | exact True.intro | refine And.intro ?_ ?_ | exact rfl | refine ⟨_, _, rfl, rfl, ?_⟩)) rfl rfl rfl⟩
      ·refine AC.exit (th_e (th_e (ib_y (th_n (AC.region ?_)))))
       refine AL.p (by exact mv2 rfl) rfl ?_
       refine AL.p (by exact as2 rfl) rfl ?_
       refine AL.nil (ib_n (th_n (AC.region ?_)))
       refine AL.p (by exact mv1 rfl) rfl ?_
       refine AL.p (by exact g_arith rfl rfl rfl (by exact wrap_i64 (by omega))) rfl ?_
       refine AL.p (by exact as1 rfl) rfl ?_
       refine AL.nil (th_n ?_)
       have hjj : j = x.moves.length := by omega
       rw [hjj, List.drop_length, addC] at hrun
       exact ⟨i + 1, by omega, by omega, Weak.ren _ [(100, 101)] hC rfl (by repeat (first | exact True.intro | refine And.intro ?_ ?_ | exact DLead.same | exact DLead.eqI (by omega) | exact rfl | refine ⟨_, rfl, ?_⟩)) (by rw [← hrun]; repeat (first | exact True.intro | refine And.intro ?_ ?_ | exact rfl | refine ⟨_, _, rfl, rfl, ?_⟩)) rfl rfl rfl⟩
    ·refine AC.exit (th_e (th_e (ib_y (th_n (AC.seq ?_)))))
     have hik : i = k0 := by omega
     have hSk := hSm k0
     rw [hik] at hnow
     rw [← hnow] at hSk
     refine AC.region ?_
     refine AL.p (by exact as1 rfl) rfl ?_
     refine AL.nil (th_n (AC.seq (AC.seq (AC.region ?_))))
     refine AL.p (by exact mv2 rfl) rfl ?_
     refine AL.p (by exact g_len_own (sz := 1) (els := []) (e' := 0) rfl rfl (by simp only [maxLen]; omega)) rfl ?_
     refine AL.p (by exact mv1 rfl) rfl ?_
     refine AL.nil (th_n (AC.block ?_))
     refine AC.loop (ι := Nat × Int) (fun y => ⟨73, 1200, [(10, aI y.2), (59, .own 100 n), (60, aI n), (61, aI y.1)], [(100, some (.arr 3 1 (ints now)))]⟩) (fun y => y.1 ≤ n ∧ (0 ≤ y.2 ∧ y.2 ≤ 1000001) ∧ sumC 1000001 (now.drop y.1) y.2 = sumC 1000001 now 0) (fun y => n - y.1) ((0, 0)) ?_ (⟨Nat.zero_le _, by decide, rfl⟩) ?_
     ·exact Weak.ren _ [(100, 100)] hC rfl (by repeat (first | exact True.intro | refine And.intro ?_ ?_ | exact DLead.same | exact rfl | refine ⟨_, rfl, ?_⟩)) (by repeat (first | exact True.intro | refine And.intro ?_ ?_ | exact rfl | refine ⟨_, _, rfl, rfl, ?_⟩)) rfl rfl rfl
     ·rintro ⟨i, acc⟩ ⟨hi, hab, hsum⟩
      dsimp only at hi hab hsum ⊢
      refine AC.seq (AC.region ?_)
      refine AL.p (by exact g_cmp rfl rfl rfl) rfl ?_
      refine AL.nil (th_n (AC.seq ?_))
      refine AC.condD rfl (fun h3 => ?_) (fun h3 => ?_)
      ·refine AC.skip (th_n (AC.seq (AC.block (AC.seq ?_))))
       have hi1 : i < n := by omega
       have hgi := ints_get (l := now) (k := i) (by omega)
       have b4 := hnb i
       have hdr : now.drop i = now.getD i 0 :: now.drop (i + 1) := by rw [List.drop_eq_getElem_cons (by omega), List.getD_eq_getElem?_getD, List.getElem?_eq_getElem (by omega)]; rfl
       rw [hdr, sumC] at hsum
       have hLs := l1Least_spec 1000001 (acc + now.getD i 0)
       rw [cutM_min] at hLs
       have hci := cutM_in (M := 1000001) (a := acc + now.getD i 0) (by decide) (by omega)
       refine AC.region ?_
       refine AL.p (by exact g_ia_own (i := i) (l := n) rfl rfl rfl rfl rfl rfl hi1 rfl) rfl ?_
       refine AL.p (by exact g_load_arr1 rfl rfl rfl rfl (by rw [Nat.mul_one]; exact hgi)) rfl ?_
       refine AL.p (by exact as1 rfl) rfl ?_
       refine AL.nil (th_n (AC.region ?_))
       refine AL.p (by exact mv1 rfl) rfl ?_
       refine AL.p (by exact mv1 rfl) rfl ?_
       refine AL.p (by exact g_arith rfl rfl rfl (by exact wrap_i64 (by omega))) rfl ?_
       refine AL.q (by exact h_pure en_l1Least rfl rfl (by repeat (first | exact rfl | exact DLead.same | refine ⟨_, _, rfl, ?_, ?_⟩)) hLs rfl) rfl ?_
       refine AL.p (by exact as1 rfl) rfl ?_
       refine AL.nil (ib_n (th_n (AC.region ?_)))
       refine AL.p (by exact g_arith rfl rfl rfl (by exact wrap_i64 (by omega))) rfl ?_
       refine AL.p (by exact mv1 rfl) rfl ?_
       refine AL.nil (th_n ?_)
       exact ⟨(i + 1, cutM 1000001 (acc + now.getD i 0)), ⟨by dsimp only; omega, hci, hsum⟩, by dsimp only; omega, Weak.ren _ [(100, 100)] hC rfl (by repeat (first | exact True.intro | refine And.intro ?_ ?_ | exact DLead.same | exact rfl | refine ⟨_, rfl, ?_⟩)) (by repeat (first | exact True.intro | refine And.intro ?_ ?_ | exact rfl | refine ⟨_, _, rfl, rfl, ?_⟩)) rfl rfl rfl⟩
      ·refine AC.exit (th_e (th_e (ib_y (th_n (AC.seq (AC.seq ?_))))))
       have hin : i = now.length := by omega
       rw [hin, List.drop_length, sumC] at hsum
       rw [← hsum] at hSk
       obtain ⟨S, hS⟩ : ∃ S, S = (cntC 2000000 x.moves n k0).sum := ⟨_, rfl⟩
       rw [← hS] at hSk hR
       obtain ⟨hSk1, hSk2⟩ := hSk
       unfold cutM at hSk1
       refine AC.region ?_
       refine AL.p (by exact mv1 rfl) rfl ?_
       refine AL.p (by exact g_cmp rfl rfl rfl) rfl ?_
       refine AL.nil (th_n ?_)
       refine AC.condD rfl (fun h4 => ?_) (fun h4 => ?_)
       ·refine AC.seq (AC.region ?_)
        refine AL.p (by exact as1 rfl) rfl ?_
        refine AL.p (by exact as1 rfl) rfl ?_
        refine AL.nil (th_n (AC.ret (th_r (bq_r ?_))))
        have e : R = (0, false) := hR.trans (if_pos (by have := ‹1000000 < acc›; split at hSk1 <;> omega))
        exact ret2 rfl (by rw [e]) (by rw [e])
       ·refine AC.skip (th_n (AC.seq (AC.region ?_)))
        refine AL.p (by exact mv1 rfl) rfl ?_
        refine AL.p (by exact as1 rfl) rfl ?_
        refine AL.p (by exact as1 rfl) rfl ?_
        refine AL.nil (th_n (AC.ret (bq_r ?_)))
        have hne : ¬ S > 1000000 := by have := ‹¬ 1000000 < acc›; split at hSk1 <;> omega
        have e := hR.trans (if_neg hne)
        have hSa : S = acc := by split at hSk1 <;> omega
        rw [hSa] at e
        exact ret2 rfl (by rw [e]) (by rw [e])
theorem en_sCount : Enters Tryz.prog 39 := enters_of Tryz.func39 rfl rfl
end Go.Proofs.YthafkkgmekgmoaaGreat
