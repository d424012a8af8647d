/- Contracts of the functions of the program and of the reference, each proved by a walk through its code. -/
import Derived.WalkKit
import Derived.WalkSpells
import Derived.WalkLawsBesides
import Derived.Deep.Draws
import Derived.Lib.Hide
import Derived.Maps.AppendAt
import Derived.OwnWalk
import Derived.Deep.MidRow
import Derived.Laws.ResultCell
import Derived.Deep.Upon
import Derived.Great.FillDense
import Derived.Laws.Tables
import Derived.Laws.BytesArg
import Derived.Laws.MakeOwn
import Derived.Great.BuildSlice
import Derived.ArgAppend
import Derived.Deep.AppendSrc
import Derived.Test.YthafkkgmekgmoaaGreatProg
import Derived.KernelRfl
import Derived.Orders
import Derived.Laws.IdiomStrings
import Derived.Lib.AppendZerosOnto
import Derived.ProofKit
import Derived.OpenShut
import Derived.Lib.SliceRun
import Derived.Laws.StructEq
import Derived.ChangeKeysEq
import Derived.Sort.Grow
import Derived.Laws.RangeString
import Derived.Below
import Derived.Laws.Small
import Derived.MapKept
import Derived.WideMake
import Derived.Laws.IdiomCopy
import Derived.Shelf.Bits.Mul64
import Derived.Test.YthafkkgmekgmoaaGreatRows
import Derived.Test.YthafkkgmekgmoaaGreatGRd8
set_option linter.all false
set_option maxRecDepth 20000
namespace Go.Proofs.YthafkkgmekgmoaaGreat
open Go.RowKit
theorem goodR_moves {x : Ex} (h : goodR x = true) : ∀ v, v ∈ x.moves → (0 ≤ v.from_ ∧ v.from_ < x.marks.length) ∧ (0 ≤ v.to_ ∧ v.to_ < x.marks.length) ∧ 0 ≤ v.by_ ∧ v.by_ ≤ 23 := fun v hv => mvIn_iff.1 ((goodR_iff.1 h).2.2.2 v hv)
theorem goodR_edges {x : Ex} (h : goodR x = true) : ∀ f t, (f, t) ∈ edgesR x → f < x.marks.length ∧ t < x.marks.length := edgesR_in fun v hv => by have := goodR_moves h v hv; omega
noncomputable def wayL (x : Ex) (k : Nat) : List Int := (backI (edgesR x) (distF (edgesR x) x.marks.length 0) (oa (distF (edgesR x) x.marks.length 0) k).toNat k).reverse.map fun i => (mvAt x i).by_
noncomputable def wayR (x : Ex) (k : Int) : List Int × Bool := if (goodR x && (decide (0 ≤ k) && decide (k ≤ (x.marks.length : Int) - 1))) = true then (if oa (distF (edgesR x) x.marks.length 0) k.toNat < 0 then ([], false) else (wayL x k.toNat, true)) else ([], false)
theorem map_take_snoc {α β : Type} {f : α → β} {l : List α} {j : Nat} (h : j < l.length) : (l.take (j + 1)).map f = (l.take j).map f ++ [f l[j]] := by
 rw [List.take_add_one, List.getElem?_eq_getElem h, List.map_append]; rfl
set_option maxHeartbeats 4000000 in
theorem iShortFS_spec (x : Ex) (k : Int) (hk : -1000000 ≤ k ∧ k ≤ 1000000) (h1l : x.marks.length ≤ 100000) (h2l : x.moves.length ≤ 1000000) : ASpec Tryz.prog 20 [rgA x, aI k] [] (Pure1 (.tup [.d (vI (wayR x k).1), aT (wayR x k).2])) := by
 have hV := iIsReach_spec x (by omega) h2l
 have hW := within_spec k 0 ((x.marks.length : Int) - 1)
 have hR : wayR x k = if (goodR x && (decide (0 ≤ k) && decide (k ≤ (x.marks.length : Int) - 1))) = true then (if oa (distF (edgesR x) x.marks.length 0) k.toNat < 0 then ([], false) else (wayL x k.toNat, true)) else ([], false) := rfl
 have hS := fun h : goodR x = true => stepsOf_spec x (by omega) h2l (fun v hv => by have := goodR_moves h v hv; omega)
 have hT := fun (h : goodR x = true) (hk : k.toNat < x.marks.length) => shortestI_spec (edgesR x) x.marks.length k.toNat hk h1l (by rw [edgesR_len]; exact h2l) (goodR_edges h)
 have hB := fun (h : goodR x = true) (h0 : 0 < x.marks.length) => backI_in (dist_ex h0 (goodR_edges h))
 have hDle := fun (h : goodR x = true) (h0 : 0 < x.marks.length) => distF_le h0 (goodR_edges h)
 have hSh : shortF (edgesR x) x.marks.length k.toNat = if oa (distF (edgesR x) x.marks.length 0) k.toNat < 0 then ([], false) else ((nI (backI (edgesR x) (distF (edgesR x) x.marks.length 0) (oa (distF (edgesR x) x.marks.length 0) k.toNat).toNat k.toNat)).reverse, true) := rfl
 have hWL : wayL x k.toNat = (backI (edgesR x) (distF (edgesR x) x.marks.length 0) (oa (distF (edgesR x) x.marks.length 0) k.toNat).toNat k.toNat).reverse.map fun i => (mvAt x i).by_ := rfl
 rw [edgesR_len] at hB
 obtain ⟨b, hb⟩ : ∃ b, b = goodR x := ⟨_, rfl⟩
 rw [← hb] at hV hR hS hT hB hDle
 obtain ⟨c, hc⟩ : ∃ c, c = (decide (0 ≤ k) && decide (k ≤ (x.marks.length : Int) - 1)) := ⟨_, rfl⟩
 rw [← hc] at hW hR
 obtain ⟨R, hRR⟩ : ∃ R, R = wayR x k := ⟨_, rfl⟩
 rw [← hRR] at hR ⊢
 have hck : c = true → 0 ≤ k ∧ k < x.marks.length := fun h => by rw [hc, Bool.and_eq_true, decide_eq_true_eq, decide_eq_true_eq] at h; omega
 clear hb hc hRR
 obtain ⟨E, hE⟩ : ∃ E, E = edgesR x := ⟨_, rfl⟩
 rw [← hE] at hS hT hB hR hSh hWL hDle
 obtain ⟨o, ho⟩ : ∃ o, o = distF E x.marks.length 0 := ⟨_, rfl⟩
 rw [← ho] at hR hB hSh hWL hDle
 have hB2 := fun (h1 : b = true) (h2 : c = true) (h3 : 0 ≤ oa o k.toNat) => hB h1 (by have := hck h2; omega) (oa o k.toNat).toNat k.toNat (by omega)
 obtain ⟨T, hTT⟩ : ∃ T, T = shortF E x.marks.length k.toNat := ⟨_, rfl⟩
 rw [← hTT] at hT hSh
 obtain ⟨W, hWW⟩ : ∃ W, W = backI E o (oa o k.toNat).toNat k.toNat := ⟨_, rfl⟩
 rw [← hWW] at hB2 hSh hWL
 have hWb2 := fun (h1 : b = true) (h2 : c = true) => hDle h1 (by have := hck h2; omega) k.toNat
 have hWb3 : W.length = (oa o k.toNat).toNat := by rw [hWW, backI_len]
 clear hB hE ho hTT hWW hDle
 refine ASpec.of Tryz.func20 rfl rfl fun C hC => ?_
 refine AC.seq (AC.region ?_)
 refine AL.q (by exact h_boxF rfl rfl) rfl ?_
 refine AL.p (by exact as1 rfl) rfl ?_
 refine AL.p (by exact as1 rfl) rfl ?_
 refine AL.nil (th_n (AC.seq (AC.seq (AC.region ?_))))
 refine AL.p (by exact g_load_refN rfl rfl rfl rfl) rfl ?_
 refine AL.q (by exact h_pure en_iIsReach rfl rfl (by repeat (first | exact rfl | exact DLead.same | refine ⟨_, _, rfl, ?_, ?_⟩ | refine ⟨_, rfl, ?_⟩)) hV rfl) rfl ?_
 refine AL.p (by exact g_not rfl) rfl ?_
 refine AL.p (by exact mv1 rfl) rfl ?_
 refine AL.caseGB rfl rfl (fun h0 => ?_) (fun h0 => ?_)
 ·refine AL.not rfl rfl rfl rfl rfl ?_
  refine AL.not rfl rfl rfl rfl rfl ?_
  refine AL.not rfl rfl rfl rfl rfl ?_
  refine AL.not rfl rfl rfl rfl rfl ?_
  refine AL.not rfl rfl rfl rfl rfl ?_
  refine AL.not rfl rfl rfl rfl rfl ?_
  refine AL.not rfl rfl rfl rfl rfl ?_
  refine AL.p (by exact g_pickT (r := .d _) rfl rfl) rfl ?_
  refine AL.nil (th_n ?_)
  refine AC.condT rfl ?_
  refine AC.seq (AC.region ?_)
  refine AL.p (by exact as1 rfl) rfl ?_
  refine AL.p (by exact as1 rfl) rfl ?_
  refine AL.nil (th_n (AC.ret (th_r (bq_r ?_))))
  have e : R = ([], false) := hR.trans (if_neg (by simp_all))
  exact ret0 rfl (by rw [e]; show AV.leads _ (.tup [.d (vI []), aT false]) _; repeat (first | exact DLead.same | exact DLead.nil | exact rfl | refine ⟨_, rfl, ?_⟩ | refine ⟨_, _, rfl, ?_, ?_⟩))
 ·refine AL.yes rfl rfl rfl ?_
  refine AL.p (by exact mv1 rfl) rfl ?_
  refine AL.yes rfl rfl rfl ?_
  refine AL.p (by exact g_fa_ref rfl rfl rfl rfl rfl rfl) rfl ?_
  refine AL.yes rfl rfl rfl ?_
  refine AL.p (by exact g_load_ref rfl rfl rfl) rfl ?_
  refine AL.yes rfl rfl rfl ?_
  refine AL.p (by exact g_len_view (k := x.marks.length) rfl rfl (tsX_len _)) rfl ?_
  refine AL.yes rfl rfl rfl ?_
  refine AL.p (by exact g_arith rfl rfl rfl (by exact wrap_i64 (by omega))) rfl ?_
  refine AL.yes rfl rfl rfl ?_
  refine AL.q (by exact h_pure en_within rfl rfl (by repeat (first | exact rfl | exact DLead.same | refine ⟨_, _, rfl, ?_, ?_⟩)) hW rfl) rfl ?_
  refine AL.yes rfl rfl rfl ?_
  refine AL.p (by exact g_not rfl) rfl ?_
  refine AL.p (by exact g_pickF (r := .d _) rfl rfl) rfl ?_
  refine AL.nil (th_n ?_)
  refine AC.condB rfl (fun h1 => ?_) (fun h1 => ?_)
  ·refine AC.seq (AC.region ?_)
   refine AL.p (by exact as1 rfl) rfl ?_
   refine AL.p (by exact as1 rfl) rfl ?_
   refine AL.nil (th_n (AC.ret (th_r (bq_r ?_))))
   have e : R = ([], false) := hR.trans (if_neg (by simp_all))
   exact ret0 rfl (by rw [e]; show AV.leads _ (.tup [.d (vI []), aT false]) _; repeat (first | exact DLead.same | exact DLead.nil | exact rfl | refine ⟨_, rfl, ?_⟩ | refine ⟨_, _, rfl, ?_, ?_⟩))
  ·refine AC.skip (th_n (AC.seq ?_))
   have hb1 : b = true := by simp_all
   have hc1 : c = true := by simp_all
   have hkk := hck hc1
   have hS1 := hS hb1
   have hT1 := hT hb1 (by omega)
   rw [show ((k.toNat : Nat) : Int) = k by omega] at hT1
   have hR1 := hR.trans (if_pos (by rw [hb1, hc1]; rfl))
   have hB3 := hB2 hb1 hc1
   have hWb : W.length ≤ 100000 := by have := hWb2 hb1 hc1; omega
   clear hR hS hT hB2 hV hW
   refine AC.drawn' mixed_ok [[], [0], [0,1], [], [3], [], [0,1,2,3,4,5], [0,1,2,3,4,5,6], [0,1,2,3,4,5,6,7], [0,1,2,3,4,5,6,7], [0,1,2,3,4,5,6,7,8], [0,1,2,3,4,5,6,7,8,9,10]] (by decide) ?_
   refine DF.op 0 [] 12 rfl rfl rfl (.free rfl (NOp.of (by exact g_fa_ref rfl rfl rfl rfl rfl rfl))) rfl ?_
   refine DF.op 1 [0] 12 rfl rfl rfl (.free rfl (NOp.of (by exact g_load_ref rfl rfl rfl))) rfl ?_
   refine DF.op 2 [0,1] 12 rfl rfl rfl (.free rfl (NOp.of (by exact g_len_view (k := x.marks.length) rfl rfl (tsX_len _)))) rfl ?_
   refine DF.op 3 [] 12 rfl rfl rfl (.free rfl (NOp.of (by exact g_load_refN rfl rfl rfl rfl))) rfl ?_
   refine DF.op 4 [3] 12 rfl rfl rfl (.free rfl (by exact h_pure en_stepsOf rfl rfl (by repeat (first | exact rfl | exact DLead.same | refine ⟨_, _, rfl, ?_, ?_⟩ | refine ⟨_, rfl, ?_⟩)) hS1 rfl)) rfl ?_
   refine DF.op 5 [] 12 rfl rfl rfl (.free rfl (NOp.of (by exact mv1 rfl))) rfl ?_
   refine DF.op 6 [0,1,2,3,4,5] 12 rfl rfl rfl (.free rfl (by exact h_pure en_shortestI rfl rfl (by repeat (first | exact rfl | exact DLead.same | refine ⟨_, _, rfl, ?_, ?_⟩)) hT1 rfl)) rfl ?_
   refine DF.op 7 [0,1,2,3,4,5,6] 12 rfl rfl rfl (.free rfl (NOp.of (by exact mv5 rfl))) rfl ?_
   refine DF.op 8 [0,1,2,3,4,5,6,7] 12 rfl rfl rfl (.free rfl (NOp.of (by exact g_extract (r := .d _) rfl rfl))) rfl ?_
   refine DF.op 9 [0,1,2,3,4,5,6,7] 12 rfl rfl rfl (.free rfl (NOp.of (by exact g_extract (r := .d _) rfl rfl))) rfl ?_
   refine DF.op 10 (List.range 9) 12 rfl rfl rfl (.free rfl (NOp.of (by exact as1 rfl))) rfl ?_
   refine DF.op 11 (List.range 11) 12 rfl rfl rfl (.free rfl (NOp.of (by exact as1 rfl))) rfl ?_
   refine DF.fin (ps := [(0,3),(0,4),(0,5),(1,3),(1,4),(1,5),(2,3),(2,4),(2,5),(3,0),(3,1),(3,2),(3,5),(4,0),(4,1),(4,2),(4,5),(5,0),(5,1),(5,2),(5,3),(5,4),(8,9),(9,8),(9,10),(10,9)]) 12 rfl (by decide +kernel) (by decide +kernel) (by rfl) ?_
   refine th_n (AC.seq (AC.seq (AC.region ?_)))
   refine AL.p (by exact mv1 rfl) rfl ?_
   refine AL.p (by exact g_not rfl) rfl ?_
   refine AL.nil (th_n ?_)
   refine AC.condB rfl (fun h2 => ?_) (fun h2 => ?_)
   ·refine AC.seq (AC.region ?_)
    refine AL.p (by exact as1 rfl) rfl ?_
    refine AL.p (by exact as1 rfl) rfl ?_
    refine AL.nil (th_n (AC.ret (th_r (bq_r ?_))))
    have hlt : oa o k.toNat < 0 := by refine Int.not_le.1 fun q => ?_; rw [if_neg (by omega)] at hSh; simp_all
    have e : R = ([], false) := hR1.trans (if_pos hlt)
    exact ret0 rfl (by rw [e]; show AV.leads _ (.tup [.d (vI []), aT false]) _; repeat (first | exact DLead.same | exact DLead.nil | exact rfl | refine ⟨_, rfl, ?_⟩ | refine ⟨_, _, rfl, ?_, ?_⟩))
   ·refine AC.skip (th_n (AC.seq ?_))
    have hlt : ¬ oa o k.toNat < 0 := fun q => by rw [if_pos q] at hSh; simp_all
    rw [if_neg hlt] at hSh hR1
    have hT1e : T.1 = nI W.reverse := by rw [hSh]; unfold nI; rw [List.map_reverse]
    have hB4 := hB3 (by omega)
    have hWr : ∀ i, i ∈ W.reverse → i < x.moves.length := fun i hi => hB4 i (List.mem_reverse.1 hi)
    rw [hT1e]
    obtain ⟨L, hL⟩ : ∃ L, L = W.reverse := ⟨_, rfl⟩
    rw [← hL] at hWr hWL ⊢
    have hLl : L.length ≤ 100000 := by rw [hL, List.length_reverse]; exact hWb
    refine AC.region ?_
    refine AL.q (by exact h_lit rfl rfl rfl rfl rfl rfl rfl rfl) rfl ?_
    refine AL.p (by exact as2 rfl) rfl ?_
    refine AL.nil (th_n (AC.seq (AC.seq (AC.region ?_))))
    refine AL.p (by exact mv1 rfl) rfl ?_
    refine AL.p (by exact g_len_view (k := L.length) rfl rfl (by rw [ints_len, nI_len])) rfl ?_
    refine AL.p (by exact mv1 rfl) rfl ?_
    refine AL.nil (th_n (AC.block ?_))
    refine AC.loop (ι := Nat) (fun j => ⟨53, 600, [(2, .d (.ref (rgD x))), (8, .own 100 j), (36, .d (vI (nI L))), (37, aI L.length), (38, aI j)], [(100, some (.arr 3 1 (ints ((L.take j).map fun i => (mvAt x i).by_))))]⟩) (fun j => j ≤ L.length) (fun j => L.length - j) (0) ?_ (Nat.zero_le _) ?_
    ·exact Weak.ren _ [(100, _)] hC rfl (by repeat (first | exact True.intro | refine And.intro ?_ ?_ | exact DLead.same | exact rfl | refine ⟨_, rfl, ?_⟩)) (by repeat (first | exact True.intro | refine And.intro ?_ ?_ | exact rfl | refine ⟨_, _, rfl, rfl, ?_⟩)) rfl rfl rfl
    ·intro j hj
     refine AC.seq (AC.region ?_)
     refine AL.p (by exact g_cmp rfl rfl rfl) rfl ?_
     refine AL.nil (th_n (AC.seq ?_))
     refine AC.condD rfl (fun h3 => ?_) (fun h3 => ?_)
     ·refine AC.skip (th_n (AC.seq (AC.block (AC.seq ?_))))
      have hj1 : j < L.length := by omega
      have hget := nI_get hj1
      have hi := hWr _ (List.getElem_mem hj1)
      have hsn := map_take_snoc (f := fun i => (mvAt x i).by_) hj1
      have hml : ((L.take j).map fun i => (mvAt x i).by_).length = j := by rw [List.length_map, List.length_take]; omega
      obtain ⟨i, hii⟩ : ∃ i, i = L[j] := ⟨_, rfl⟩
      rw [← hii] at hget hi hsn
      clear hii
      have hrow := mvL_get hi
      have hmi := mvAt_nat hi
      obtain ⟨v, hv⟩ : ∃ v, v = x.moves[i] := ⟨_, rfl⟩
      rw [← hv] at hrow hmi
      rw [hmi] at hsn
      refine AC.region ?_
      refine AL.p (by exact g_ia_view rfl rfl rfl rfl rfl (by rfl) (by assumption)) rfl ?_
      refine AL.p (by exact g_load_ref rfl rfl rfl) rfl ?_
      refine AL.p (by exact as1 rfl) rfl ?_
      refine AL.nil (th_n (AC.region ?_))
      refine AL.p (by exact mv2 rfl) rfl ?_
      refine AL.p (by exact g_fa_ref rfl rfl rfl rfl rfl rfl) rfl ?_
      refine AL.p (by exact g_load_ref rfl rfl rfl) rfl ?_
      refine AL.p (by exact mv1 rfl) rfl ?_
      refine AL.p (by exact g_ia_view (i := i) rfl rfl rfl rfl rfl rfl hrow) rfl ?_
      refine AL.p (by exact g_fa_ref rfl rfl rfl rfl rfl rfl) rfl ?_
      refine AL.p (by exact g_load_ref rfl rfl rfl) rfl ?_
      refine AL.q (by exact h_litF rfl rfl rfl rfl rfl rfl rfl rfl) rfl ?_
      refine AL.q (by exact h_appendI ((L.take j).map fun i => (mvAt x i).by_) [v.by_] (.own rfl rfl (by rw [ints_len, hml])) (.view rfl) (by rw [List.length_append, hml]; simp only [List.length_cons, List.length_nil]; omega) (by simp)) rfl ?_
      refine AL.p (by exact as2 rfl) rfl ?_
      refine AL.nil (ib_n (th_n (AC.region ?_)))
      refine AL.p (by exact g_arith rfl rfl rfl (by exact wrap_i64 (by omega))) rfl ?_
      refine AL.p (by exact mv1 rfl) rfl ?_
      refine AL.nil (th_n ?_)
      exact ⟨j + 1, by omega, by omega, Weak.ren _ [(100, _)] hC rfl (by rw [List.length_append, hml]; repeat (first | exact True.intro | refine And.intro ?_ ?_ | exact DLead.same | exact rfl | refine ⟨_, rfl, ?_⟩)) (by rw [hsn]; repeat (first | exact True.intro | refine And.intro ?_ ?_ | exact rfl | refine ⟨_, _, rfl, rfl, ?_⟩)) rfl rfl rfl⟩
     ·refine AC.exit (th_e (th_e (ib_y (th_n (AC.seq ?_)))))
      have hjj : j = L.length := by omega
      rw [hjj, List.take_length, ← hWL]
      have hwl : (wayL x k.toNat).length = L.length := by rw [hWL, List.length_map]
      rw [← hwl]
      refine AC.weak (Weak.freeze (i := 8) rfl rfl (Nat.le_of_eq (ints_len _).symm) (List.take_of_length_le (Nat.le_of_eq (ints_len _)))) ?_
      refine AC.region ?_
      refine AL.p (by exact mv1 rfl) rfl ?_
      refine AL.p (by exact as1 rfl) rfl ?_
      refine AL.p (by exact as1 rfl) rfl ?_
      refine AL.nil (th_n (AC.ret (bq_r ?_)))
      exact ret0 rfl (by rw [hR1]; show AV.leads _ (.tup [.d (vI (wayL x k.toNat)), aT true]) _; repeat (first | exact DLead.same | exact rfl | refine ⟨_, rfl, ?_⟩ | refine ⟨_, _, rfl, ?_, ?_⟩))
theorem en_iShortFS : Enters Tryz.prog 20 := enters_of Tryz.func20 rfl rfl
def farZ (n k : Nat) : List Int := List.replicate k (-1) ++ List.replicate (n - k) 0
theorem farZ_get {n k : Nat} (h : k < n) : (ints (farZ n k))[k]? = some [dI 0] := by
 unfold farZ
 rw [List.getElem?_map, List.getElem?_append_right (by simp), List.length_replicate, Nat.sub_self, List.getElem?_replicate, if_pos (by omega)]; rfl
theorem farZ_set {n k : Nat} (h : k < n) : (ints (farZ n k)).set k [dI (-1)] = ints (farZ n (k + 1)) := by
 rw [← ints_set]
 congr 1
 unfold farZ
 obtain ⟨q, hq⟩ : ∃ q, n - k = q + 1 := ⟨n - k - 1, by omega⟩
 rw [hq, show n - (k + 1) = q by omega, List.replicate_succ, List.set_append_right _ _ (by simp), List.length_replicate, Nat.sub_self, List.set_cons_zero, List.replicate_succ', List.append_assoc]; rfl
theorem farZ_zero (n : Nat) : farZ n 0 = List.replicate n 0 := by unfold farZ; simp
theorem farZ_all (n : Nat) : farZ n n = List.replicate n (-1) := by unfold farZ; simp
theorem repZ (n : Nat) : List.replicate n (([ZK.int .i64] : List ZK).map fun z => DV.val z.val) = ints (List.replicate n 0) := by rw [ints, List.map_replicate]; rfl
set_option maxHeartbeats 8000000 in
theorem sFar_spec (x : Ex) (s : Nat) (hs : s < x.marks.length) (h1l : x.marks.length ≤ 100000) (h2l : x.moves.length ≤ 1000000) (hp : ∀ v, v ∈ x.moves → (0 ≤ v.from_ ∧ v.from_ < x.marks.length) ∧ 0 ≤ v.to_ ∧ v.to_ < x.marks.length) : ASpec Tryz.prog 117 [rgA x, aI s] [] (Pure1 (.d (vI (distF (edgesR x) x.marks.length s)))) := by
 have hE := edgesR_in hp
 have hB0 := RndI.start hs hE
 have hel := edgesR_len x
 have hEg : ∀ j (hj : j < x.moves.length), (edgesR x)[j]'(by rw [hel]; exact hj) = (x.moves[j].from_.toNat, x.moves[j].to_.toNat) := fun j hj => edgesR_get hj
 obtain ⟨n, hn⟩ : ∃ n, n = x.marks.length := ⟨_, rfl⟩
 rw [← hn] at hs h1l hB0 hp ⊢
 obtain ⟨E, hEE⟩ : ∃ E, E = edgesR x := ⟨_, rfl⟩
 simp only [← hEE] at hB0 hel hEg ⊢
 clear hE
 refine ASpec.of Tryz.func117 rfl rfl fun C hC => ?_
 refine AC.seq (AC.region ?_)
 refine AL.q (by exact h_boxF rfl rfl) rfl ?_
 refine AL.p (by exact as1 rfl) rfl ?_
 refine AL.nil (th_n (AC.seq (AC.region ?_)))
 refine AL.p (by exact g_fa_ref rfl rfl rfl rfl rfl rfl) rfl ?_
 refine AL.p (by exact g_load_ref rfl rfl rfl) rfl ?_
 refine AL.p (by exact g_len_view (k := n) rfl rfl (by rw [hn]; exact tsX_len _)) rfl ?_
 refine AL.q (by exact h_make (k := n) rfl rfl rfl rfl rfl rfl rfl rfl (by show 8 * n ≤ _; omega) (by omega)) rfl ?_
 refine AL.p (by exact as2 rfl) rfl ?_
 refine AL.nil (th_n (AC.seq (AC.seq (AC.region ?_))))
 refine AL.p (by exact mv2 rfl) rfl ?_
 refine AL.p (by exact g_len_own (sz := 1) (els := []) (e' := 0) rfl rfl (by simp only [maxLen]; omega)) rfl ?_
 refine AL.p (by exact mv1 rfl) rfl ?_
 refine AL.nil (th_n (AC.block ?_))
 refine AC.loop (ι := Nat) (fun k => ⟨62, 300, [(1, aI s), (2, .d (.ref (rgD x))), (5, .own 100 n), (15, aI n), (16, aI k)], [(100, some (.arr 3 1 (ints (farZ n k))))]⟩) (fun k => k ≤ n) (fun k => n - k) (0) ?_ (Nat.zero_le _) ?_
 ·exact Weak.ren _ [(100, _)] hC rfl (by repeat (first | exact True.intro | refine And.intro ?_ ?_ | exact DLead.same | exact rfl | refine ⟨_, rfl, ?_⟩)) (by rw [farZ_zero, ← repZ]; repeat (first | exact True.intro | refine And.intro ?_ ?_ | exact rfl | refine ⟨_, _, rfl, rfl, ?_⟩)) rfl rfl rfl
 ·intro k hk
  refine AC.seq (AC.region ?_)
  refine AL.p (by exact g_cmp rfl rfl rfl) rfl ?_
  refine AL.nil (th_n (AC.seq ?_))
  refine AC.condD rfl (fun h0 => ?_) (fun h0 => ?_)
  ·refine AC.skip (th_n (AC.seq (AC.block (AC.seq ?_))))
   have hk1 : k < n := by omega
   have hgz := farZ_get hk1
   have hsz := farZ_set hk1
   refine AC.region ?_
   refine AL.p (by exact mv1 rfl) rfl ?_
   refine AL.p (by exact as1 rfl) rfl ?_
   refine AL.nil (th_n (AC.region ?_))
   refine AL.p (by exact mv2 rfl) rfl ?_
   refine AL.p (by exact mv1 rfl) rfl ?_
   refine AL.p (by exact g_ia_own (i := k) (l := n) rfl rfl rfl rfl rfl rfl hk1 rfl) rfl ?_
   refine AL.q (by exact h_store_arr (i := k) (j := 0) (d := dI (-1)) rfl rfl rfl rfl .same rfl hgz (by decide)) rfl ?_
   refine AL.nil (ib_n (th_n (AC.region ?_)))
   refine AL.p (by exact g_arith rfl rfl rfl (by exact wrap_i64 (by omega))) rfl ?_
   refine AL.p (by exact mv1 rfl) rfl ?_
   refine AL.nil (th_n ?_)
   exact ⟨k + 1, by omega, by omega, Weak.ren _ [(100, 100)] hC rfl (by repeat (first | exact True.intro | refine And.intro ?_ ?_ | exact DLead.same | exact rfl | refine ⟨_, rfl, ?_⟩)) (by rw [← hsz]; repeat (first | exact True.intro | refine And.intro ?_ ?_ | exact rfl | refine ⟨_, _, rfl, rfl, ?_⟩)) rfl rfl rfl⟩
  ·refine AC.exit (th_e (th_e (ib_y (th_n (AC.seq ?_)))))
   have hkn : k = n := by omega
   rw [hkn, farZ_all]
   have hr0 : (ints (List.replicate n (-1)))[s]? = some [dI (-1)] := by rw [rep_ints, List.getElem?_replicate, if_pos hs]
   refine AC.region ?_
   refine AL.p (by exact mv2 rfl) rfl ?_
   refine AL.p (by exact mv1 rfl) rfl ?_
   refine AL.p (by exact g_ia_own (i := s) (l := n) rfl rfl rfl rfl rfl rfl hs rfl) rfl ?_
   refine AL.q (by exact h_store_arr (i := s) (j := 0) (d := dI 0) rfl rfl rfl rfl .same rfl hr0 (by decide)) rfl ?_
   refine AL.nil (th_n (AC.seq (AC.seq (AC.region ?_))))
   refine AL.p (by exact as1 rfl) rfl ?_
   refine AL.nil (th_n (AC.block ?_))
   refine AC.loop (ι := List Int × Nat) (fun y => ⟨62, 600, [(2, .d (.ref (rgD x))), (5, .own 100 n), (7, aI y.2)], [(100, some (.arr 3 1 (ints y.1)))]⟩) (fun y => RndI E n s y.1 y.2 0 ∧ y.2 ≤ n) (fun y => n - y.2) (((List.replicate n (-1)).set s 0, 0)) ?_ (⟨hB0, Nat.zero_le _⟩) ?_
   ·exact Weak.ren _ [(100, 100)] hC rfl (by repeat (first | exact True.intro | refine And.intro ?_ ?_ | exact DLead.same | exact rfl | refine ⟨_, rfl, ?_⟩)) (by rw [repN_set]; repeat (first | exact True.intro | refine And.intro ?_ ?_ | exact rfl | refine ⟨_, _, rfl, rfl, ?_⟩)) rfl rfl rfl
   ·rintro ⟨o, d⟩ ⟨hB, hd⟩
    dsimp only at hB hd ⊢
    refine AC.seq (AC.seq (AC.region ?_))
    refine AL.p (by exact mv1 rfl) rfl ?_
    refine AL.p (by exact mv2 rfl) rfl ?_
    refine AL.p (by exact g_len_own (sz := 1) (els := []) (e' := 0) rfl rfl (by simp only [maxLen]; omega)) rfl ?_
    refine AL.p (by exact g_cmp rfl rfl rfl) rfl ?_
    refine AL.nil (th_n ?_)
    refine AC.condD rfl (fun h1 => ?_) (fun h1 => ?_)
    ·refine AC.skip (th_n (AC.seq (AC.block (AC.seq (AC.region ?_)))))
     refine AL.p (by exact g_fa_ref rfl rfl rfl rfl rfl rfl) rfl ?_
     refine AL.p (by exact g_load_ref rfl rfl rfl) rfl ?_
     refine AL.p (by exact g_len_view (k := x.moves.length) rfl rfl (mvL_len _)) rfl ?_
     refine AL.p (by exact mv1 rfl) rfl ?_
     refine AL.nil (th_n (AC.block ?_))
     refine AC.loop (ι := List Int × Nat) (fun y => ⟨62, 900, [(2, .d (.ref (rgD x))), (5, .own 100 n), (7, aI d), (33, .d (vMvs x.moves)), (34, aI x.moves.length), (35, aI y.2)], [(100, some (.arr 3 1 (ints y.1)))]⟩) (fun y => RndI E n s y.1 d y.2 ∧ y.2 ≤ x.moves.length) (fun y => x.moves.length - y.2) ((o, 0)) ?_ (⟨hB, Nat.zero_le _⟩) ?_
     ·exact Weak.ren _ [(100, 100)] hC rfl (by repeat (first | exact True.intro | refine And.intro ?_ ?_ | exact DLead.same | exact rfl | refine ⟨_, rfl, ?_⟩)) (by repeat (first | exact True.intro | refine And.intro ?_ ?_ | exact rfl | refine ⟨_, _, rfl, rfl, ?_⟩)) rfl rfl rfl
     ·rintro ⟨o, j⟩ ⟨hB, hj⟩
      dsimp only at hB hj ⊢
      have hol := hB.len
      refine AC.seq (AC.region ?_)
      refine AL.p (by exact g_cmp rfl rfl rfl) rfl ?_
      refine AL.nil (th_n (AC.seq ?_))
      refine AC.condD rfl (fun h2 => ?_) (fun h2 => ?_)
      ·refine AC.skip (th_n (AC.seq (AC.block (AC.seq ?_))))
       have hj1 : j < x.moves.length := by omega
       have hjE : j < E.length := by omega
       have hget := mvL_get hj1
       have hpv := hp _ (List.getElem_mem hj1)
       have heg := hEg j hj1
       have hno := hB.no hjE
       have hye := hB.yes hjE
       rw [heg] at hno hye
       dsimp only at hno hye
       obtain ⟨v, hv⟩ : ∃ v, v = x.moves[j] := ⟨_, rfl⟩
       rw [← hv] at hget hpv hno hye
       clear hv heg
       obtain ⟨f, hf⟩ : ∃ f, f = v.from_.toNat := ⟨_, rfl⟩
       obtain ⟨t, ht⟩ : ∃ t, t = v.to_.toNat := ⟨_, rfl⟩
       rw [← hf, ← ht] at hno hye
       have e1 : v.from_ = (f : Int) := by omega
       have e2 : v.to_ = (t : Int) := by omega
       rw [e1, e2] at hget
       have hof := ints_oa (o := o) (v := f) (by omega)
       have hot := ints_oa (o := o) (v := t) (by omega)
       refine AC.region ?_
       refine AL.p (by exact g_ia_view rfl rfl rfl rfl rfl (by rfl) (by assumption)) rfl ?_
       refine AL.p (by exact g_load_refN rfl rfl rfl rfl) rfl ?_
       refine AL.q (by exact h_alloc rfl) rfl ?_
       refine AL.q (by exact h_store rfl rfl rfl rfl rfl rfl) rfl ?_
       refine AL.nil (th_n (AC.seq (AC.region ?_)))
       refine AL.p (by exact mv2 rfl) rfl ?_
       refine AL.p (by exact g_fa_ptr rfl rfl rfl rfl rfl) rfl ?_
       refine AL.p (by exact g_load_ptr rfl rfl rfl rfl rfl) rfl ?_
       refine AL.p (by exact g_ia_own (i := f) (l := n) rfl rfl rfl rfl rfl rfl (by omega) rfl) rfl ?_
       refine AL.p (by exact g_load_arr1 rfl rfl rfl rfl (by rw [Nat.mul_one]; exact hof)) rfl ?_
       refine AL.p (by exact mv1 rfl) rfl ?_
       refine AL.p (by exact g_cmp rfl rfl rfl) rfl ?_
       refine AL.p (by exact mv1 rfl) rfl ?_
       refine AL.caseG rfl rfl (fun h3 => ?_) (fun h3 => ?_)
       ·refine AL.yes rfl rfl rfl ?_
        refine AL.p (by exact mv2 rfl) rfl ?_
        refine AL.yes rfl rfl rfl ?_
        refine AL.p (by exact g_fa_ptr rfl rfl rfl rfl rfl) rfl ?_
        refine AL.yes rfl rfl rfl ?_
        refine AL.p (by exact g_load_ptr rfl rfl rfl rfl rfl) rfl ?_
        refine AL.yes rfl rfl rfl ?_
        refine AL.p (by exact g_ia_own (i := t) (l := n) rfl rfl rfl rfl rfl rfl (by omega) rfl) rfl ?_
        refine AL.yes rfl rfl rfl ?_
        refine AL.p (by exact g_load_arr1 rfl rfl rfl rfl (by rw [Nat.mul_one]; exact hot)) rfl ?_
        refine AL.yes rfl rfl rfl ?_
        refine AL.p (by exact g_cmp rfl rfl rfl) rfl ?_
        refine AL.p (by exact g_pickT (r := .d _) rfl rfl) rfl ?_
        refine AL.nil (th_n ?_)
        refine AC.condD rfl (fun h4 => ?_) (fun h4 => ?_)
        ·refine AC.region ?_
         refine AL.p (by exact mv2 rfl) rfl ?_
         refine AL.p (by exact g_fa_ptr rfl rfl rfl rfl rfl) rfl ?_
         refine AL.p (by exact g_load_ptr rfl rfl rfl rfl rfl) rfl ?_
         refine AL.p (by exact mv1 rfl) rfl ?_
         refine AL.p (by exact g_arith rfl rfl rfl (by exact wrap_i64 (by omega))) rfl ?_
         refine AL.p (by exact g_ia_own (i := t) (l := n) rfl rfl rfl rfl rfl rfl (by omega) rfl) rfl ?_
         refine AL.q (by exact h_store_arr (i := t) (j := 0) (d := dI ((d : Int) + 1)) rfl rfl rfl rfl .same rfl hot (by decide)) rfl ?_
         refine AL.nil (ib_n (th_n (AC.region ?_)))
         refine AL.p (by exact g_arith rfl rfl rfl (by exact wrap_i64 (by omega))) rfl ?_
         refine AL.p (by exact mv1 rfl) rfl ?_
         refine AL.nil (th_n ?_)
         (have e := hye (by assumption) (by assumption); exact ⟨(o.set t ((d : Int) + 1), j + 1), ⟨e, by dsimp only; omega⟩, by dsimp only; omega, Weak.ren _ [(100, 100)] hC rfl (by repeat (first | exact True.intro | refine And.intro ?_ ?_ | exact DLead.same | exact rfl | refine ⟨_, rfl, ?_⟩)) (by rw [ints_set]; repeat (first | exact True.intro | refine And.intro ?_ ?_ | exact rfl | refine ⟨_, _, rfl, rfl, ?_⟩)) rfl rfl rfl⟩)
        ·refine AC.skip (ib_n (th_n (AC.region ?_)))
         refine AL.p (by exact g_arith rfl rfl rfl (by exact wrap_i64 (by omega))) rfl ?_
         refine AL.p (by exact mv1 rfl) rfl ?_
         refine AL.nil (th_n ?_)
         (have e := hno (by rintro ⟨q1, q2⟩; contradiction); exact ⟨(o, j + 1), ⟨e, by dsimp only; omega⟩, by dsimp only; omega, Weak.ren _ [(100, 100)] hC rfl (by repeat (first | exact True.intro | refine And.intro ?_ ?_ | exact DLead.same | exact rfl | refine ⟨_, rfl, ?_⟩)) (by repeat (first | exact True.intro | refine And.intro ?_ ?_ | exact rfl | refine ⟨_, _, rfl, rfl, ?_⟩)) rfl rfl rfl⟩)
       ·refine AL.not rfl rfl rfl rfl rfl ?_
        refine AL.not rfl rfl rfl rfl rfl ?_
        refine AL.not rfl rfl rfl rfl rfl ?_
        refine AL.not rfl rfl rfl rfl rfl ?_
        refine AL.not rfl rfl rfl rfl rfl ?_
        refine AL.not rfl rfl rfl rfl rfl ?_
        refine AL.p (by exact g_pickF (r := .d _) rfl rfl) rfl ?_
        refine AL.nil (th_n ?_)
        refine AC.condF rfl ?_
        refine AC.skip (ib_n (th_n (AC.region ?_)))
        refine AL.p (by exact g_arith rfl rfl rfl (by exact wrap_i64 (by omega))) rfl ?_
        refine AL.p (by exact mv1 rfl) rfl ?_
        refine AL.nil (th_n ?_)
        (have e := hno (by rintro ⟨q1, q2⟩; contradiction); exact ⟨(o, j + 1), ⟨e, by dsimp only; omega⟩, by dsimp only; omega, Weak.ren _ [(100, 100)] hC rfl (by repeat (first | exact True.intro | refine And.intro ?_ ?_ | exact DLead.same | exact rfl | refine ⟨_, rfl, ?_⟩)) (by repeat (first | exact True.intro | refine And.intro ?_ ?_ | exact rfl | refine ⟨_, _, rfl, rfl, ?_⟩)) rfl rfl rfl⟩)
      ·refine AC.exit (th_e (th_e (ib_y (ib_n (th_n (AC.region ?_))))))
       refine AL.p (by exact mv1 rfl) rfl ?_
       refine AL.p (by exact g_arith rfl rfl rfl (by exact wrap_i64 (by omega))) rfl ?_
       refine AL.p (by exact as1 rfl) rfl ?_
       refine AL.nil (th_n ?_)
       have e := hB.next (by omega)
       exact ⟨(o, d + 1), ⟨e, by dsimp only; omega⟩, by dsimp only; omega, Weak.ren _ [(100, 100)] hC rfl (by repeat (first | exact True.intro | refine And.intro ?_ ?_ | exact DLead.same | exact rfl | refine ⟨_, rfl, ?_⟩)) (by repeat (first | exact True.intro | refine And.intro ?_ ?_ | exact rfl | refine ⟨_, _, rfl, rfl, ?_⟩)) rfl rfl rfl⟩
    ·refine AC.exit (th_e (th_e (ib_y (th_n (AC.seq ?_)))))
     have hdn : d = n := by omega
     rw [hdn] at hB
     rw [hB.dist.eq]
     refine AC.weak (Weak.freeze (i := 5) rfl rfl (by rw [ints_len, hB.len]; exact Nat.le_refl _) (List.take_of_length_le (by rw [ints_len, hB.len]; exact Nat.le_refl _))) ?_
     refine AC.region ?_
     refine AL.p (by exact mv1 rfl) rfl ?_
     refine AL.p (by exact as1 rfl) rfl ?_
     refine AL.nil (th_n (AC.ret (bq_r ?_)))
     exact ret1 rfl rfl
theorem en_sFar : Enters Tryz.prog 117 := enters_of Tryz.func117 rfl rfl
set_option maxHeartbeats 8000000 in
theorem sShortFS_spec (x : Ex) (k : Int) (hk : -1000000 ≤ k ∧ k ≤ 1000000) (h1l : x.marks.length ≤ 100000) (h2l : x.moves.length ≤ 1000000) : ASpec Tryz.prog 24 [rgA x, aI k] [] (Pure1 (.tup [.d (vI (wayR x k).1), aT (wayR x k).2])) := by
 have hV := sGoodR_spec x (by omega) h2l
 have hW := l1In_spec k 0 ((x.marks.length : Int) - 1)
 have hR : wayR x k = if (goodR x && (decide (0 ≤ k) && decide (k ≤ (x.marks.length : Int) - 1))) = true then (if oa (distF (edgesR x) x.marks.length 0) k.toNat < 0 then ([], false) else (wayL x k.toNat, true)) else ([], false) := rfl
 have hF := fun (h : goodR x = true) (h0 : 0 < x.marks.length) => sFar_spec x 0 h0 h1l h2l (fun v hv => by have := goodR_moves h v hv; exact ⟨this.1, this.2.1⟩)
 have hM := fun (h : goodR x = true) => goodR_moves h
 have hO := fun (h : goodR x = true) (h0 : 0 < x.marks.length) => dist_ex h0 (goodR_edges h)
 have hDle := fun (h : goodR x = true) (h0 : 0 < x.marks.length) => distF_le h0 (goodR_edges h)
 have hWL : wayL x k.toNat = (backI (edgesR x) (distF (edgesR x) x.marks.length 0) (oa (distF (edgesR x) x.marks.length 0) k.toNat).toNat k.toNat).reverse.map fun i => (mvAt x i).by_ := rfl
 have hel := edgesR_len x
 have hEg : ∀ j (hj : j < x.moves.length), (edgesR x)[j]'(by rw [hel]; exact hj) = (x.moves[j].from_.toNat, x.moves[j].to_.toNat) := fun j hj => edgesR_get hj
 obtain ⟨b, hb⟩ : ∃ b, b = goodR x := ⟨_, rfl⟩
 rw [← hb] at hV hR hF hM hO hDle
 obtain ⟨c, hc⟩ : ∃ c, c = (decide (0 ≤ k) && decide (k ≤ (x.marks.length : Int) - 1)) := ⟨_, rfl⟩
 rw [← hc] at hW hR
 obtain ⟨R, hRR⟩ : ∃ R, R = wayR x k := ⟨_, rfl⟩
 rw [← hRR] at hR ⊢
 have hck : c = true → 0 ≤ k ∧ k < x.marks.length := fun h => by rw [hc, Bool.and_eq_true, decide_eq_true_eq, decide_eq_true_eq] at h; omega
 clear hb hc hRR
 obtain ⟨E, hE⟩ : ∃ E, E = edgesR x := ⟨_, rfl⟩
 simp only [← hE] at hF hO hR hWL hDle hel hEg
 obtain ⟨o, ho⟩ : ∃ o, o = distF E x.marks.length 0 := ⟨_, rfl⟩
 simp only [← ho] at hF hO hR hWL hDle
 clear ho
 refine ASpec.of Tryz.func24 rfl rfl fun C hC => ?_
 refine AC.seq (AC.region ?_)
 refine AL.q (by exact h_boxF rfl rfl) rfl ?_
 refine AL.p (by exact as1 rfl) rfl ?_
 refine AL.p (by exact as1 rfl) rfl ?_
 refine AL.nil (th_n (AC.seq (AC.seq (AC.region ?_))))
 refine AL.p (by exact g_load_refN rfl rfl rfl rfl) rfl ?_
 refine AL.q (by exact h_pure en_sGoodR rfl rfl (by repeat (first | exact rfl | exact DLead.same | refine ⟨_, _, rfl, ?_, ?_⟩ | refine ⟨_, rfl, ?_⟩)) hV rfl) rfl ?_
 refine AL.p (by exact g_not rfl) rfl ?_
 refine AL.p (by exact mv1 rfl) rfl ?_
 refine AL.caseGB rfl rfl (fun h0 => ?_) (fun h0 => ?_)
 ·refine AL.not rfl rfl rfl rfl rfl ?_
  refine AL.not rfl rfl rfl rfl rfl ?_
  refine AL.not rfl rfl rfl rfl rfl ?_
  refine AL.not rfl rfl rfl rfl rfl ?_
  refine AL.not rfl rfl rfl rfl rfl ?_
  refine AL.not rfl rfl rfl rfl rfl ?_
  refine AL.not rfl rfl rfl rfl rfl ?_
  refine AL.p (by exact g_pickT (r := .d _) rfl rfl) rfl ?_
  refine AL.nil (th_n ?_)
  refine AC.condT rfl ?_
  refine AC.seq (AC.region ?_)
  refine AL.p (by exact as1 rfl) rfl ?_
  refine AL.p (by exact as1 rfl) rfl ?_
  refine AL.nil (th_n (AC.ret (th_r (bq_r ?_))))
  have e : R = ([], false) := hR.trans (if_neg (by simp_all))
  exact ret0 rfl (by rw [e]; show AV.leads _ (.tup [.d (vI []), aT false]) _; repeat (first | exact DLead.same | exact DLead.nil | exact rfl | refine ⟨_, rfl, ?_⟩ | refine ⟨_, _, rfl, ?_, ?_⟩))
 ·refine AL.yes rfl rfl rfl ?_
  refine AL.p (by exact mv1 rfl) rfl ?_
  refine AL.yes rfl rfl rfl ?_
  refine AL.p (by exact g_fa_ref rfl rfl rfl rfl rfl rfl) rfl ?_
  refine AL.yes rfl rfl rfl ?_
  refine AL.p (by exact g_load_ref rfl rfl rfl) rfl ?_
  refine AL.yes rfl rfl rfl ?_
  refine AL.p (by exact g_len_view (k := x.marks.length) rfl rfl (tsX_len _)) rfl ?_
  refine AL.yes rfl rfl rfl ?_
  refine AL.p (by exact g_arith rfl rfl rfl (by exact wrap_i64 (by omega))) rfl ?_
  refine AL.yes rfl rfl rfl ?_
  refine AL.q (by exact h_pure en_l1In rfl rfl (by repeat (first | exact rfl | exact DLead.same | refine ⟨_, _, rfl, ?_, ?_⟩)) hW rfl) rfl ?_
  refine AL.yes rfl rfl rfl ?_
  refine AL.p (by exact g_not rfl) rfl ?_
  refine AL.p (by exact g_pickF (r := .d _) rfl rfl) rfl ?_
  refine AL.nil (th_n ?_)
  refine AC.condB rfl (fun h1 => ?_) (fun h1 => ?_)
  ·refine AC.seq (AC.region ?_)
   refine AL.p (by exact as1 rfl) rfl ?_
   refine AL.p (by exact as1 rfl) rfl ?_
   refine AL.nil (th_n (AC.ret (th_r (bq_r ?_))))
   have e : R = ([], false) := hR.trans (if_neg (by simp_all))
   exact ret0 rfl (by rw [e]; show AV.leads _ (.tup [.d (vI []), aT false]) _; repeat (first | exact DLead.same | exact DLead.nil | exact rfl | refine ⟨_, rfl, ?_⟩ | refine ⟨_, _, rfl, ?_, ?_⟩))
  ·refine AC.skip (th_n (AC.seq ?_))
   have hb1 : b = true := by simp_all
   have hc1 : c = true := by simp_all
   have hkk := hck hc1
   have h0n : 0 < x.marks.length := by omega
   have hF1 := hF hb1 h0n
   have hO1 := hO hb1 h0n
   have hD1 := hDle hb1 h0n
   have hM1 := hM hb1
   have hR1 := hR.trans (if_pos (by rw [hb1, hc1]; rfl))
   clear hR hF hO hDle hM hV hW
   obtain ⟨k0, hk0⟩ : ∃ k0, k0 = k.toNat := ⟨_, rfl⟩
   rw [← hk0] at hR1 hWL
   have hkk0 : k = (k0 : Int) := by omega
   rw [hkk0]
   have hol := hO1.len
   have hok := ints_oa (o := o) (v := k0) (by omega)
   have hDk := hD1 k0
   refine AC.region ?_
   refine AL.p (by exact g_load_refN rfl rfl rfl rfl) rfl ?_
   refine AL.q (by exact h_pure en_sFar rfl rfl (by repeat (first | exact rfl | exact DLead.same | refine ⟨_, _, rfl, ?_, ?_⟩ | refine ⟨_, rfl, ?_⟩)) hF1 rfl) rfl ?_
   refine AL.p (by exact as1 rfl) rfl ?_
   refine AL.nil (th_n (AC.seq (AC.seq (AC.region ?_))))
   refine AL.p (by exact mv1 rfl) rfl ?_
   refine AL.p (by exact mv1 rfl) rfl ?_
   refine AL.p (by exact g_ia_view (i := k0) rfl rfl rfl rfl rfl rfl hok) rfl ?_
   refine AL.p (by exact g_load_ref rfl rfl rfl) rfl ?_
   refine AL.p (by exact g_cmp rfl rfl rfl) rfl ?_
   refine AL.nil (th_n ?_)
   refine AC.condD rfl (fun h2 => ?_) (fun h2 => ?_)
   ·refine AC.seq (AC.region ?_)
    refine AL.p (by exact as1 rfl) rfl ?_
    refine AL.p (by exact as1 rfl) rfl ?_
    refine AL.nil (th_n (AC.ret (th_r (bq_r ?_))))
    have e : R = ([], false) := hR1.trans (if_pos (by assumption))
    exact ret0 rfl (by rw [e]; show AV.leads _ (.tup [.d (vI []), aT false]) _; repeat (first | exact DLead.same | exact DLead.nil | exact rfl | refine ⟨_, rfl, ?_⟩ | refine ⟨_, _, rfl, ?_, ?_⟩))
   ·refine AC.skip (th_n (AC.seq (AC.region ?_)))
    refine AL.p (by exact as1 rfl) rfl ?_
    refine AL.nil (th_n (AC.seq (AC.block ?_)))
    refine AC.loop (ι := Nat × Nat × List Int) (fun y => ⟨72, 600, [(1, aI y.2.1), (2, .d (.ref (rgD x))), (6, .d (vI o)), (7, .own 100 y.2.2.length)], [(100, some (.arr 3 1 (ints y.2.2)))]⟩) (fun y => oa o y.2.1 = (y.1 : Int) ∧ ((backI E o y.1 y.2.1).reverse.map fun i => (mvAt x i).by_) ++ y.2.2 = wayL x k0) (fun y => y.1) (((oa o k0).toNat, k0, [])) ?_ (⟨by dsimp only; omega, by rw [hWL, List.append_nil]⟩) ?_
    ·exact (Weak.nilOwn (i := 7) (e := 3) (sz := 1) rfl (by decide)).trans (Weak.ren _ [(100, _)] hC rfl (by repeat (first | exact True.intro | refine And.intro ?_ ?_ | exact DLead.same | exact rfl | refine ⟨_, rfl, ?_⟩)) (by repeat (first | exact True.intro | refine And.intro ?_ ?_ | exact rfl | refine ⟨_, _, rfl, rfl, ?_⟩)) rfl rfl rfl)
    ·rintro ⟨d, q, acc⟩ ⟨hd, hacc⟩
     dsimp only at hd hacc ⊢
     have hqn := hO1.lt (v := q) (by omega)
     have hqo := ints_oa (o := o) (v := q) (by omega)
     have hlen := congrArg List.length hacc
     rw [List.length_append, List.length_map, List.length_reverse, backI_len, hWL, List.length_map, List.length_reverse, backI_len] at hlen
     refine AC.seq (AC.seq (AC.region ?_))
     refine AL.p (by exact mv1 rfl) rfl ?_
     refine AL.p (by exact g_cmp rfl rfl rfl) rfl ?_
     refine AL.nil (th_n ?_)
     refine AC.condND rfl (fun h3 => ?_) (fun h3 => ?_)
     ·refine AC.skip (th_n (AC.block (AC.seq ?_)))
      have hd0 : d ≠ 0 := by rintro rfl; have hw := hO1.wk q 0 hd; cases hw; omega
      obtain ⟨d', rfl⟩ : ∃ d', d = d' + 1 := ⟨d - 1, by omega⟩
      obtain ⟨i, hi, hfi, hbk, hoi, hnr, hbf⟩ := near_find hO1 (v := q) (d := d') (by omega)
      rw [hbk, List.reverse_cons, List.map_append, List.append_assoc] at hacc
      refine AC.region ?_
      refine AL.p (by exact g_fa_ref rfl rfl rfl rfl rfl rfl) rfl ?_
      refine AL.p (by exact g_load_ref rfl rfl rfl) rfl ?_
      refine AL.p (by exact g_len_view (k := x.moves.length) rfl rfl (mvL_len _)) rfl ?_
      refine AL.p (by exact mv1 rfl) rfl ?_
      refine AL.nil (th_n (AC.block ?_))
      refine AC.loop (ι := Nat) (fun j => ⟨72, 900, [(1, aI q), (2, .d (.ref (rgD x))), (6, .d (vI o)), (7, .own 100 acc.length), (32, .d (vMvs x.moves)), (33, aI x.moves.length), (34, aI j)], [(100, some (.arr 3 1 (ints acc)))]⟩) (fun j => j ≤ i) (fun j => x.moves.length - j) (0) ?_ (Nat.zero_le _) ?_
      ·exact Weak.ren _ [(100, 100)] hC rfl (by repeat (first | exact True.intro | refine And.intro ?_ ?_ | exact DLead.same | exact rfl | refine ⟨_, rfl, ?_⟩)) (by repeat (first | exact True.intro | refine And.intro ?_ ?_ | exact rfl | refine ⟨_, _, rfl, rfl, ?_⟩)) rfl rfl rfl
      ·intro j hj
       refine AC.seq (AC.region ?_)
       refine AL.p (by exact g_cmp rfl rfl rfl) rfl ?_
       refine AL.nil (th_n (AC.seq ?_))
       refine AC.condD rfl (fun h4 => ?_) (fun h4 => ?_)
       ·refine AC.skip (th_n (AC.seq (AC.block (AC.seq ?_))))
        have hj1 : j < x.moves.length := by omega
        have hget := mvL_get hj1
        have hpv := hM1 _ (List.getElem_mem hj1)
        have heg := hEg j hj1
        have hmi := mvAt_nat hj1
        have hnj : nearB o q E[j] = decide (x.moves[j].to_.toNat = q ∧ oa o x.moves[j].from_.toNat = oa o q - 1) := by rw [heg]; rfl
        have hEj1 : E[j].1 = x.moves[j].from_.toNat := by rw [heg]
        have hij : nearB o q E[j] = true → j = i := fun h => by rcases Nat.lt_or_ge j i with g | g; (have := hbf j (by omega) g; rw [this] at h; cases h); omega
        have hji : nearB o q E[j] = false → j + 1 ≤ i := fun h => by rcases Nat.lt_or_ge j i with g | g; exact g; (have e : j = i := (by omega); subst e; rw [hnr] at h; cases h)
        obtain ⟨v, hv⟩ : ∃ v, v = x.moves[j] := ⟨_, rfl⟩
        rw [← hv] at hget hpv hnj hEj1 hmi
        clear hv heg
        obtain ⟨f, hf⟩ : ∃ f, f = v.from_.toNat := ⟨_, rfl⟩
        obtain ⟨t, ht⟩ : ∃ t, t = v.to_.toNat := ⟨_, rfl⟩
        rw [← hf] at hnj hEj1
        rw [← ht] at hnj
        have e1 : v.from_ = (f : Int) := by omega
        have e2 : v.to_ = (t : Int) := by omega
        rw [e1, e2] at hget
        have hof := ints_oa (o := o) (v := f) (by omega)
        have hDq := hD1 q
        refine AC.region ?_
        refine AL.p (by exact g_ia_view rfl rfl rfl rfl rfl (by rfl) (by assumption)) rfl ?_
        refine AL.p (by exact g_load_refN rfl rfl rfl rfl) rfl ?_
        refine AL.q (by exact h_alloc rfl) rfl ?_
        refine AL.q (by exact h_store rfl rfl rfl rfl rfl rfl) rfl ?_
        refine AL.nil (th_n (AC.seq ?_))
        refine AC.drawn' mixed_ok [[], [0], [], [0,1,2], [0,1,2,3], [0,1,2,3,4], [0,1,2,3,4], [0,1,2,3,4,6], [0,1,2,3,4,5,6,7], [0,1,2,3,4,5,6,7,8], [0,1,2,3,4,5,6,7,8,9], [0,1,2,3,4,5,6,7,8,9,10], [0,1,2,3,4,5,6,7,8,9,10,11], [0,1,2,3,4,5,6,7,8,9,10,11,12], [0,1,2,3,4,5,6,7,8,9,10,11,12], [0,1,2,3,4,5,6,7,8,9,10,11,12,14], [0,1,2,3,4,5,6,7,8,9,10,11,12,13,14,15], [0,1,2,3,4,5,6,7,8,9,10,11,12,13,14,15,16], [0,1,2,3,4,5,6,7,8,9,10,11,12], [0,1,2,3,4,5,6,7,8,9,10,11,12], [0,1,2,3,4,5,6,7,8,9,10,11,12,18,19], [0,1,2,3,4,5,6,7,8,9,10,11,12,18,19,20], [0,1,2,3,4,5,6,7,8,9,10,11,12,18,19,20,21], [0,1,2,3,4,5,6,7,8,9,10,11,12,13,14,15,16,17,18,19,20,21,22], [0,1,2,3,4,5,6,7,8,9,10,11,12,13,14,15,16,17,18,19,20,21,22,23]] (by decide) ?_
        refine DF.op 0 [] 25 rfl rfl rfl (.free rfl (NOp.of (by exact g_fa_ptr rfl rfl rfl rfl rfl))) rfl ?_
        refine DF.op 1 [0] 25 rfl rfl rfl (.free rfl (NOp.of (by exact g_load_ptr rfl rfl rfl rfl rfl))) rfl ?_
        refine DF.op 2 [] 25 rfl rfl rfl (.free rfl (NOp.of (by exact mv1 rfl))) rfl ?_
        refine DF.op 3 [0,1,2] 25 rfl rfl rfl (.free rfl (NOp.of (by exact g_cmp rfl rfl rfl))) rfl ?_
        refine DF.op 4 [0,1,2,3] 25 rfl rfl rfl (.free rfl (NOp.of (by exact mv1 rfl))) rfl ?_
        refine DF.caseD 4 rfl (fun h5 => ?_) (fun h5 => ?_)
        ·refine DF.op 5 [0,1,2,3,4] 25 rfl rfl rfl (.yes rfl rfl rfl rfl (NOp.of (by exact mv1 rfl))) rfl ?_
         refine DF.op 6 [0,1,2,3,4] 25 rfl rfl rfl (.yes rfl rfl rfl rfl (NOp.of (by exact g_fa_ptr rfl rfl rfl rfl rfl))) rfl ?_
         refine DF.op 7 [0,1,2,3,4,6] 25 rfl rfl rfl (.yes rfl rfl rfl rfl (NOp.of (by exact g_load_ptr rfl rfl rfl rfl rfl))) rfl ?_
         refine DF.op 8 [0,1,2,3,4,5,6,7] 25 rfl rfl rfl (.yes rfl rfl rfl rfl (NOp.of (by exact g_ia_view (i := f) rfl rfl rfl rfl rfl rfl hof))) rfl ?_
         refine DF.op 9 (List.range 9) 25 rfl rfl rfl (.yes rfl rfl rfl rfl (NOp.of (by exact g_load_ref rfl rfl rfl))) rfl ?_
         refine DF.op 10 (List.range 10) 25 rfl rfl rfl (.yes rfl rfl rfl rfl (NOp.of (by exact g_cmp rfl rfl rfl))) rfl ?_
         refine DF.op 11 (List.range 11) 25 rfl rfl rfl (.free rfl (NOp.of (by exact g_pickT (r := .d _) rfl rfl))) rfl ?_
         refine DF.op 12 (List.range 12) 25 rfl rfl rfl (.free rfl (NOp.of (by exact mv1 rfl))) rfl ?_
         refine DF.caseD 12 rfl (fun h6 => ?_) (fun h6 => ?_)
         ·refine DF.op 13 (List.range 13) 25 rfl rfl rfl (.yes rfl rfl rfl rfl (NOp.of (by exact mv1 rfl))) rfl ?_
          refine DF.op 14 (List.range 13) 25 rfl rfl rfl (.yes rfl rfl rfl rfl (NOp.of (by exact g_fa_ptr rfl rfl rfl rfl rfl))) rfl ?_
          refine DF.op 15 [0,1,2,3,4,5,6,7,8,9,10,11,12,14] 25 rfl rfl rfl (.yes rfl rfl rfl rfl (NOp.of (by exact g_load_ptr rfl rfl rfl rfl rfl))) rfl ?_
          refine DF.op 16 (List.range 16) 25 rfl rfl rfl (.yes rfl rfl rfl rfl (NOp.of (by exact g_ia_view (i := f) rfl rfl rfl rfl rfl rfl hof))) rfl ?_
          refine DF.op 17 (List.range 17) 25 rfl rfl rfl (.yes rfl rfl rfl rfl (NOp.of (by exact g_load_ref rfl rfl rfl))) rfl ?_
          refine DF.op 18 (List.range 13) 25 rfl rfl rfl (.yes rfl rfl rfl rfl (NOp.of (by exact mv1 rfl))) rfl ?_
          refine DF.op 19 (List.range 13) 25 rfl rfl rfl (.yes rfl rfl rfl rfl (NOp.of (by exact mv1 rfl))) rfl ?_
          refine DF.op 20 [0,1,2,3,4,5,6,7,8,9,10,11,12,18,19] 25 rfl rfl rfl (.yes rfl rfl rfl rfl (NOp.of (by exact g_ia_view (i := q) rfl rfl rfl rfl rfl rfl hqo))) rfl ?_
          refine DF.op 21 [0,1,2,3,4,5,6,7,8,9,10,11,12,18,19,20] 25 rfl rfl rfl (.yes rfl rfl rfl rfl (NOp.of (by exact g_load_ref rfl rfl rfl))) rfl ?_
          refine DF.op 22 [0,1,2,3,4,5,6,7,8,9,10,11,12,18,19,20,21] 25 rfl rfl rfl (.yes rfl rfl rfl rfl (NOp.of (by exact g_arith rfl rfl rfl (by exact wrap_i64 (by omega))))) rfl ?_
          refine DF.op 23 (List.range 23) 25 rfl rfl rfl (.yes rfl rfl rfl rfl (NOp.of (by exact g_cmp rfl rfl rfl))) rfl ?_
          refine DF.op 24 (List.range 24) 25 rfl rfl rfl (.free rfl (NOp.of (by exact g_pickT (r := .d _) rfl rfl))) rfl ?_
          refine DF.fin (ps := [(0,2),(1,2),(2,0),(2,1),(5,6),(5,7),(6,5),(7,5),(13,14),(13,15),(13,18),(13,19),(13,20),(13,21),(13,22),(14,13),(14,18),(14,19),(14,20),(14,21),(14,22),(15,13),(15,18),(15,19),(15,20),(15,21),(15,22),(16,18),(16,19),(16,20),(16,21),(16,22),(17,18),(17,19),(17,20),(17,21),(17,22),(18,13),(18,14),(18,15),(18,16),(18,17),(18,19),(19,13),(19,14),(19,15),(19,16),(19,17),(19,18),(20,13),(20,14),(20,15),(20,16),(20,17),(21,13),(21,14),(21,15),(21,16),(21,17),(22,13),(22,14),(22,15),(22,16),(22,17)]) 25 rfl (by decide +kernel) (by decide +kernel) (by rfl) ?_
          refine th_n ?_
          refine AC.condD rfl (fun h7 => ?_) (fun h7 => ?_)
          ·refine AC.seq (AC.region ?_)
           refine AL.p (by exact g_fa_ptr rfl rfl rfl rfl rfl) rfl ?_
           refine AL.p (by exact g_load_ptr rfl rfl rfl rfl rfl) rfl ?_
           refine AL.q (by exact h_lit rfl rfl rfl rfl rfl rfl rfl rfl) rfl ?_
           refine AL.p (by exact mv2 rfl) rfl ?_
           refine AL.q (by exact h_appendI [v.by_] acc (.own rfl rfl rfl) (.own rfl rfl (Nat.le_of_eq (ints_len _).symm) (List.take_of_length_le (Nat.le_of_eq (ints_len _)))) (by rw [List.length_append]; simp only [List.length_cons, List.length_nil]; omega) (by simp)) rfl ?_
           refine AL.p (by exact as2 rfl) rfl ?_
           refine AL.nil (th_n (AC.seq (AC.region ?_)))
           refine AL.p (by exact g_fa_ptr rfl rfl rfl rfl rfl) rfl ?_
           refine AL.p (by exact g_load_ptr rfl rfl rfl rfl rfl) rfl ?_
           refine AL.p (by exact as1 rfl) rfl ?_
           refine AL.nil (th_n (AC.exit ?_))
           refine ib_no rfl ?_
           refine th_e (th_e (ib_y (ib_n (th_n ?_))))
           (have hy : nearB o q E[j] = true := (by rw [hnj, decide_eq_true_eq]; exact ⟨by omega, by assumption⟩); have hji2 := hij hy; subst hji2; rw [hEj1] at hoi hacc; simp only [List.map_cons, List.map_nil, hmi] at hacc; exact ⟨(d', f, [v.by_] ++ acc), ⟨hoi, hacc⟩, by dsimp only; omega, Weak.ren _ [(100, _)] hC rfl (by repeat (first | exact True.intro | refine And.intro ?_ ?_ | exact DLead.same | exact rfl | refine ⟨_, rfl, ?_⟩)) (by repeat (first | exact True.intro | refine And.intro ?_ ?_ | exact rfl | refine ⟨_, _, rfl, rfl, ?_⟩)) rfl rfl rfl⟩)
          ·refine AC.skip (ib_n (th_n (AC.region ?_)))
           refine AL.p (by exact g_arith rfl rfl rfl (by exact wrap_i64 (by omega))) rfl ?_
           refine AL.p (by exact mv1 rfl) rfl ?_
           refine AL.nil (th_n ?_)
           have hy := hji (by rw [hnj, decide_eq_false_iff_not]; rintro ⟨q1, q2⟩; omega)
           exact ⟨j + 1, hy, by omega, Weak.ren _ [(100, 100)] hC rfl (by repeat (first | exact True.intro | refine And.intro ?_ ?_ | exact DLead.same | exact rfl | refine ⟨_, rfl, ?_⟩)) (by repeat (first | exact True.intro | refine And.intro ?_ ?_ | exact rfl | refine ⟨_, _, rfl, rfl, ?_⟩)) rfl rfl rfl⟩
         ·refine DF.op (ids := []) 13 (List.range 13) 25 rfl rfl rfl (.no rfl rfl rfl rfl rfl rfl) rfl ?_
          refine DF.op (ids := []) 14 (List.range 13) 25 rfl rfl rfl (.no rfl rfl rfl rfl rfl rfl) rfl ?_
          refine DF.op (ids := []) 15 [0,1,2,3,4,5,6,7,8,9,10,11,12,14] 25 rfl rfl rfl (.no rfl rfl rfl rfl rfl rfl) rfl ?_
          refine DF.op (ids := []) 16 (List.range 16) 25 rfl rfl rfl (.no rfl rfl rfl rfl rfl rfl) rfl ?_
          refine DF.op (ids := []) 17 (List.range 17) 25 rfl rfl rfl (.no rfl rfl rfl rfl rfl rfl) rfl ?_
          refine DF.op (ids := []) 18 (List.range 13) 25 rfl rfl rfl (.no rfl rfl rfl rfl rfl rfl) rfl ?_
          refine DF.op (ids := []) 19 (List.range 13) 25 rfl rfl rfl (.no rfl rfl rfl rfl rfl rfl) rfl ?_
          refine DF.op (ids := []) 20 [0,1,2,3,4,5,6,7,8,9,10,11,12,18,19] 25 rfl rfl rfl (.no rfl rfl rfl rfl rfl rfl) rfl ?_
          refine DF.op (ids := []) 21 [0,1,2,3,4,5,6,7,8,9,10,11,12,18,19,20] 25 rfl rfl rfl (.no rfl rfl rfl rfl rfl rfl) rfl ?_
          refine DF.op (ids := []) 22 [0,1,2,3,4,5,6,7,8,9,10,11,12,18,19,20,21] 25 rfl rfl rfl (.no rfl rfl rfl rfl rfl rfl) rfl ?_
          refine DF.op (ids := []) 23 (List.range 23) 25 rfl rfl rfl (.no rfl rfl rfl rfl rfl rfl) rfl ?_
          refine DF.op 24 (List.range 24) 25 rfl rfl rfl (.free rfl (NOp.of (by exact g_pickF (r := .d _) rfl rfl))) rfl ?_
          refine DF.fin (ps := [(0,2),(1,2),(2,0),(2,1),(5,6),(5,7),(6,5),(7,5),(13,14),(13,15),(13,18),(13,19),(13,20),(13,21),(13,22),(14,13),(14,18),(14,19),(14,20),(14,21),(14,22),(15,13),(15,18),(15,19),(15,20),(15,21),(15,22),(16,18),(16,19),(16,20),(16,21),(16,22),(17,18),(17,19),(17,20),(17,21),(17,22),(18,13),(18,14),(18,15),(18,16),(18,17),(18,19),(19,13),(19,14),(19,15),(19,16),(19,17),(19,18),(20,13),(20,14),(20,15),(20,16),(20,17),(21,13),(21,14),(21,15),(21,16),(21,17),(22,13),(22,14),(22,15),(22,16),(22,17)]) 25 rfl (by decide +kernel) (by decide +kernel) (by rfl) ?_
          refine th_n ?_
          refine AC.condF rfl ?_
          refine AC.skip (ib_n (th_n (AC.region ?_)))
          refine AL.p (by exact g_arith rfl rfl rfl (by exact wrap_i64 (by omega))) rfl ?_
          refine AL.p (by exact mv1 rfl) rfl ?_
          refine AL.nil (th_n ?_)
          have hy := hji (by rw [hnj, decide_eq_false_iff_not]; rintro ⟨q1, q2⟩; omega)
          exact ⟨j + 1, hy, by omega, Weak.ren _ [(100, 100)] hC rfl (by repeat (first | exact True.intro | refine And.intro ?_ ?_ | exact DLead.same | exact rfl | refine ⟨_, rfl, ?_⟩)) (by repeat (first | exact True.intro | refine And.intro ?_ ?_ | exact rfl | refine ⟨_, _, rfl, rfl, ?_⟩)) rfl rfl rfl⟩
        ·refine DF.op (ids := []) 5 [0,1,2,3,4] 25 rfl rfl rfl (.no rfl rfl rfl rfl rfl rfl) rfl ?_
         refine DF.op (ids := []) 6 [0,1,2,3,4] 25 rfl rfl rfl (.no rfl rfl rfl rfl rfl rfl) rfl ?_
         refine DF.op (ids := []) 7 [0,1,2,3,4,6] 25 rfl rfl rfl (.no rfl rfl rfl rfl rfl rfl) rfl ?_
         refine DF.op (ids := []) 8 [0,1,2,3,4,5,6,7] 25 rfl rfl rfl (.no rfl rfl rfl rfl rfl rfl) rfl ?_
         refine DF.op (ids := []) 9 (List.range 9) 25 rfl rfl rfl (.no rfl rfl rfl rfl rfl rfl) rfl ?_
         refine DF.op (ids := []) 10 (List.range 10) 25 rfl rfl rfl (.no rfl rfl rfl rfl rfl rfl) rfl ?_
         refine DF.op 11 (List.range 11) 25 rfl rfl rfl (.free rfl (NOp.of (by exact g_pickF (r := .d _) rfl rfl))) rfl ?_
         refine DF.op 12 (List.range 12) 25 rfl rfl rfl (.free rfl (NOp.of (by exact mv1 rfl))) rfl ?_
         refine DF.op (ids := []) 13 (List.range 13) 25 rfl rfl rfl (.no rfl rfl rfl rfl rfl rfl) rfl ?_
         refine DF.op (ids := []) 14 (List.range 13) 25 rfl rfl rfl (.no rfl rfl rfl rfl rfl rfl) rfl ?_
         refine DF.op (ids := []) 15 [0,1,2,3,4,5,6,7,8,9,10,11,12,14] 25 rfl rfl rfl (.no rfl rfl rfl rfl rfl rfl) rfl ?_
         refine DF.op (ids := []) 16 (List.range 16) 25 rfl rfl rfl (.no rfl rfl rfl rfl rfl rfl) rfl ?_
         refine DF.op (ids := []) 17 (List.range 17) 25 rfl rfl rfl (.no rfl rfl rfl rfl rfl rfl) rfl ?_
         refine DF.op (ids := []) 18 (List.range 13) 25 rfl rfl rfl (.no rfl rfl rfl rfl rfl rfl) rfl ?_
         refine DF.op (ids := []) 19 (List.range 13) 25 rfl rfl rfl (.no rfl rfl rfl rfl rfl rfl) rfl ?_
         refine DF.op (ids := []) 20 [0,1,2,3,4,5,6,7,8,9,10,11,12,18,19] 25 rfl rfl rfl (.no rfl rfl rfl rfl rfl rfl) rfl ?_
         refine DF.op (ids := []) 21 [0,1,2,3,4,5,6,7,8,9,10,11,12,18,19,20] 25 rfl rfl rfl (.no rfl rfl rfl rfl rfl rfl) rfl ?_
         refine DF.op (ids := []) 22 [0,1,2,3,4,5,6,7,8,9,10,11,12,18,19,20,21] 25 rfl rfl rfl (.no rfl rfl rfl rfl rfl rfl) rfl ?_
         refine DF.op (ids := []) 23 (List.range 23) 25 rfl rfl rfl (.no rfl rfl rfl rfl rfl rfl) rfl ?_
         refine DF.op 24 (List.range 24) 25 rfl rfl rfl (.free rfl (NOp.of (by exact g_pickF (r := .d _) rfl rfl))) rfl ?_
         refine DF.fin (ps := [(0,2),(1,2),(2,0),(2,1),(5,6),(5,7),(6,5),(7,5),(13,14),(13,15),(13,18),(13,19),(13,20),(13,21),(13,22),(14,13),(14,18),(14,19),(14,20),(14,21),(14,22),(15,13),(15,18),(15,19),(15,20),(15,21),(15,22),(16,18),(16,19),(16,20),(16,21),(16,22),(17,18),(17,19),(17,20),(17,21),(17,22),(18,13),(18,14),(18,15),(18,16),(18,17),(18,19),(19,13),(19,14),(19,15),(19,16),(19,17),(19,18),(20,13),(20,14),(20,15),(20,16),(20,17),(21,13),(21,14),(21,15),(21,16),(21,17),(22,13),(22,14),(22,15),(22,16),(22,17)]) 25 rfl (by decide +kernel) (by decide +kernel) (by rfl) ?_
         refine th_n ?_
         refine AC.condF rfl ?_
         refine AC.skip (ib_n (th_n (AC.region ?_)))
         refine AL.p (by exact g_arith rfl rfl rfl (by exact wrap_i64 (by omega))) rfl ?_
         refine AL.p (by exact mv1 rfl) rfl ?_
         refine AL.nil (th_n ?_)
         have hy := hji (by rw [hnj, decide_eq_false_iff_not]; rintro ⟨q1, q2⟩; omega)
         exact ⟨j + 1, hy, by omega, Weak.ren _ [(100, 100)] hC rfl (by repeat (first | exact True.intro | refine And.intro ?_ ?_ | exact DLead.same | exact rfl | refine ⟨_, rfl, ?_⟩)) (by repeat (first | exact True.intro | refine And.intro ?_ ?_ | exact rfl | refine ⟨_, _, rfl, rfl, ?_⟩)) rfl rfl rfl⟩
       ·refine AC.exit (th_e (th_e (ib_y (ib_n (th_n ?_)))))
        (exfalso; omega)
     ·refine AC.exit (th_e (th_e (ib_y (th_n (AC.seq ?_)))))
      have hq0 : q = 0 := by omega
      have hd0 : d = 0 := by have := hO1.st; rw [hq0] at hd; omega
      subst hd0
      rw [backI, List.reverse_nil, List.map_nil, List.nil_append] at hacc
      have hlt : ¬ oa o k0 < 0 := by omega
      rw [if_neg hlt] at hR1
      rw [← hacc] at hR1
      refine AC.weak (Weak.freeze (i := 7) rfl rfl (Nat.le_of_eq (ints_len _).symm) (List.take_of_length_le (Nat.le_of_eq (ints_len _)))) ?_
      refine AC.region ?_
      refine AL.p (by exact mv1 rfl) rfl ?_
      refine AL.p (by exact as1 rfl) rfl ?_
      refine AL.p (by exact as1 rfl) rfl ?_
      refine AL.nil (th_n (AC.ret (bq_r ?_)))
      exact ret0 rfl (by rw [hR1]; show AV.leads _ (.tup [.d (vI acc), aT true]) _; repeat (first | exact DLead.same | exact rfl | refine ⟨_, rfl, ?_⟩ | refine ⟨_, _, rfl, ?_, ?_⟩))
theorem en_sShortFS : Enters Tryz.prog 24 := enters_of Tryz.func24 rfl rfl
theorem fire_ready {N : Net} {m : List UInt8} (hb : bitsB m N.places = true) (hM : NetM N m) {t : Int} (ht : t ∈ readyL N m N.ts.length) : ∃ i, ∃ hi : i < N.ts.length, t = (i : Int) ∧ fireI N m t = fireT N.ts[i] m := by
 unfold readyL at ht
 obtain ⟨k, hk, rfl⟩ := List.mem_map.1 ht
 have h := (List.mem_filter.1 hk).2
 cases e : N.ts[k]? with
 | none => rw [e] at h; cases h
 | some u =>
  obtain ⟨hk2, rfl⟩ := List.getElem?_eq_some_iff.1 e
  rw [e] at h
  refine ⟨k, hk2, rfl, ?_⟩
  rw [fireI_at hk2, ← ready_enabled hb (hM _ (List.getElem_mem hk2)).1]
  exact if_pos h
def rMark (r : Option (Int × Int)) : Int := match r with | some p => (if 0 ≤ p.1 then p.1 else 0) | none => 0
def rBad (r : Option (Int × Int)) : Int := match r with | some p => p.2 | none => -1
def rFull (r : Option (Int × Int)) : Bool := match r with | some p => decide (p.1 < 0) | none => false
abbrev zR : List AV := [.d (.val (.slice none 0 0)), .d (.val (.slice none 0 0)), .d (.val (.slice none 0 0)), aI 0, aI 0, aT false]
abbrev refA (F : Ex × Option (Int × Int)) (a b c : Nat) : List AV := [.own a F.1.marks.length, .own b F.1.moves.length, .own c (byL F.1).length, aI (rMark F.2), aI (rBad F.2), aT (rFull F.2)]
theorem posI_neg {m : List UInt8} {l : List (List UInt8)} (h : posI m l < 0) : posL m l = none := by
 unfold posI at h
 split at h
 ·omega
 ·assumption
theorem posI_nat {m : List UInt8} {l : List (List UInt8)} (h : ¬ posI m l < 0) : ∃ i, posL m l = some i ∧ posI m l = (i : Int) := by
 cases hp : posL m l with
 | none => unfold posI at h; rw [hp] at h; exact absurd (show (-1 : Int) < 0 by decide) h
 | some i => exact ⟨i, rfl, by unfold posI; rw [hp]⟩
theorem rMark_nat (k : Nat) (t : Int) : rMark (some ((k : Int), t)) = (k : Int) := by unfold rMark; exact if_pos (Int.natCast_nonneg k)
theorem rFull_nat (k : Nat) (t : Int) : rFull (some ((k : Int), t)) = false := by unfold rFull; exact decide_eq_false (by show ¬ (k : Int) < 0; omega)
set_option maxHeartbeats 16000000 in
theorem sReach_spec (s : Stg) (hB : StgB s) (hg : goodS s = true) : ASpec Tryz.prog 99 [stgA s] [] (Fun1 (.agg (refA (explR s.net s.start) 0 1 2)) [(0, .arr 9 1 (tsX (explR s.net s.start).1.marks)), (1, .arr 52 3 (mvL (explR s.net s.start).1.moves)), (2, .arr 52 3 (mvL (byL (explR s.net s.start).1)))]) := by
 obtain ⟨hg1, hg2⟩ : goodN s.net = true ∧ bitsB s.start s.net.places = true := by
  simp only [goodS, Bool.and_eq_true] at hg
  exact hg.1
 have hpl := good_places hg1
 have hun : explR s.net s.start = exOut s.net 301 0 ⟨[s.start], []⟩ := rfl
 obtain ⟨F, hF⟩ : ∃ F, F = explR s.net s.start := ⟨_, rfl⟩
 rw [← hF] at hun ⊢
 have hI0 : ExI s.net ⟨[s.start], []⟩ 0 := ⟨by show 1 ≤ 300; omega, fun m hm => by rw [List.mem_singleton.1 hm]; exact hg2, Nat.le_refl _⟩
 have hst := bits_len hg2
 clear hF
 refine ASpec.of Tryz.func99 rfl rfl fun C hC => ?_
 refine AC.seq (AC.region ?_)
 refine AL.q (by exact h_boxF rfl rfl) rfl ?_
 refine AL.q (by exact h_alloc rfl) rfl ?_
 refine AL.nil (th_n (AC.seq (AC.region ?_)))
 refine AL.p (by exact g_fa_ref rfl rfl rfl rfl rfl rfl) rfl ?_
 refine AL.p (by exact g_load_ref rfl rfl rfl) rfl ?_
 refine AL.q (by exact h_lit rfl rfl rfl rfl rfl rfl rfl rfl) rfl ?_
 refine AL.p (by exact g_build rfl rfl rfl) rfl ?_
 refine AL.p (by exact g_build rfl rfl rfl) rfl ?_
 refine AL.q (by exact h_lit rfl rfl rfl rfl rfl rfl rfl rfl) rfl ?_
 refine AL.p (by exact g_build rfl rfl rfl) rfl ?_
 refine AL.q (by exact h_alloc rfl) rfl ?_
 refine AL.q (by exact h_store rfl rfl rfl rfl rfl rfl) rfl ?_
 refine AL.nil (th_n (AC.seq (AC.seq (AC.region ?_))))
 refine AL.p (by exact as1 rfl) rfl ?_
 refine AL.nil (th_n (AC.block ?_))
 refine AC.loop (ι := Nat × Ex) (fun x => ⟨107, 600, [(1, .d (.ref (stgD s))), (2, .ptr 201 0), (3, .ptr 200 0), (4, aI x.1)], [(200, some (.cells 118 [.own 101 x.2.marks.length, .own 102 x.2.moves.length, .own 103 (byL x.2).length, aI 0, aI (-1), aT false])), (101, some (.arr 9 1 (tsX x.2.marks))), (102, some (.arr 52 3 (mvL x.2.moves))), (103, some (.arr 52 3 (mvL (byL x.2)))), (201, some (.cells 118 zR))]⟩) (fun x => x.1 ≤ x.2.marks.length ∧ ExI s.net x.2 (24 * x.1) ∧ ByI s.net x.2 x.1 ∧ exOut s.net (301 - x.1) x.1 x.2 = F) (fun x => 301 - x.1) ((0, ⟨[s.start], []⟩)) ?_ (⟨Nat.zero_le _, hI0, ByI.start _ _, hun.symm⟩) ?_
 ·exact (Weak.nilOwnP 3 1 (e := 52) (sz := 3) rfl rfl rfl rfl rfl).trans (Weak.ren _ [(200, _), (101, _), (102, _), (103, _), (201, _)] hC rfl (by repeat (first | exact True.intro | refine And.intro ?_ ?_ | exact DLead.same | exact rfl | refine ⟨_, rfl, ?_⟩)) (by repeat (first | exact True.intro | refine And.intro ?_ ?_ | exact DLead.same | exact rfl | refine ⟨_, _, rfl, rfl, ?_⟩ | refine ⟨_, rfl, ?_⟩ | refine ⟨_, _, rfl, ?_, ?_⟩)) rfl rfl rfl)
 ·rintro ⟨k, x⟩ ⟨hk, hI, hY, hrun⟩
  dsimp only at hk hI hY hrun ⊢
  have hxn := hI.n
  refine AC.seq (AC.seq (AC.region ?_))
  refine AL.p (by exact mv1 rfl) rfl ?_
  refine AL.p (by exact g_fa_ptr rfl rfl rfl rfl rfl) rfl ?_
  refine AL.p (by exact g_fa_ptr rfl rfl rfl rfl rfl) rfl ?_
  refine AL.p (by exact g_load_ptr rfl rfl rfl rfl rfl) rfl ?_
  refine AL.p (by exact g_len_own (sz := 1) (els := []) (e' := 0) rfl rfl (by simp only [maxLen]; omega)) rfl ?_
  refine AL.p (by exact g_cmp rfl rfl rfl) rfl ?_
  refine AL.nil (th_n ?_)
  refine AC.condD rfl (fun h0 => ?_) (fun h0 => ?_)
  ·refine AC.skip (th_n (AC.seq (AC.block (AC.seq ?_))))
   have hk1 : k < x.marks.length := by omega
   have hmk := mkAt_nat hk1
   have hbm := hI.b _ (List.getElem_mem hk1)
   rw [← hmk] at hbm
   have hrow : (tsX x.marks)[k]? = some [dS (bstr (mkAt x k))] := by rw [hmk]; exact tsX_get hk1
   obtain ⟨n, hn⟩ : ∃ n, 301 - k = n + 1 := ⟨300 - k, by omega⟩
   rw [hn, exOut, if_pos hk1] at hrun
   obtain ⟨m, hm⟩ : ∃ m, m = mkAt x k := ⟨_, rfl⟩
   rw [← hm] at hbm hrow hrun
   have hNM := good_netM hg1 hbm
   have hEn := l1Enabled_spec s.net m hB.n hNM
   have hLl := readyL_len s.net m s.net.ts.length
   have hfr := fun t => fire_ready (t := t) hbm hNM
   have hLin := readyL_in s.net m s.net.ts.length
   obtain ⟨L, hL⟩ : ∃ L, L = readyL s.net m s.net.ts.length := ⟨_, rfl⟩
   simp only [← hL] at hEn hLl hrun hfr hLin
   have hml := bits_len hbm
   have hmarks : x.marks[k]? = some m := by rw [List.getElem?_eq_getElem hk1, hm, hmk]
   obtain ⟨Z, hZ⟩ : ∃ Z, Z = exIn s.net k m L x := ⟨_, rfl⟩
   rw [← hZ] at hrun
   clear hL
   refine AC.drawn' mixed_ok [[], [0], [], [2], [2,3], [], [2,3,4,5], [2,3,4,5,6], [0,1,2,3,4,5,6,7], [0,1,2,3,4,5,6,7,8], []] (by decide) ?_
   refine DF.op 0 [] 11 rfl rfl rfl (.free rfl (NOp.of (by exact g_fa_ref rfl rfl rfl rfl rfl rfl))) rfl ?_
   refine DF.op 1 [0] 11 rfl rfl rfl (.free rfl (NOp.of (by exact g_load_refN rfl rfl rfl rfl))) rfl ?_
   refine DF.op 2 [] 11 rfl rfl rfl (.free rfl (NOp.of (by exact g_fa_ptr rfl rfl rfl rfl rfl))) rfl ?_
   refine DF.op 3 [2] 11 rfl rfl rfl (.free rfl (NOp.of (by exact g_fa_ptr rfl rfl rfl rfl rfl))) rfl ?_
   refine DF.op 4 [2,3] 11 rfl rfl rfl (.free rfl (NOp.of (by exact g_load_ptr rfl rfl rfl rfl rfl))) rfl ?_
   refine DF.op 5 [] 11 rfl rfl rfl (.free rfl (NOp.of (by exact mv1 rfl))) rfl ?_
   refine DF.op 6 [2,3,4,5] 11 rfl rfl rfl (.free rfl (NOp.of (by exact g_ia_own (i := k) (l := x.marks.length) rfl rfl rfl rfl rfl rfl hk1 rfl))) rfl ?_
   refine DF.op 7 [2,3,4,5,6] 11 rfl rfl rfl (.free rfl (NOp.of (by exact g_load_arr1 rfl rfl rfl rfl (by rw [Nat.mul_one]; exact hrow)))) rfl ?_
   refine DF.op 8 [0,1,2,3,4,5,6,7] 11 rfl rfl rfl (.free rfl (by exact h_pure en_l1Enabled rfl rfl (by repeat (first | exact rfl | exact DLead.same | refine ⟨_, _, rfl, ?_, ?_⟩ | refine ⟨_, rfl, ?_⟩)) hEn rfl)) rfl ?_
   refine DF.op 9 (List.range 9) 11 rfl rfl rfl (.free rfl (NOp.of (by exact g_len_view (k := L.length) rfl rfl (ints_len _)))) rfl ?_
   refine DF.op 10 [] 11 rfl rfl rfl (.free rfl (NOp.of (by exact mv1 rfl))) rfl ?_
   refine DF.fin (ps := [(0,2),(0,3),(0,4),(0,5),(0,6),(0,7),(0,10),(1,2),(1,3),(1,4),(1,5),(1,6),(1,7),(1,10),(2,0),(2,1),(2,5),(2,10),(3,0),(3,1),(3,5),(3,10),(4,0),(4,1),(4,5),(4,10),(5,0),(5,1),(5,2),(5,3),(5,4),(5,10),(6,0),(6,1),(6,10),(7,0),(7,1),(7,10),(8,10),(9,10),(10,0),(10,1),(10,2),(10,3),(10,4),(10,5),(10,6),(10,7),(10,8),(10,9)]) 11 rfl (by decide +kernel) (by decide +kernel) (by rfl) ?_
   refine th_n (AC.block ?_)
   refine AC.loop (ι := Nat × Ex) (fun y => ⟨107, 900, [(1, .d (.ref (stgD s))), (2, .ptr 201 0), (3, .ptr 200 0), (4, aI k), (33, .d (vI L)), (34, aI L.length), (35, aI y.1)], [(200, some (.cells 118 [.own 101 y.2.marks.length, .own 102 y.2.moves.length, .own 103 (byL y.2).length, aI 0, aI (-1), aT false])), (101, some (.arr 9 1 (tsX y.2.marks))), (102, some (.arr 52 3 (mvL y.2.moves))), (103, some (.arr 52 3 (mvL (byL y.2)))), (201, some (.cells 118 zR))]⟩) (fun y => y.1 ≤ L.length ∧ k < y.2.marks.length ∧ y.2.marks[k]? = some m ∧ ExI s.net y.2 (24 * k + y.1) ∧ ByI s.net y.2 k ∧ exIn s.net k m (L.drop y.1) y.2 = Z) (fun y => L.length - y.1) ((0, x)) ?_ (⟨Nat.zero_le _, hk1, hmarks, hI, hY, hZ.symm⟩) ?_
   ·exact Weak.ren _ [(200, 200), (101, 101), (102, 102), (103, 103), (201, 201)] hC rfl (by repeat (first | exact True.intro | refine And.intro ?_ ?_ | exact DLead.same | exact rfl | refine ⟨_, rfl, ?_⟩)) (by repeat (first | exact True.intro | refine And.intro ?_ ?_ | exact DLead.same | exact rfl | refine ⟨_, _, rfl, rfl, ?_⟩ | refine ⟨_, rfl, ?_⟩ | refine ⟨_, _, rfl, ?_, ?_⟩)) rfl rfl rfl
   ·rintro ⟨j, y⟩ ⟨hj, hky, hym, hJ, hY, hin⟩
    dsimp only at hj hky hym hJ hY hin ⊢
    have hyn := hJ.n
    have hyl := hJ.l
    refine AC.seq (AC.region ?_)
    refine AL.p (by exact g_cmp rfl rfl rfl) rfl ?_
    refine AL.nil (th_n (AC.seq ?_))
    refine AC.condD rfl (fun h1 => ?_) (fun h1 => ?_)
    ·refine AC.skip (th_n (AC.seq (AC.block (AC.seq ?_))))
     have hj1 : j < L.length := by omega
     have hget := ints_at hj1
     have htm := hLin _ (List.getElem_mem hj1)
     obtain ⟨i, hi, hti, hfi⟩ := hfr _ (List.getElem_mem hj1)
     rw [List.drop_eq_getElem_cons hj1, exIn] at hin
     obtain ⟨t, ht⟩ : ∃ t, t = L[j] := ⟨_, rfl⟩
     rw [← ht] at hget hin htm hti hfi
     clear ht
     have hrowy : (tsX y.marks)[k]? = some [dS (bstr m)] := by rw [List.getElem?_map, hym]; rfl
     have hti2 := hB.n.t _ (List.getElem_mem hi)
     have hFi := l1Fire_spec s.net m i hi (by omega) (by omega) (by omega) (hNM _ (List.getElem_mem hi)).1 (hNM _ (List.getElem_mem hi)).2
     rw [← hfi, ← hti] at hFi
     have hfb := fireI_bits (N := s.net) (t := t) hbm
     obtain ⟨f, hf⟩ : ∃ f, f = fireI s.net m t := ⟨_, rfl⟩
     rw [← hf] at hFi hfb hin
     clear hf hfi hti
     have hbyl := byL_len hY.pos
     refine AC.region ?_
     refine AL.p (by exact g_ia_view rfl rfl rfl rfl rfl (by rfl) (by assumption)) rfl ?_
     refine AL.p (by exact g_load_ref rfl rfl rfl) rfl ?_
     refine AL.p (by exact as1 rfl) rfl ?_
     refine AL.nil (th_n (AC.seq ?_))
     refine AC.drawn' mixed_ok [[], [0], [], [2], [2,3], [], [2,3,4,5], [2,3,4,5,6], [], [0,1,2,3,4,5,6,7,8], [0,1,2,3,4,5,6,7,8,9], [0,1,2,3,4,5,6,7,8,9,10], [0,1,2,3,4,5,6,7,8,9,10], [0,1,2,3,4,5,6,7,8,9,10,11], [0,1,2,3,4,5,6,7,8,9,10,11,12,13]] (by decide) ?_
     refine DF.op 0 [] 15 rfl rfl rfl (.free rfl (NOp.of (by exact g_fa_ref rfl rfl rfl rfl rfl rfl))) rfl ?_
     refine DF.op 1 [0] 15 rfl rfl rfl (.free rfl (NOp.of (by exact g_load_refN rfl rfl rfl rfl))) rfl ?_
     refine DF.op 2 [] 15 rfl rfl rfl (.free rfl (NOp.of (by exact g_fa_ptr rfl rfl rfl rfl rfl))) rfl ?_
     refine DF.op 3 [2] 15 rfl rfl rfl (.free rfl (NOp.of (by exact g_fa_ptr rfl rfl rfl rfl rfl))) rfl ?_
     refine DF.op 4 [2,3] 15 rfl rfl rfl (.free rfl (NOp.of (by exact g_load_ptr rfl rfl rfl rfl rfl))) rfl ?_
     refine DF.op 5 [] 15 rfl rfl rfl (.free rfl (NOp.of (by exact mv1 rfl))) rfl ?_
     refine DF.op 6 [2,3,4,5] 15 rfl rfl rfl (.free rfl (NOp.of (by exact g_ia_own (i := k) (l := y.marks.length) rfl rfl rfl rfl rfl rfl hky rfl))) rfl ?_
     refine DF.op 7 [2,3,4,5,6] 15 rfl rfl rfl (.free rfl (NOp.of (by exact g_load_arr1 rfl rfl rfl rfl (by rw [Nat.mul_one]; exact hrowy)))) rfl ?_
     refine DF.op 8 [] 15 rfl rfl rfl (.free rfl (NOp.of (by exact mv1 rfl))) rfl ?_
     refine DF.op 9 (List.range 9) 15 rfl rfl rfl (.free rfl (by exact h_pure en_l1Fire rfl rfl (by repeat (first | exact rfl | exact DLead.same | refine ⟨_, _, rfl, ?_, ?_⟩ | refine ⟨_, rfl, ?_⟩)) hFi rfl)) rfl ?_
     refine DF.op 10 (List.range 10) 15 rfl rfl rfl (.free rfl (NOp.of (by exact mv5 rfl))) rfl ?_
     refine DF.op 11 (List.range 11) 15 rfl rfl rfl (.free rfl (NOp.of (by exact g_extract (r := .d _) rfl rfl))) rfl ?_
     refine DF.op 12 (List.range 11) 15 rfl rfl rfl (.free rfl (NOp.of (by exact g_extract (r := .d _) rfl rfl))) rfl ?_
     refine DF.op 13 (List.range 12) 15 rfl rfl rfl (.free rfl (NOp.of (by exact as1 rfl))) rfl ?_
     refine DF.op 14 (List.range 14) 15 rfl rfl rfl (.free rfl (NOp.of (by exact as1 rfl))) rfl ?_
     refine DF.fin (ps := [(0,2),(0,3),(0,4),(0,5),(0,6),(0,7),(0,8),(1,2),(1,3),(1,4),(1,5),(1,6),(1,7),(1,8),(2,0),(2,1),(2,5),(2,8),(3,0),(3,1),(3,5),(3,8),(4,0),(4,1),(4,5),(4,8),(5,0),(5,1),(5,2),(5,3),(5,4),(5,8),(6,0),(6,1),(6,8),(7,0),(7,1),(7,8),(8,0),(8,1),(8,2),(8,3),(8,4),(8,5),(8,6),(8,7),(11,12),(12,11),(12,13),(13,12)]) 15 rfl (by decide +kernel) (by decide +kernel) (by rfl) ?_
     refine th_n (AC.seq (AC.seq (AC.region ?_)))
     refine AL.p (by exact mv1 rfl) rfl ?_
     refine AL.p (by exact g_not rfl) rfl ?_
     refine AL.nil (th_n ?_)
     refine AC.condB rfl (fun h2 => ?_) (fun h2 => ?_)
     ·refine AC.seq ?_
      have qf : ¬ f.2 = true := by simpa using ‹(!f.2) = true›
      rw [if_neg qf] at hin
      have e : F = (y, some ((k : Int), t)) := by rw [← hrun, ← hin]
      refine AC.region ?_
      refine AL.p (by exact mv1 rfl) rfl ?_
      refine AL.p (by exact g_fa_ptr rfl rfl rfl rfl rfl) rfl ?_
      refine AL.q (by exact h_store rfl rfl rfl rfl rfl rfl) rfl ?_
      refine AL.nil (th_n (AC.seq (AC.region ?_)))
      refine AL.p (by exact mv1 rfl) rfl ?_
      refine AL.p (by exact g_fa_ptr rfl rfl rfl rfl rfl) rfl ?_
      refine AL.q (by exact h_store rfl rfl rfl rfl rfl rfl) rfl ?_
      refine AL.nil (th_n (AC.seq (AC.region ?_)))
      refine AL.p (by exact g_load_ptrN rfl rfl rfl rfl rfl) rfl ?_
      refine AL.q (by exact h_store rfl rfl rfl rfl rfl rfl) rfl ?_
      refine AL.nil (th_n (AC.ret (th_r (ib_r (th_r (th_r (ib_r (ib_r (th_r (th_r (ib_r (th_r (bq_r ?_)))))))))))))
      exact retN [(0, 101), (1, 102), (2, 103)] rfl (by rw [e]; show AV.leads _ (.agg [.own 0 y.marks.length, .own 1 y.moves.length, .own 2 (byL y).length, aI (rMark (some ((k : Int), t))), aI t, aT (rFull (some ((k : Int), t)))]) _; rw [rMark_nat, rFull_nat]; repeat (first | exact DLead.same | exact rfl | refine ⟨_, rfl, ?_⟩ | refine ⟨_, _, rfl, ?_, ?_⟩)) (by rw [e]; repeat (first | exact True.intro | refine And.intro ?_ ?_ | exact rfl | refine ⟨_, _, rfl, rfl, ?_⟩)) rfl rfl
     ·refine AC.skip (th_n (AC.seq ?_))
      have qf : f.2 = true := by simpa using ‹(!f.2) = false›
      rw [if_pos qf] at hin
      have hfbb := hfb qf
      have hFd := l4Find_spec y.marks f.1 (by omega)
      have hpn := posI_neg (m := f.1) (l := y.marks)
      have hps := posI_nat (m := f.1) (l := y.marks)
      have hpb := posI_in f.1 y.marks
      obtain ⟨p, hp⟩ : ∃ p, p = posI f.1 y.marks := ⟨_, rfl⟩
      rw [← hp] at hFd hpn hps hpb
      clear hp
      refine AC.region ?_
      refine AL.p (by exact g_fa_ptr rfl rfl rfl rfl rfl) rfl ?_
      refine AL.p (by exact g_fa_ptr rfl rfl rfl rfl rfl) rfl ?_
      refine AL.p (by exact g_load_ptr rfl rfl rfl rfl rfl) rfl ?_
      refine AL.p (by exact mv1 rfl) rfl ?_
      refine AL.q (by exact h_borrow [101] en_l4Find rfl rfl hFd (.cons (.of (.own (id := 101) rfl rfl (Nat.le_of_eq (tsX_len _).symm) (List.take_of_length_le (Nat.le_of_eq (tsX_len _))))) (.cons (.of .d) .nil)) rfl) rfl ?_
      refine AL.p (by exact as1 rfl) rfl ?_
      refine AL.nil (th_n ?_)
      refine AC.cut (fun (z : Ex × Int × Nat × Nat × Int) => ⟨107, 1500, [(1, .d (.ref (stgD s))), (2, .ptr 201 0), (3, .ptr 200 0), (4, aI k), (6, aI t), (9, aI z.2.1), (33, .d (vI L)), (34, aI L.length), (35, aI j)], [(200, some (.cells 118 [.own 101 z.1.marks.length, .own 102 y.moves.length, .own 103 (byL z.1).length, aI 0, aI (-1), aT false])), (101, some (.arr 9 1 (tsX z.1.marks))), (102, some (.arr 52 3 (mvL y.moves))), (103, some (.arr 52 3 (mvL (byL z.1)))), (201, some (.cells 118 zR))]⟩) (fun z => exIn s.net k m (L.drop (j + 1)) z.1 = Z ∧ z.1.moves = y.moves ++ [⟨k, t, z.2.1⟩] ∧ k < z.1.marks.length ∧ z.1.marks[k]? = some m ∧ ExI s.net z.1 (24 * k + (j + 1)) ∧ ByI s.net z.1 k) ?_ ?_
      ·refine AC.seq (AC.region ?_)
       refine AL.p (by exact mv1 rfl) rfl ?_
       refine AL.p (by exact g_cmp rfl rfl rfl) rfl ?_
       refine AL.nil (th_n ?_)
       refine AC.condD rfl (fun h3 => ?_) (fun h3 => ?_)
       ·refine AC.seq (AC.seq ?_)
        have hpnn := hpn (by assumption)
        rw [hpnn] at hin
        dsimp only at hin
        refine AC.region ?_
        refine AL.p (by exact g_fa_ptr rfl rfl rfl rfl rfl) rfl ?_
        refine AL.p (by exact g_fa_ptr rfl rfl rfl rfl rfl) rfl ?_
        refine AL.p (by exact g_load_ptr rfl rfl rfl rfl rfl) rfl ?_
        refine AL.p (by exact g_len_own (sz := 1) (els := []) (e' := 0) rfl rfl (by simp only [maxLen]; omega)) rfl ?_
        refine AL.p (by exact g_cmp rfl rfl rfl) rfl ?_
        refine AL.nil (th_n ?_)
        refine AC.condD rfl (fun h4 => ?_) (fun h4 => ?_)
        ·refine AC.seq ?_
         have hlen : y.marks.length = 300 := by omega
         rw [if_pos hlen] at hin
         have e : F = (y, some ((-1 : Int), (-1 : Int))) := by rw [← hrun, ← hin]
         refine AC.region ?_
         refine AL.p (by exact g_fa_ptr rfl rfl rfl rfl rfl) rfl ?_
         refine AL.q (by exact h_store rfl rfl rfl rfl rfl rfl) rfl ?_
         refine AL.nil (th_n (AC.seq (AC.region ?_)))
         refine AL.p (by exact g_load_ptrN rfl rfl rfl rfl rfl) rfl ?_
         refine AL.q (by exact h_store rfl rfl rfl rfl rfl rfl) rfl ?_
         refine AL.nil (th_n (AC.ret (th_r (th_r (ib_r (th_r (th_r (ib_r (ib_r (th_r (th_r (ib_r (th_r (bq_r ?_))))))))))))))
         exact retN [(0, 101), (1, 102), (2, 103)] rfl (by rw [e]; show AV.leads _ (.agg [.own 0 y.marks.length, .own 1 y.moves.length, .own 2 (byL y).length, aI (rMark (some ((-1 : Int), (-1 : Int)))), aI (-1), aT (rFull (some ((-1 : Int), (-1 : Int))))]) _; rw [show rMark (some ((-1 : Int), (-1 : Int))) = 0 from rfl, show rFull (some ((-1 : Int), (-1 : Int))) = true from rfl]; repeat (first | exact DLead.same | exact rfl | refine ⟨_, rfl, ?_⟩ | refine ⟨_, _, rfl, ?_, ?_⟩)) (by rw [e]; repeat (first | exact True.intro | refine And.intro ?_ ?_ | exact rfl | refine ⟨_, _, rfl, rfl, ?_⟩)) rfl rfl
        ·refine AC.skip (th_n (AC.seq ?_))
         have hlen : ¬ y.marks.length = 300 := by omega
         rw [if_neg hlen] at hin
         have hnewB := hY.new_by (t := t) (m := f.1)
         have hnewI := hY.new (t := t) (m := f.1) hky htm
         refine AC.region ?_
         refine AL.p (by exact g_fa_ptr rfl rfl rfl rfl rfl) rfl ?_
         refine AL.p (by exact g_fa_ptr rfl rfl rfl rfl rfl) rfl ?_
         refine AL.p (by exact g_load_ptr rfl rfl rfl rfl rfl) rfl ?_
         refine AL.p (by exact g_len_own (sz := 1) (els := []) (e' := 0) rfl rfl (by simp only [maxLen]; omega)) rfl ?_
         refine AL.p (by exact as1 rfl) rfl ?_
         refine AL.nil (th_n (AC.seq (AC.region ?_)))
         refine AL.p (by exact g_fa_ptr rfl rfl rfl rfl rfl) rfl ?_
         refine AL.p (by exact g_fa_ptr rfl rfl rfl rfl rfl) rfl ?_
         refine AL.p (by exact g_load_ptr rfl rfl rfl rfl rfl) rfl ?_
         refine AL.p (by exact mv1 rfl) rfl ?_
         refine AL.q (by exact h_litF rfl rfl rfl rfl rfl rfl rfl rfl) rfl ?_
         refine AL.q (by exact h_appendX y.marks [f.1] (.own rfl rfl (tsX_len _).symm) (.view rfl) (by rw [List.length_append]; simp only [List.length_cons, List.length_nil]; omega) (by simp)) rfl ?_
         refine AL.p (by exact g_fa_ptr rfl rfl rfl rfl rfl) rfl ?_
         refine AL.p (by exact g_fa_ptr rfl rfl rfl rfl rfl) rfl ?_
         refine AL.q (by exact h_store rfl rfl rfl rfl rfl rfl) rfl ?_
         refine AL.nil (th_n (AC.region ?_))
         refine AL.p (by exact g_fa_ptr rfl rfl rfl rfl rfl) rfl ?_
         refine AL.p (by exact g_load_ptr rfl rfl rfl rfl rfl) rfl ?_
         refine AL.p (by exact mv1 rfl) rfl ?_
         refine AL.p (by exact mv1 rfl) rfl ?_
         refine AL.p (by exact mv1 rfl) rfl ?_
         refine AL.p (by exact g_build rfl rfl rfl) rfl ?_
         refine AL.q (by exact h_litF rfl rfl rfl rfl rfl rfl rfl rfl) rfl ?_
         refine AL.q (by exact h_appendMv (byL y) [⟨k, t, y.marks.length⟩] (.own rfl rfl (mvL_len _).symm) (.view rfl) (by rw [List.length_append]; simp only [List.length_cons, List.length_nil]; omega) (by simp)) rfl ?_
         refine AL.p (by exact g_fa_ptr rfl rfl rfl rfl rfl) rfl ?_
         refine AL.q (by exact h_store rfl rfl rfl rfl rfl rfl) rfl ?_
         refine AL.nil (th_n ?_)
         (have hpnn := hpn (by assumption); exact ⟨(⟨y.marks ++ [f.1], y.moves ++ [⟨k, t, y.marks.length⟩]⟩, (y.marks.length : Int), 0, 0, 0), ⟨hin, rfl, by dsimp only; rw [List.length_append]; omega, by dsimp only; rw [List.getElem?_append_left hky]; exact hym, ⟨by dsimp only; rw [List.length_append]; simp only [List.length_cons, List.length_nil]; omega, fun a ha => (List.mem_append.1 ha).elim (hJ.b a) (fun g => by rw [List.mem_singleton.1 g]; exact hfbb), by dsimp only; rw [List.length_append]; simp only [List.length_cons, List.length_nil]; omega⟩, hnewI⟩, Weak.ren _ [(200, 200), (101, _), (102, 102), (103, _), (201, 201)] hC rfl (by repeat (first | exact True.intro | refine And.intro ?_ ?_ | exact DLead.same | exact rfl | refine ⟨_, rfl, ?_⟩)) (by dsimp only; rw [hnewB]; repeat (first | exact True.intro | refine And.intro ?_ ?_ | exact DLead.same | exact rfl | refine ⟨_, _, rfl, rfl, ?_⟩ | refine ⟨_, rfl, ?_⟩ | refine ⟨_, _, rfl, ?_, ?_⟩)) rfl rfl rfl⟩)
       ·refine AC.skip (th_n ?_)
        (obtain ⟨i2, hi2, hpi2⟩ := hps (by assumption); rw [hi2] at hin; dsimp only at hin; have hi2l := posL_lt hi2; exact ⟨(⟨y.marks, y.moves ++ [⟨k, t, (i2 : Int)⟩]⟩, (i2 : Int), 0, 0, 0), ⟨hin, rfl, hky, hym, ⟨hyn, hJ.b, by dsimp only; rw [List.length_append]; simp only [List.length_cons, List.length_nil]; omega⟩, hY.known hky hi2l htm⟩, Weak.ren _ [(200, 200), (101, 101), (102, 102), (103, 103), (201, 201)] hC rfl (by rw [hpi2]; repeat (first | exact True.intro | refine And.intro ?_ ?_ | exact DLead.same | exact rfl | refine ⟨_, rfl, ?_⟩)) (by dsimp only; rw [hY.known_by]; repeat (first | exact True.intro | refine And.intro ?_ ?_ | exact DLead.same | exact rfl | refine ⟨_, _, rfl, rfl, ?_⟩ | refine ⟨_, rfl, ?_⟩ | refine ⟨_, _, rfl, ?_, ?_⟩)) rfl rfl rfl⟩)
      ·rintro ⟨z, v2, _, _, _⟩ ⟨hz1, hz2, hz3, hz4, hz5, hz6⟩
       dsimp only at hz1 hz2 hz3 hz4 hz5 hz6 ⊢
       refine AC.region ?_
       refine AL.p (by exact g_fa_ptr rfl rfl rfl rfl rfl) rfl ?_
       refine AL.p (by exact g_fa_ptr rfl rfl rfl rfl rfl) rfl ?_
       refine AL.p (by exact g_load_ptr rfl rfl rfl rfl rfl) rfl ?_
       refine AL.p (by exact mv1 rfl) rfl ?_
       refine AL.p (by exact mv1 rfl) rfl ?_
       refine AL.p (by exact mv1 rfl) rfl ?_
       refine AL.p (by exact g_build rfl rfl rfl) rfl ?_
       refine AL.q (by exact h_litF rfl rfl rfl rfl rfl rfl rfl rfl) rfl ?_
       refine AL.q (by exact h_appendMv y.moves [⟨k, t, v2⟩] (.own rfl rfl (mvL_len _).symm) (.view rfl) (by rw [List.length_append]; simp only [List.length_cons, List.length_nil]; omega) (by simp)) rfl ?_
       refine AL.p (by exact g_fa_ptr rfl rfl rfl rfl rfl) rfl ?_
       refine AL.p (by exact g_fa_ptr rfl rfl rfl rfl rfl) rfl ?_
       refine AL.q (by exact h_store rfl rfl rfl rfl rfl rfl) rfl ?_
       refine AL.nil (ib_n (th_n (AC.region ?_)))
       refine AL.p (by exact g_arith rfl rfl rfl (by exact wrap_i64 (by omega))) rfl ?_
       refine AL.p (by exact mv1 rfl) rfl ?_
       refine AL.nil (th_n ?_)
       exact ⟨(j + 1, z), ⟨by dsimp only; omega, hz3, hz4, hz5, hz6, hz1⟩, by dsimp only; omega, Weak.ren _ [(200, 200), (101, 101), (102, _), (103, 103), (201, 201)] hC rfl (by repeat (first | exact True.intro | refine And.intro ?_ ?_ | exact DLead.same | exact rfl | refine ⟨_, rfl, ?_⟩)) (by dsimp only; rw [hz2]; repeat (first | exact True.intro | refine And.intro ?_ ?_ | exact DLead.same | exact rfl | refine ⟨_, _, rfl, rfl, ?_⟩ | refine ⟨_, rfl, ?_⟩ | refine ⟨_, _, rfl, ?_, ?_⟩)) rfl rfl rfl⟩
    ·refine AC.exit (th_e (th_e (ib_y (ib_n (th_n (AC.region ?_))))))
     refine AL.p (by exact mv1 rfl) rfl ?_
     refine AL.p (by exact g_arith rfl rfl rfl (by exact wrap_i64 (by omega))) rfl ?_
     refine AL.p (by exact as1 rfl) rfl ?_
     refine AL.nil (th_n ?_)
     have hjj : j = L.length := by omega
     rw [hjj, List.drop_length, exIn] at hin
     rw [← hin] at hrun
     dsimp only at hrun
     exact ⟨(k + 1, y), ⟨by dsimp only; omega, ⟨hyn, hJ.b, by dsimp only; omega⟩, hY.up, by rw [show 301 - (k + 1) = n by omega]; exact hrun⟩, by dsimp only; omega, Weak.ren _ [(200, 200), (101, 101), (102, 102), (103, 103), (201, 201)] hC rfl (by repeat (first | exact True.intro | refine And.intro ?_ ?_ | exact DLead.same | exact rfl | refine ⟨_, rfl, ?_⟩)) (by repeat (first | exact True.intro | refine And.intro ?_ ?_ | exact DLead.same | exact rfl | refine ⟨_, _, rfl, rfl, ?_⟩ | refine ⟨_, rfl, ?_⟩ | refine ⟨_, _, rfl, ?_, ?_⟩)) rfl rfl rfl⟩
  ·refine AC.exit (th_e (th_e (ib_y (th_n (AC.seq ?_)))))
   have e : F = (x, none) := (exOut_end (by omega) (by omega) hrun).symm
   refine AC.region ?_
   refine AL.p (by exact g_load_ptrN rfl rfl rfl rfl rfl) rfl ?_
   refine AL.q (by exact h_store rfl rfl rfl rfl rfl rfl) rfl ?_
   refine AL.nil (th_n (AC.ret (bq_r ?_)))
   exact retN [(0, 101), (1, 102), (2, 103)] rfl (by rw [e]; show AV.leads _ (.agg [.own 0 x.marks.length, .own 1 x.moves.length, .own 2 (byL x).length, aI 0, aI (-1), aT false]) _; repeat (first | exact DLead.same | exact rfl | refine ⟨_, rfl, ?_⟩ | refine ⟨_, _, rfl, ?_, ?_⟩)) (by rw [e]; repeat (first | exact True.intro | refine And.intro ?_ ?_ | exact rfl | refine ⟨_, _, rfl, rfl, ?_⟩)) rfl rfl
theorem en_sReach : Enters Tryz.prog 99 := enters_of Tryz.func99 rfl rfl
theorem Fires.push {N : Net} {x : Ex} {v : Mv} (h : Fires N x v) (m : List UInt8) (M : List Mv) : Fires N ⟨x.marks ++ [m], M⟩ v := by
 obtain ⟨f, u, h1, h2, h3, h4, h5⟩ := h
 exact ⟨f, u, h1, h2, by dsimp only; rw [List.length_append]; omega, by dsimp only; rw [List.length_append]; omega, by rw [mkAt_push h3, mkAt_push h4]; exact h5⟩
theorem exIn_res {N : Net} {k : Nat} {m : List UInt8} : ∀ (L : List Int) {x : Ex}, (∀ t, t ∈ L → t ∈ readyL N m N.ts.length) → k < x.marks.length → mkAt x k = m → (∀ v, v ∈ x.moves → Fires N x v) →
  (∀ v, v ∈ (exIn N k m L x).1.moves → Fires N (exIn N k m L x).1 v) ∧ mkAt (exIn N k m L x).1 k = m ∧ k < (exIn N k m L x).1.marks.length ∧ ∀ p, (exIn N k m L x).2 = some p → p = (-1, -1) ∨ ∃ t, p = ((k : Int), t) ∧ t ∈ readyL N m N.ts.length ∧ (fireI N m t).2 = false
 | [], x, hL, hk, hm, hF => ⟨hF, hm, hk, fun p h => by cases h⟩
 | t :: ts, x, hL, hk, hm, hF => by
  have hT : ∀ u, u ∈ ts → u ∈ readyL N m N.ts.length := fun u hu => hL u (List.mem_cons_of_mem _ hu)
  rw [exIn]
  split
  ·rename_i hf
   have hfp : fireI N m t = ((fireI N m t).1, true) := by rw [← hf]
   split
   ·rename_i i he
    refine exIn_res ts hT hk hm fun v hv => ?_
    rcases List.mem_append.1 hv with g | g
    ·exact hF v g
    ·rw [List.mem_singleton.1 g]
     have hi := posL_lt he
     have hg := posL_get he
     refine ⟨k, i, rfl, rfl, hk, hi, ?_⟩
     show fireI N (mkAt x k) t = (mkAt x i, true)
     rw [hm, hfp, mkAt_nat hi]
     rw [List.getElem?_eq_getElem hi] at hg
     rw [Option.some.inj hg]
   ·split
    ·exact ⟨hF, hm, hk, fun p h => .inl (Option.some.inj h).symm⟩
    ·refine exIn_res ts hT (by dsimp only; rw [List.length_append]; omega) ((mkAt_push hk).trans hm) fun v hv => ?_
     rcases List.mem_append.1 hv with g | g
     ·exact (hF v g).push _ _
     ·rw [List.mem_singleton.1 g]
      refine ⟨k, x.marks.length, rfl, rfl, by dsimp only; rw [List.length_append]; omega, by dsimp only; rw [List.length_append]; simp, ?_⟩
      rw [mkAt_push hk, mkAt_last, hm]
      exact hfp
  ·rename_i hf
   exact ⟨hF, hm, hk, fun p h => .inr ⟨t, (Option.some.inj h).symm, hL t (List.mem_cons_self ..), by simpa using hf⟩⟩
theorem exOut_res {N : Net} : ∀ (n k : Nat) {x : Ex}, (∀ v, v ∈ x.moves → Fires N x v) →
  (∀ v, v ∈ (exOut N n k x).1.moves → Fires N (exOut N n k x).1 v) ∧ ∀ p, (exOut N n k x).2 = some p → p = (-1, -1) ∨ ∃ (j : Nat) (t : Int), p = ((j : Int), t) ∧ j < (exOut N n k x).1.marks.length ∧ t ∈ readyL N (mkAt (exOut N n k x).1 j) N.ts.length ∧ (fireI N (mkAt (exOut N n k x).1 j) t).2 = false
 | 0, k, x, h => ⟨h, fun p e => by cases e⟩
 | n + 1, k, x, h => by
  rw [exOut]
  split
  ·rename_i hk
   have h1 := exIn_res (readyL N (mkAt x k) N.ts.length) (fun t ht => ht) hk rfl h
   split
   ·rename_i y e
    rw [e] at h1
    exact exOut_res n (k + 1) h1.1
   ·refine ⟨h1.1, fun p hp => ?_⟩
    rcases h1.2.2.2 p hp with g | ⟨t, g1, g2, g3⟩
    ·exact .inl g
    ·exact .inr ⟨k, t, g1, h1.2.2.1, by rw [h1.2.1]; exact g2, by rw [h1.2.1]; exact g3⟩
  ·exact ⟨h, fun p e => by cases e⟩
theorem explR_res (N : Net) (m : List UInt8) : (∀ v, v ∈ (explR N m).1.moves → Fires N (explR N m).1 v) ∧ ∀ p, (explR N m).2 = some p → p = (-1, -1) ∨ ∃ (j : Nat) (t : Int), p = ((j : Int), t) ∧ j < (explR N m).1.marks.length ∧ t ∈ readyL N (mkAt (explR N m).1 j) N.ts.length ∧ (fireI N (mkAt (explR N m).1 j) t).2 = false := exOut_res 301 0 fun v hv => by simp at hv
theorem explR_end (N : Net) (m : List UInt8) : (explR N m).2 = none ∨ (explR N m).2 = some (-1, -1) ∨ ∃ (j : Nat) (t : Int), (explR N m).2 = some ((j : Int), t) ∧ j < (explR N m).1.marks.length ∧ 0 ≤ t ∧ t < N.ts.length := by
 cases h : (explR N m).2 with
 | none => exact .inl rfl
 | some p =>
  rcases (explR_res N m).2 p h with rfl | ⟨j, t, rfl, h1, h2, _⟩
  ·exact .inr (.inl rfl)
  ·exact .inr (.inr ⟨j, t, rfl, h1, readyL_in _ _ _ _ h2⟩)
theorem ref_end (N : Net) (m : List UInt8) : (exB (explR N m) = true → rBad (explR N m).2 < 0 ∧ rFull (explR N m).2 = false) ∧ (exB (explR N m) = false → 0 ≤ rBad (explR N m).2 ∨ rFull (explR N m).2 = true) := by
 unfold exB
 rcases explR_end N m with g | g | ⟨j, t, g, _, g2, _⟩ <;> rw [g]
 ·exact ⟨fun _ => ⟨by decide, rfl⟩, fun h => by cases h⟩
 ·exact ⟨fun h => (by cases h), fun _ => .inr rfl⟩
 ·exact ⟨fun h => (by cases h), fun _ => .inl g2⟩
set_option maxHeartbeats 4000000 in
theorem sExplore_spec (s : Stg) (hB : StgB s) : ASpec Tryz.prog 12 [stgA s] [] (Fun1 (.tup [.agg [.own 0 (explS s).1.marks.length, .own 1 (explS s).1.moves.length], aT (explS s).2]) [(0, .arr 9 1 (tsX (explS s).1.marks)), (1, .arr 52 3 (mvL (explS s).1.moves))]) := by
 have hV := l2Good_spec s hB.L
 have hX := sReach_spec s hB
 have hend := ref_end s.net s.start
 have hR : explS s = if (goodS s && exB (explR s.net s.start)) = true then ((explR s.net s.start).1, true) else (⟨[], []⟩, false) := rfl
 obtain ⟨b, hb⟩ : ∃ b, b = goodS s := ⟨_, rfl⟩
 rw [← hb] at hV hX hR
 obtain ⟨F, hF⟩ : ∃ F, F = explR s.net s.start := ⟨_, rfl⟩
 rw [← hF] at hX hR hend
 obtain ⟨G, hG⟩ : ∃ G, G = explS s := ⟨_, rfl⟩
 rw [← hG] at hR ⊢
 have hN1 : b = false → G = (⟨[], []⟩, false) := fun q => hR.trans (if_neg (by rw [q]; simp))
 have hN2 : exB F = false → G = (⟨[], []⟩, false) := fun q => hR.trans (if_neg (by rw [q]; simp))
 have hY2 : b = true → exB F = true → G = (F.1, true) := fun q1 q2 => hR.trans (if_pos (by rw [q1, q2]; rfl))
 clear hG hb hF
 refine ASpec.of Tryz.func12 rfl rfl fun C hC => ?_
 refine AC.seq (AC.region ?_)
 refine AL.q (by exact h_boxF rfl rfl) rfl ?_
 refine AL.q (by exact h_alloc rfl) rfl ?_
 refine AL.p (by exact as1 rfl) rfl ?_
 refine AL.nil (th_n (AC.seq (AC.seq (AC.region ?_))))
 refine AL.p (by exact g_load_refN rfl rfl rfl rfl) rfl ?_
 refine AL.q (by exact h_pure en_l2Good rfl rfl (by repeat (first | exact rfl | exact DLead.same | refine ⟨_, _, rfl, ?_, ?_⟩ | refine ⟨_, rfl, ?_⟩)) hV rfl) rfl ?_
 refine AL.p (by exact g_not rfl) rfl ?_
 refine AL.nil (th_n ?_)
 refine AC.condB rfl (fun h0 => ?_) (fun h0 => ?_)
 ·refine AC.seq (AC.region ?_)
  refine AL.p (by exact g_build rfl rfl rfl) rfl ?_
  refine AL.q (by exact h_store rfl rfl rfl rfl rfl rfl) rfl ?_
  refine AL.p (by exact as1 rfl) rfl ?_
  refine AL.nil (th_n ?_)
  refine AC.weak ((Weak.nilOwnP 2 0 (e := 9) (sz := 1) rfl rfl rfl rfl rfl).trans (Weak.nilOwnP 2 1 (e := 52) (sz := 3) rfl rfl rfl rfl rfl)) ?_
  refine AC.ret (th_r (bq_r ?_))
  have e := hN1 (by simpa using h0)
  exact retN [(0, 32), (1, 40)] rfl (by rw [e]; show AV.leads _ (.tup [.agg [.own 0 0, .own 1 0], aT false]) _; repeat (first | exact DLead.same | exact rfl | refine ⟨_, rfl, ?_⟩ | refine ⟨_, _, rfl, ?_, ?_⟩)) (by rw [e]; repeat (first | exact True.intro | refine And.intro ?_ ?_ | exact rfl | refine ⟨_, _, rfl, rfl, ?_⟩)) rfl rfl
 ·refine AC.skip (th_n (AC.seq ?_))
  have q1 : b = true := by simpa using h0
  have hX2 := hX q1
  refine AC.region ?_
  refine AL.p (by exact g_load_refN rfl rfl rfl rfl) rfl ?_
  refine AL.q (by exact h_fun (cs := []) en_sReach rfl rfl (by repeat (first | exact rfl | exact DLead.same | refine ⟨_, _, rfl, ?_, ?_⟩ | refine ⟨_, rfl, ?_⟩)) (by repeat (exact True.intro)) hX2 rfl rfl rfl rfl) rfl ?_
  refine AL.q (by exact h_alloc rfl) rfl ?_
  refine AL.q (by exact h_store rfl rfl rfl rfl rfl rfl) rfl ?_
  refine AL.nil (th_n (AC.seq (AC.seq ?_)))
  refine AC.weak (t := ⟨21, 300, [(2, .ptr 201 0), (3, aT false), (4, .ptr 200 0)], [(200, some (.cells 118 (refA F 101 102 103))), (201, some (.cells 35 zRG)), (101, some (.arr 9 1 (tsX F.1.marks))), (102, some (.arr 52 3 (mvL F.1.moves))), (103, some (.arr 52 3 (mvL (byL F.1))))]⟩) (Weak.ren _ [(200, _), (201, _), (101, _), (102, _), (103, _)] hC rfl (by repeat (first | exact True.intro | refine And.intro ?_ ?_ | exact DLead.same | exact rfl | refine ⟨_, rfl, ?_⟩)) (by repeat (first | exact True.intro | refine And.intro ?_ ?_ | exact DLead.same | exact rfl | refine ⟨_, _, rfl, rfl, ?_⟩ | refine ⟨_, rfl, ?_⟩ | refine ⟨_, _, rfl, ?_, ?_⟩)) rfl rfl rfl) ?_
  refine AC.region ?_
  refine AL.p (by exact g_fa_ptr rfl rfl rfl rfl rfl) rfl ?_
  refine AL.p (by exact g_load_ptr rfl rfl rfl rfl rfl) rfl ?_
  refine AL.p (by exact g_cmp rfl rfl rfl) rfl ?_
  refine AL.p (by exact mv1 rfl) rfl ?_
  refine AL.caseG rfl rfl (fun h1 => ?_) (fun h1 => ?_)
  ·refine AL.not rfl rfl rfl rfl rfl ?_
   refine AL.not rfl rfl rfl rfl rfl ?_
   refine AL.p (by exact g_pickT (r := .d _) rfl rfl) rfl ?_
   refine AL.nil (th_n ?_)
   refine AC.condT rfl ?_
   refine AC.seq (AC.region ?_)
   refine AL.p (by exact g_build rfl rfl rfl) rfl ?_
   refine AL.q (by exact h_store rfl rfl rfl rfl rfl rfl) rfl ?_
   refine AL.p (by exact as1 rfl) rfl ?_
   refine AL.nil (th_n ?_)
   refine AC.weak ((Weak.nilOwnP 2 0 (e := 9) (sz := 1) rfl rfl rfl rfl rfl).trans (Weak.nilOwnP 2 1 (e := 52) (sz := 3) rfl rfl rfl rfl rfl)) ?_
   refine AC.ret (th_r (bq_r ?_))
   have hbad : exB F = false := by refine Bool.eq_false_iff.2 fun q => ?_; obtain ⟨q1, q2⟩ := hend.1 q; omega
   have e := hN2 hbad
   exact retN [(0, _), (1, _)] rfl (by rw [e]; show AV.leads _ (.tup [.agg [.own 0 0, .own 1 0], aT false]) _; repeat (first | exact DLead.same | exact rfl | refine ⟨_, rfl, ?_⟩ | refine ⟨_, _, rfl, ?_, ?_⟩)) (by rw [e]; repeat (first | exact True.intro | refine And.intro ?_ ?_ | exact rfl | refine ⟨_, _, rfl, rfl, ?_⟩)) rfl rfl
  ·refine AL.yes rfl rfl rfl ?_
   refine AL.p (by exact g_fa_ptr rfl rfl rfl rfl rfl) rfl ?_
   refine AL.yes rfl rfl rfl ?_
   refine AL.p (by exact g_load_ptr rfl rfl rfl rfl rfl) rfl ?_
   refine AL.p (by exact g_pickF (r := .d _) rfl rfl) rfl ?_
   refine AL.nil (th_n ?_)
   refine AC.condB rfl (fun h2 => ?_) (fun h2 => ?_)
   ·refine AC.seq (AC.region ?_)
    refine AL.p (by exact g_build rfl rfl rfl) rfl ?_
    refine AL.q (by exact h_store rfl rfl rfl rfl rfl rfl) rfl ?_
    refine AL.p (by exact as1 rfl) rfl ?_
    refine AL.nil (th_n ?_)
    refine AC.weak ((Weak.nilOwnP 2 0 (e := 9) (sz := 1) rfl rfl rfl rfl rfl).trans (Weak.nilOwnP 2 1 (e := 52) (sz := 3) rfl rfl rfl rfl rfl)) ?_
    refine AC.ret (th_r (bq_r ?_))
    have hbad : exB F = false := by refine Bool.eq_false_iff.2 fun q => ?_; obtain ⟨q1, q2⟩ := hend.1 q; (rw [q2] at *; simp_all)
    have e := hN2 hbad
    exact retN [(0, _), (1, _)] rfl (by rw [e]; show AV.leads _ (.tup [.agg [.own 0 0, .own 1 0], aT false]) _; repeat (first | exact DLead.same | exact rfl | refine ⟨_, rfl, ?_⟩ | refine ⟨_, _, rfl, ?_, ?_⟩)) (by rw [e]; repeat (first | exact True.intro | refine And.intro ?_ ?_ | exact rfl | refine ⟨_, _, rfl, rfl, ?_⟩)) rfl rfl
   ·refine AC.skip (th_n (AC.seq (AC.region ?_)))
    refine AL.p (by exact g_fa_ptr rfl rfl rfl rfl rfl) rfl ?_
    refine AL.p (by exact g_load_ptrN rfl rfl rfl rfl rfl) rfl ?_
    refine AL.q (by exact h_store rfl rfl rfl rfl rfl rfl) rfl ?_
    refine AL.p (by exact as1 rfl) rfl ?_
    refine AL.nil (th_n (AC.ret (bq_r ?_)))
    have hgood : exB F = true := by refine Bool.not_eq_false _ ▸ fun q => ?_; rcases hend.2 q with q | q; (omega); (simp_all)
    have e := hY2 q1 hgood
    exact retN [(0, 101), (1, 102)] rfl (by rw [e]; show AV.leads _ (.tup [.agg [.own 0 F.1.marks.length, .own 1 F.1.moves.length], aT true]) _; repeat (first | exact DLead.same | exact rfl | refine ⟨_, rfl, ?_⟩ | refine ⟨_, _, rfl, ?_, ?_⟩)) (by rw [e]; repeat (first | exact True.intro | refine And.intro ?_ ?_ | exact rfl | refine ⟨_, _, rfl, rfl, ?_⟩)) rfl rfl
theorem en_sExplore : Enters Tryz.prog 12 := enters_of Tryz.func12 rfl rfl
def okS (s : Stg) : Bool := decide (1 ≤ s.net.ts.length) && decide (0 ≤ s.net.places) && decide (s.net.places ≤ 40) && decide (s.net.ts.length ≤ 13) && s.net.ts.all (fun t => decide (t.pre.length ≤ 4) && decide (t.post.length ≤ 4)) && decide (1 ≤ s.sigs.length) && decide (s.sigs.length ≤ 8) && s.sigs.all (fun x => decide (x.name.length ≤ 10)) && decide (1 ≤ s.labs.length) && decide (s.labs.length ≤ 20) && s.labs.all (fun x => decide (-10 ≤ x.sig) && decide (x.sig ≤ 10)) && decide (s.start.length ≤ 40)
structure StgS (s : Stg) : Prop where
 p : 0 ≤ s.net.places ∧ s.net.places ≤ 40
 tl : s.net.ts.length ≤ 13
 t : ∀ t, t ∈ s.net.ts → t.pre.length ≤ 4 ∧ t.post.length ≤ 4
 s0 : 1 ≤ s.sigs.length
 sl : s.sigs.length ≤ 8
 sn : ∀ x, x ∈ s.sigs → x.name.length ≤ 10
 ll : s.labs.length ≤ 20
 lb : ∀ x, x ∈ s.labs → -10 ≤ x.sig ∧ x.sig ≤ 10
 st : s.start.length ≤ 60
theorem okS_S {s : Stg} (h : okS s = true) : StgS s ∧ 1 ≤ s.labs.length ∧ s.start.length ≤ 40 := by
 simp only [okS, Bool.and_eq_true, decide_eq_true_eq, List.all_eq_true] at h
 obtain ⟨⟨⟨⟨⟨⟨⟨⟨⟨⟨⟨h0, h1⟩, h2⟩, h3⟩, h4⟩, h5⟩, h6⟩, h7⟩, h8⟩, h9⟩, h10⟩, h11⟩ := h
 exact ⟨⟨⟨h1, h2⟩, h3, h4, h5, h6, h7, h9, h10, by omega⟩, h8, h11⟩
theorem StgS.B {s : Stg} (h : StgS s) : StgB s := ⟨⟨by have := h.p; omega, by have := h.tl; omega, fun t ht => by have := h.t t ht; omega⟩, by have := h.sl; omega, fun t ht => by have := h.sn t ht; omega, by have := h.ll; omega, fun x hx => by have := h.lb x hx; omega, by have := h.st; omega⟩
def plS0 : Stg := buildS [97, 98] [99] [] [97, 43, 62, 99, 43, 32, 98, 43, 62, 99, 43, 32, 99, 43, 62, 97, 45, 32, 99, 43, 62, 98, 45, 32, 97, 45, 62, 99, 45, 32, 98, 45, 62, 99, 45, 32, 42, 99, 45, 62, 97, 43, 32, 42, 99, 45, 62, 98, 43]
theorem plS0_ok : okS plS0 = true := by decide +kernel
def plS1 : Stg := buildS [97] [98] [] [97, 43, 62, 98, 43, 32, 98, 43, 62, 97, 45, 32, 97, 45, 62, 98, 45, 32, 42, 98, 45, 62, 97, 43]
theorem plS1_ok : okS plS1 = true := by decide +kernel
def plS2 : Stg := buildS [114] [120, 121] [] [114, 43, 62, 120, 43, 32, 114, 43, 62, 121, 43, 32, 120, 43, 62, 114, 45, 32, 121, 43, 62, 114, 45, 32, 114, 45, 62, 120, 45, 32, 114, 45, 62, 121, 45, 32, 42, 120, 45, 62, 114, 43, 32, 42, 121, 45, 62, 114, 43]
theorem plS2_ok : okS plS2 = true := by decide +kernel
def plS3 : Stg := buildS [97, 100] [98, 99] [] [97, 43, 62, 98, 43, 32, 98, 43, 62, 100, 43, 32, 100, 43, 62, 99, 43, 32, 99, 43, 62, 97, 45, 32, 97, 45, 62, 98, 45, 32, 98, 45, 62, 100, 45, 32, 100, 45, 62, 99, 45, 32, 42, 99, 45, 62, 97, 43]
theorem plS3_ok : okS plS3 = true := by decide +kernel
def plS4 : Stg := buildS [97] [98] [120] [97, 43, 62, 120, 43, 32, 120, 43, 62, 98, 43, 32, 98, 43, 62, 97, 45, 32, 97, 45, 62, 120, 45, 32, 120, 45, 62, 98, 45, 32, 42, 98, 45, 62, 97, 43]
theorem plS4_ok : okS plS4 = true := by decide +kernel
def plS5 : Stg := buildS [97, 98] [99] [] [42, 95, 112, 62, 97, 43, 32, 95, 112, 62, 98, 43, 32, 97, 43, 62, 99, 43, 47, 49, 32, 99, 43, 47, 49, 62, 97, 45, 32, 97, 45, 62, 99, 45, 47, 49, 32, 99, 45, 47, 49, 62, 95, 112, 32, 98, 43, 62, 99, 43, 47, 50, 32, 99, 43, 47, 50, 62, 98, 45, 32, 98, 45, 62, 99, 45, 47, 50, 32, 99, 45, 47, 50, 62, 95, 112]
theorem plS5_ok : okS plS5 = true := by decide +kernel
def plS6 : Stg := buildS [97] [98] [] [97, 43, 62, 126, 32, 126, 62, 98, 43, 32, 98, 43, 62, 97, 45, 32, 97, 45, 62, 98, 45, 32, 42, 98, 45, 62, 97, 43]
theorem plS6_ok : okS plS6 = true := by decide +kernel
def grS0 : Stg := buildS [114] [120, 121] [] [42, 121, 45, 62, 114, 43, 32, 114, 43, 62, 120, 43, 32, 120, 43, 62, 120, 45, 32, 120, 45, 62, 121, 43, 32, 121, 43, 62, 114, 45, 32, 114, 45, 62, 121, 45]
theorem grS0_ok : okS grS0 = true := by decide +kernel
def grS1 : Stg := buildS [97] [98, 99] [] [42, 97, 45, 62, 97, 43, 32, 97, 43, 62, 95, 112, 32, 95, 112, 62, 98, 43, 32, 95, 112, 62, 99, 43, 32, 98, 43, 62, 98, 45, 32, 99, 43, 62, 99, 45, 32, 98, 45, 62, 95, 113, 32, 99, 45, 62, 95, 113, 32, 95, 113, 62, 97, 45]
theorem grS1_ok : okS grS1 = true := by decide +kernel
def grS2 : Stg := buildS [97] [98] [] [97, 43, 47, 49, 62, 98, 43, 32, 98, 43, 62, 97, 43, 47, 50, 32, 97, 43, 47, 50, 62, 98, 45, 32, 42, 98, 45, 62, 97, 43, 47, 49]
theorem grS2_ok : okS grS2 = true := by decide +kernel
def grS4 : Stg := buildS [97] [98] [] [42, 95, 112, 62, 97, 43, 32, 97, 43, 62, 98, 43, 32, 98, 43, 62, 95, 113]
theorem grS4_ok : okS grS4 = true := by decide +kernel
def twS0 : Stg := buildS [112] [113] [] [112, 43, 62, 113, 43, 32, 113, 43, 62, 112, 45, 32, 112, 45, 62, 113, 45, 32, 42, 113, 45, 62, 112, 43]
theorem twS0_ok : okS twS0 = true := by decide +kernel
def twS1 : Stg := buildS [97] [98] [] [97, 43, 62, 98, 43, 32, 98, 43, 62, 97, 45, 32, 97, 45, 62, 98, 45, 32, 42, 98, 45, 62, 97, 43]
theorem twS1_ok : okS twS1 = true := by decide +kernel
def grS3 : Stg := unionT twS0 twS1
theorem grS3_ok : okS grS3 = true := by decide +kernel
theorem twS_ok : (unionS twS0 twS1).2 = true := by decide +kernel
theorem twS_net : okS ⟨(unionR twS0.net twS1.net).1, twS0.sigs, twS0.labs, []⟩ = true := by decide +kernel
def plS (i : Int) : Stg := if i = 0 then plS0 else if i = 1 then plS1 else if i = 2 then plS2 else if i = 3 then plS3 else if i = 4 then plS4 else if i = 5 then plS5 else plS6
theorem plS_ok (i : Int) : okS (plS i) = true := by
 unfold plS
 split
 ·exact plS0_ok
 split
 ·exact plS1_ok
 split
 ·exact plS2_ok
 split
 ·exact plS3_ok
 split
 ·exact plS4_ok
 split
 ·exact plS5_ok
 exact plS6_ok
def stgI (c : Cur) : Stg × Cur := if (c.pick 9).1 = 0 then (grS0, (c.pick 9).2) else if (c.pick 9).1 = 1 then (grS1, (c.pick 9).2) else if (c.pick 9).1 = 2 then (grS2, (c.pick 9).2) else if (c.pick 9).1 = 3 then (grS3, (c.pick 9).2) else if (c.pick 9).1 = 4 then (grS4, (c.pick 9).2) else (plS ((c.pick 9).2.pick 7).1, ((c.pick 9).2.pick 7).2)
theorem stgI_in (c : Cur) : okS (stgI c).1 = true ∧ (stgI c).2.pos ≤ c.pos + 4 ∧ (stgI c).2.code = c.code := by
 have h1 := c.pick_pos 9
 have h2 := (c.pick 9).2.pick_pos 7
 have k1 := c.pick_code 9
 have k2 := (c.pick 9).2.pick_code 7
 unfold stgI
 split
 ·exact ⟨grS0_ok, by dsimp only; omega, k1⟩
 split
 ·exact ⟨grS1_ok, by dsimp only; omega, k1⟩
 split
 ·exact ⟨grS2_ok, by dsimp only; omega, k1⟩
 split
 ·exact ⟨grS3_ok, by dsimp only; omega, k1⟩
 split
 ·exact ⟨grS4_ok, by dsimp only; omega, k1⟩
 exact ⟨plS_ok _, by dsimp only; omega, k2.trans k1⟩
theorem plS0_spec : ASpec Tryz.prog 145 [aS (bstr [97, 98]), aS (bstr [99]), aS (bstr []), aS (bstr [97, 43, 62, 99, 43, 32, 98, 43, 62, 99, 43, 32, 99, 43, 62, 97, 45, 32, 99, 43, 62, 98, 45, 32, 97, 45, 62, 99, 45, 32, 98, 45, 62, 99, 45, 32, 42, 99, 45, 62, 97, 43, 32, 42, 99, 45, 62, 98, 43])] [] (Fun1 (stgO plS0 0 1 2) (stgChs plS0 0 1 2)) := l2Build_spec _ _ _ _ (by decide) (by decide) (by decide) (by decide) (by decide +kernel)
theorem plS1_spec : ASpec Tryz.prog 145 [aS (bstr [97]), aS (bstr [98]), aS (bstr []), aS (bstr [97, 43, 62, 98, 43, 32, 98, 43, 62, 97, 45, 32, 97, 45, 62, 98, 45, 32, 42, 98, 45, 62, 97, 43])] [] (Fun1 (stgO plS1 0 1 2) (stgChs plS1 0 1 2)) := l2Build_spec _ _ _ _ (by decide) (by decide) (by decide) (by decide) (by decide +kernel)
theorem plS2_spec : ASpec Tryz.prog 145 [aS (bstr [114]), aS (bstr [120, 121]), aS (bstr []), aS (bstr [114, 43, 62, 120, 43, 32, 114, 43, 62, 121, 43, 32, 120, 43, 62, 114, 45, 32, 121, 43, 62, 114, 45, 32, 114, 45, 62, 120, 45, 32, 114, 45, 62, 121, 45, 32, 42, 120, 45, 62, 114, 43, 32, 42, 121, 45, 62, 114, 43])] [] (Fun1 (stgO plS2 0 1 2) (stgChs plS2 0 1 2)) := l2Build_spec _ _ _ _ (by decide) (by decide) (by decide) (by decide) (by decide +kernel)
theorem plS3_spec : ASpec Tryz.prog 145 [aS (bstr [97, 100]), aS (bstr [98, 99]), aS (bstr []), aS (bstr [97, 43, 62, 98, 43, 32, 98, 43, 62, 100, 43, 32, 100, 43, 62, 99, 43, 32, 99, 43, 62, 97, 45, 32, 97, 45, 62, 98, 45, 32, 98, 45, 62, 100, 45, 32, 100, 45, 62, 99, 45, 32, 42, 99, 45, 62, 97, 43])] [] (Fun1 (stgO plS3 0 1 2) (stgChs plS3 0 1 2)) := l2Build_spec _ _ _ _ (by decide) (by decide) (by decide) (by decide) (by decide +kernel)
theorem plS4_spec : ASpec Tryz.prog 145 [aS (bstr [97]), aS (bstr [98]), aS (bstr [120]), aS (bstr [97, 43, 62, 120, 43, 32, 120, 43, 62, 98, 43, 32, 98, 43, 62, 97, 45, 32, 97, 45, 62, 120, 45, 32, 120, 45, 62, 98, 45, 32, 42, 98, 45, 62, 97, 43])] [] (Fun1 (stgO plS4 0 1 2) (stgChs plS4 0 1 2)) := l2Build_spec _ _ _ _ (by decide) (by decide) (by decide) (by decide) (by decide +kernel)
theorem plS5_spec : ASpec Tryz.prog 145 [aS (bstr [97, 98]), aS (bstr [99]), aS (bstr []), aS (bstr [42, 95, 112, 62, 97, 43, 32, 95, 112, 62, 98, 43, 32, 97, 43, 62, 99, 43, 47, 49, 32, 99, 43, 47, 49, 62, 97, 45, 32, 97, 45, 62, 99, 45, 47, 49, 32, 99, 45, 47, 49, 62, 95, 112, 32, 98, 43, 62, 99, 43, 47, 50, 32, 99, 43, 47, 50, 62, 98, 45, 32, 98, 45, 62, 99, 45, 47, 50, 32, 99, 45, 47, 50, 62, 95, 112])] [] (Fun1 (stgO plS5 0 1 2) (stgChs plS5 0 1 2)) := l2Build_spec _ _ _ _ (by decide) (by decide) (by decide) (by decide) (by decide +kernel)
theorem plS6_spec : ASpec Tryz.prog 145 [aS (bstr [97]), aS (bstr [98]), aS (bstr []), aS (bstr [97, 43, 62, 126, 32, 126, 62, 98, 43, 32, 98, 43, 62, 97, 45, 32, 97, 45, 62, 98, 45, 32, 42, 98, 45, 62, 97, 43])] [] (Fun1 (stgO plS6 0 1 2) (stgChs plS6 0 1 2)) := l2Build_spec _ _ _ _ (by decide) (by decide) (by decide) (by decide) (by decide +kernel)
theorem grS0_spec : ASpec Tryz.prog 145 [aS (bstr [114]), aS (bstr [120, 121]), aS (bstr []), aS (bstr [42, 121, 45, 62, 114, 43, 32, 114, 43, 62, 120, 43, 32, 120, 43, 62, 120, 45, 32, 120, 45, 62, 121, 43, 32, 121, 43, 62, 114, 45, 32, 114, 45, 62, 121, 45])] [] (Fun1 (stgO grS0 0 1 2) (stgChs grS0 0 1 2)) := l2Build_spec _ _ _ _ (by decide) (by decide) (by decide) (by decide) (by decide +kernel)
theorem grS1_spec : ASpec Tryz.prog 145 [aS (bstr [97]), aS (bstr [98, 99]), aS (bstr []), aS (bstr [42, 97, 45, 62, 97, 43, 32, 97, 43, 62, 95, 112, 32, 95, 112, 62, 98, 43, 32, 95, 112, 62, 99, 43, 32, 98, 43, 62, 98, 45, 32, 99, 43, 62, 99, 45, 32, 98, 45, 62, 95, 113, 32, 99, 45, 62, 95, 113, 32, 95, 113, 62, 97, 45])] [] (Fun1 (stgO grS1 0 1 2) (stgChs grS1 0 1 2)) := l2Build_spec _ _ _ _ (by decide) (by decide) (by decide) (by decide) (by decide +kernel)
theorem grS2_spec : ASpec Tryz.prog 145 [aS (bstr [97]), aS (bstr [98]), aS (bstr []), aS (bstr [97, 43, 47, 49, 62, 98, 43, 32, 98, 43, 62, 97, 43, 47, 50, 32, 97, 43, 47, 50, 62, 98, 45, 32, 42, 98, 45, 62, 97, 43, 47, 49])] [] (Fun1 (stgO grS2 0 1 2) (stgChs grS2 0 1 2)) := l2Build_spec _ _ _ _ (by decide) (by decide) (by decide) (by decide) (by decide +kernel)
theorem grS4_spec : ASpec Tryz.prog 145 [aS (bstr [97]), aS (bstr [98]), aS (bstr []), aS (bstr [42, 95, 112, 62, 97, 43, 32, 97, 43, 62, 98, 43, 32, 98, 43, 62, 95, 113])] [] (Fun1 (stgO grS4 0 1 2) (stgChs grS4 0 1 2)) := l2Build_spec _ _ _ _ (by decide) (by decide) (by decide) (by decide) (by decide +kernel)
theorem twS0_spec : ASpec Tryz.prog 145 [aS (bstr [112]), aS (bstr [113]), aS (bstr []), aS (bstr [112, 43, 62, 113, 43, 32, 113, 43, 62, 112, 45, 32, 112, 45, 62, 113, 45, 32, 42, 113, 45, 62, 112, 43])] [] (Fun1 (stgO twS0 0 1 2) (stgChs twS0 0 1 2)) := l2Build_spec _ _ _ _ (by decide) (by decide) (by decide) (by decide) (by decide +kernel)
theorem twS1_spec : ASpec Tryz.prog 145 [aS (bstr [97]), aS (bstr [98]), aS (bstr []), aS (bstr [97, 43, 62, 98, 43, 32, 98, 43, 62, 97, 45, 32, 97, 45, 62, 98, 45, 32, 42, 98, 45, 62, 97, 43])] [] (Fun1 (stgO twS1 0 1 2) (stgChs twS1 0 1 2)) := l2Build_spec _ _ _ _ (by decide) (by decide) (by decide) (by decide) (by decide +kernel)
set_option maxHeartbeats 4000000 in
theorem l2Plain_spec (c : Cur) (hp : c.pos ≤ 100000000) : ASpec Tryz.prog 241 [.ptr 0 0] [(0, curC c)] (Fun1 (stgO (plS (c.pick 7).1) 1 2 3) ((0, curC (c.pick 7).2) :: stgChs (plS (c.pick 7).1) 1 2 3)) := by
 have hK := pick_spec c 7 (by decide) (by omega)
 obtain ⟨p, hpp⟩ : ∃ p, p = c.pick 7 := ⟨_, rfl⟩
 rw [← hpp] at hK ⊢
 have hS : plS p.1 = if p.1 = 0 then plS0 else if p.1 = 1 then plS1 else if p.1 = 2 then plS2 else if p.1 = 3 then plS3 else if p.1 = 4 then plS4 else if p.1 = 5 then plS5 else plS6 := rfl
 obtain ⟨s, hs⟩ : ∃ s, s = plS p.1 := ⟨_, rfl⟩
 rw [← hs] at hS ⊢
 refine ASpec.of Tryz.func241 rfl rfl fun C hC => ?_
 refine AC.seq (AC.region ?_)
 refine AL.q (by exact h_alloc rfl) rfl ?_
 refine AL.nil (th_n (AC.seq (AC.seq (AC.region ?_))))
 refine AL.p (by exact mv3 rfl) rfl ?_
 refine AL.q (by exact h_fun (cs := [0]) en_pick rfl rfl (by repeat (first | exact rfl | exact DLead.same | refine ⟨_, _, rfl, ?_, ?_⟩ | refine ⟨_, rfl, ?_⟩)) (by repeat (first | exact True.intro | refine And.intro ?_ ?_ | exact DLead.same | exact rfl | refine ⟨_, _, rfl, rfl, ?_⟩ | refine ⟨_, rfl, ?_⟩ | refine ⟨_, _, rfl, ?_, ?_⟩)) hK rfl rfl rfl rfl) rfl ?_
 refine AL.nil (th_n (AC.block (AC.seq (AC.region ?_))))
 refine AL.p (by exact g_cmp rfl rfl rfl) rfl ?_
 refine AL.p (by exact as1 rfl) rfl ?_
 refine AL.nil (th_n ?_)
 refine AC.condD rfl (fun h0 => ?_) (fun h0 => ?_)
 ·refine AC.seq (AC.region ?_)
  refine AL.q (by exact h_fun (cs := []) en_l2Build rfl rfl (by repeat (first | exact rfl | exact DLead.same | refine ⟨_, _, rfl, ?_, ?_⟩)) (by repeat (exact True.intro)) plS0_spec rfl rfl rfl rfl) rfl ?_
  refine AL.q (by exact h_store rfl rfl rfl rfl rfl rfl) rfl ?_
  refine AL.nil (th_n (AC.ret (ib_r (th_r (bq_r ?_)))))
  have e : s = plS0 := by rw [hS, if_pos h0]
  exact retN [(1, _), (2, _), (3, _)] rfl (by rw [e]; repeat (first | exact rfl | exact DLead.same | refine ⟨_, _, rfl, ?_, ?_⟩ | refine ⟨_, rfl, ?_⟩)) (by rw [e]; repeat (first | exact True.intro | refine And.intro ?_ ?_ | exact DLead.same | exact rfl | refine ⟨_, _, rfl, rfl, ?_⟩ | refine ⟨_, rfl, ?_⟩ | refine ⟨_, _, rfl, ?_, ?_⟩)) rfl rfl
 ·refine AC.seq (AC.region ?_)
  refine AL.p (by exact g_cmp rfl rfl rfl) rfl ?_
  refine AL.p (by exact as1 rfl) rfl ?_
  refine AL.nil (th_n ?_)
  refine AC.condD rfl (fun h1 => ?_) (fun h1 => ?_)
  ·refine AC.seq (AC.region ?_)
   refine AL.q (by exact h_fun (cs := []) en_l2Build rfl rfl (by repeat (first | exact rfl | exact DLead.same | refine ⟨_, _, rfl, ?_, ?_⟩)) (by repeat (exact True.intro)) plS1_spec rfl rfl rfl rfl) rfl ?_
   refine AL.q (by exact h_store rfl rfl rfl rfl rfl rfl) rfl ?_
   refine AL.nil (th_n (AC.ret (ib_r (th_r (bq_r ?_)))))
   have e : s = plS1 := by rw [hS, if_neg h0, if_pos h1]
   exact retN [(1, _), (2, _), (3, _)] rfl (by rw [e]; repeat (first | exact rfl | exact DLead.same | refine ⟨_, _, rfl, ?_, ?_⟩ | refine ⟨_, rfl, ?_⟩)) (by rw [e]; repeat (first | exact True.intro | refine And.intro ?_ ?_ | exact DLead.same | exact rfl | refine ⟨_, _, rfl, rfl, ?_⟩ | refine ⟨_, rfl, ?_⟩ | refine ⟨_, _, rfl, ?_, ?_⟩)) rfl rfl
  ·refine AC.seq (AC.region ?_)
   refine AL.p (by exact g_cmp rfl rfl rfl) rfl ?_
   refine AL.p (by exact as1 rfl) rfl ?_
   refine AL.nil (th_n ?_)
   refine AC.condD rfl (fun h2 => ?_) (fun h2 => ?_)
   ·refine AC.seq (AC.region ?_)
    refine AL.q (by exact h_fun (cs := []) en_l2Build rfl rfl (by repeat (first | exact rfl | exact DLead.same | refine ⟨_, _, rfl, ?_, ?_⟩)) (by repeat (exact True.intro)) plS2_spec rfl rfl rfl rfl) rfl ?_
    refine AL.q (by exact h_store rfl rfl rfl rfl rfl rfl) rfl ?_
    refine AL.nil (th_n (AC.ret (ib_r (th_r (bq_r ?_)))))
    have e : s = plS2 := by rw [hS, if_neg h0, if_neg h1, if_pos h2]
    exact retN [(1, _), (2, _), (3, _)] rfl (by rw [e]; repeat (first | exact rfl | exact DLead.same | refine ⟨_, _, rfl, ?_, ?_⟩ | refine ⟨_, rfl, ?_⟩)) (by rw [e]; repeat (first | exact True.intro | refine And.intro ?_ ?_ | exact DLead.same | exact rfl | refine ⟨_, _, rfl, rfl, ?_⟩ | refine ⟨_, rfl, ?_⟩ | refine ⟨_, _, rfl, ?_, ?_⟩)) rfl rfl
   ·refine AC.seq (AC.region ?_)
    refine AL.p (by exact g_cmp rfl rfl rfl) rfl ?_
    refine AL.p (by exact as1 rfl) rfl ?_
    refine AL.nil (th_n ?_)
    refine AC.condD rfl (fun h3 => ?_) (fun h3 => ?_)
    ·refine AC.seq (AC.region ?_)
     refine AL.q (by exact h_fun (cs := []) en_l2Build rfl rfl (by repeat (first | exact rfl | exact DLead.same | refine ⟨_, _, rfl, ?_, ?_⟩)) (by repeat (exact True.intro)) plS3_spec rfl rfl rfl rfl) rfl ?_
     refine AL.q (by exact h_store rfl rfl rfl rfl rfl rfl) rfl ?_
     refine AL.nil (th_n (AC.ret (ib_r (th_r (bq_r ?_)))))
     have e : s = plS3 := by rw [hS, if_neg h0, if_neg h1, if_neg h2, if_pos h3]
     exact retN [(1, _), (2, _), (3, _)] rfl (by rw [e]; repeat (first | exact rfl | exact DLead.same | refine ⟨_, _, rfl, ?_, ?_⟩ | refine ⟨_, rfl, ?_⟩)) (by rw [e]; repeat (first | exact True.intro | refine And.intro ?_ ?_ | exact DLead.same | exact rfl | refine ⟨_, _, rfl, rfl, ?_⟩ | refine ⟨_, rfl, ?_⟩ | refine ⟨_, _, rfl, ?_, ?_⟩)) rfl rfl
    ·refine AC.seq (AC.region ?_)
     refine AL.p (by exact g_cmp rfl rfl rfl) rfl ?_
     refine AL.p (by exact as1 rfl) rfl ?_
     refine AL.nil (th_n ?_)
     refine AC.condD rfl (fun h4 => ?_) (fun h4 => ?_)
     ·refine AC.seq (AC.region ?_)
      refine AL.q (by exact h_fun (cs := []) en_l2Build rfl rfl (by repeat (first | exact rfl | exact DLead.same | refine ⟨_, _, rfl, ?_, ?_⟩)) (by repeat (exact True.intro)) plS4_spec rfl rfl rfl rfl) rfl ?_
      refine AL.q (by exact h_store rfl rfl rfl rfl rfl rfl) rfl ?_
      refine AL.nil (th_n (AC.ret (ib_r (th_r (bq_r ?_)))))
      have e : s = plS4 := by rw [hS, if_neg h0, if_neg h1, if_neg h2, if_neg h3, if_pos h4]
      exact retN [(1, _), (2, _), (3, _)] rfl (by rw [e]; repeat (first | exact rfl | exact DLead.same | refine ⟨_, _, rfl, ?_, ?_⟩ | refine ⟨_, rfl, ?_⟩)) (by rw [e]; repeat (first | exact True.intro | refine And.intro ?_ ?_ | exact DLead.same | exact rfl | refine ⟨_, _, rfl, rfl, ?_⟩ | refine ⟨_, rfl, ?_⟩ | refine ⟨_, _, rfl, ?_, ?_⟩)) rfl rfl
     ·refine AC.seq (AC.region ?_)
      refine AL.p (by exact g_cmp rfl rfl rfl) rfl ?_
      refine AL.p (by exact as1 rfl) rfl ?_
      refine AL.nil (th_n ?_)
      refine AC.condD rfl (fun h5 => ?_) (fun h5 => ?_)
      ·refine AC.seq (AC.region ?_)
       refine AL.q (by exact h_fun (cs := []) en_l2Build rfl rfl (by repeat (first | exact rfl | exact DLead.same | refine ⟨_, _, rfl, ?_, ?_⟩)) (by repeat (exact True.intro)) plS5_spec rfl rfl rfl rfl) rfl ?_
       refine AL.q (by exact h_store rfl rfl rfl rfl rfl rfl) rfl ?_
       refine AL.nil (th_n (AC.ret (ib_r (th_r (bq_r ?_)))))
       have e : s = plS5 := by rw [hS, if_neg h0, if_neg h1, if_neg h2, if_neg h3, if_neg h4, if_pos h5]
       exact retN [(1, _), (2, _), (3, _)] rfl (by rw [e]; repeat (first | exact rfl | exact DLead.same | refine ⟨_, _, rfl, ?_, ?_⟩ | refine ⟨_, rfl, ?_⟩)) (by rw [e]; repeat (first | exact True.intro | refine And.intro ?_ ?_ | exact DLead.same | exact rfl | refine ⟨_, _, rfl, rfl, ?_⟩ | refine ⟨_, rfl, ?_⟩ | refine ⟨_, _, rfl, ?_, ?_⟩)) rfl rfl
      ·refine AC.skip (ib_n (th_n (AC.seq (AC.region ?_))))
       refine AL.q (by exact h_fun (cs := []) en_l2Build rfl rfl (by repeat (first | exact rfl | exact DLead.same | refine ⟨_, _, rfl, ?_, ?_⟩)) (by repeat (exact True.intro)) plS6_spec rfl rfl rfl rfl) rfl ?_
       refine AL.q (by exact h_store rfl rfl rfl rfl rfl rfl) rfl ?_
       refine AL.nil (th_n (AC.ret (bq_r ?_)))
       have e : s = plS6 := by rw [hS, if_neg h0, if_neg h1, if_neg h2, if_neg h3, if_neg h4, if_neg h5]
       exact retN [(1, _), (2, _), (3, _)] rfl (by rw [e]; repeat (first | exact rfl | exact DLead.same | refine ⟨_, _, rfl, ?_, ?_⟩ | refine ⟨_, rfl, ?_⟩)) (by rw [e]; repeat (first | exact True.intro | refine And.intro ?_ ?_ | exact DLead.same | exact rfl | refine ⟨_, _, rfl, rfl, ?_⟩ | refine ⟨_, rfl, ?_⟩ | refine ⟨_, _, rfl, ?_, ?_⟩)) rfl rfl
theorem en_l2Plain : Enters Tryz.prog 241 := enters_of Tryz.func241 rfl rfl
theorem twS_L : NetL (unionR twS0.net twS1.net).1 := ((okS_S twS_net).1.B.n).L
set_option maxHeartbeats 4000000 in
theorem stg_spec (c : Cur) (hp : c.pos ≤ 10000000) : ASpec Tryz.prog 191 [.ptr 0 0] [(0, curC c)] (Fun1 (stgQ (stgI c).1 1 2) [(0, curC (stgI c).2), (1, .arr 149 2 (sigsL (stgI c).1.sigs)), (2, .arr 156 2 (labsL (stgI c).1.labs))]) := by
 have hK := pick_spec c 9 (by decide) (by omega)
 have hpos := c.pick_pos 9
 have hS : stgI c = if (c.pick 9).1 = 0 then (grS0, (c.pick 9).2) else if (c.pick 9).1 = 1 then (grS1, (c.pick 9).2) else if (c.pick 9).1 = 2 then (grS2, (c.pick 9).2) else if (c.pick 9).1 = 3 then (grS3, (c.pick 9).2) else if (c.pick 9).1 = 4 then (grS4, (c.pick 9).2) else (plS ((c.pick 9).2.pick 7).1, ((c.pick 9).2.pick 7).2) := rfl
 obtain ⟨p, hpp⟩ : ∃ p, p = c.pick 9 := ⟨_, rfl⟩
 rw [← hpp] at hK hS hpos
 have hP := l2Plain_spec p.2 (by omega)
 obtain ⟨pp, hpq⟩ : ∃ pp, pp = plS (p.2.pick 7).1 := ⟨_, rfl⟩
 rw [← hpq] at hP hS
 obtain ⟨s, hs⟩ : ∃ s, s = stgI c := ⟨_, rfl⟩
 rw [← hs] at hS ⊢
 have hU := sUnionSTGs_own twS0 twS1 (okS_S twS0_ok).1.B (okS_S twS1_ok).1.B twS_L twS_ok
 rw [show unionT twS0 twS1 = grS3 from rfl] at hU
 refine ASpec.of Tryz.func191 rfl rfl fun C hC => ?_
 refine AC.seq (AC.region ?_)
 refine AL.q (by exact h_alloc rfl) rfl ?_
 refine AL.nil (th_n (AC.seq (AC.seq (AC.region ?_))))
 refine AL.p (by exact mv3 rfl) rfl ?_
 refine AL.q (by exact h_fun (cs := [0]) en_pick rfl rfl (by repeat (first | exact rfl | exact DLead.same | refine ⟨_, _, rfl, ?_, ?_⟩ | refine ⟨_, rfl, ?_⟩)) (by repeat (first | exact True.intro | refine And.intro ?_ ?_ | exact DLead.same | exact rfl | refine ⟨_, _, rfl, rfl, ?_⟩ | refine ⟨_, rfl, ?_⟩ | refine ⟨_, _, rfl, ?_, ?_⟩)) hK rfl rfl rfl rfl) rfl ?_
 refine AL.nil (th_n (AC.block (AC.seq (AC.region ?_))))
 refine AL.p (by exact g_cmp rfl rfl rfl) rfl ?_
 refine AL.p (by exact as1 rfl) rfl ?_
 refine AL.nil (th_n ?_)
 refine AC.condD rfl (fun h0 => ?_) (fun h0 => ?_)
 ·refine AC.seq (AC.region ?_)
  refine AL.q (by exact h_fun (cs := []) en_l2Build rfl rfl (by repeat (first | exact rfl | exact DLead.same | refine ⟨_, _, rfl, ?_, ?_⟩)) (by repeat (exact True.intro)) grS0_spec rfl rfl rfl rfl) rfl ?_
  refine AL.weak (Weak.freezeA (i := 9) (k := 1) rfl rfl rfl (ownl _ _) (ownt _ _)) ?_
  refine AL.q (by exact h_store rfl rfl rfl rfl rfl rfl) rfl ?_
  refine AL.nil (th_n (AC.ret (ib_r (th_r (bq_r ?_)))))
  have e : s = (grS0, p.2) := by rw [hS, if_pos h0]
  exact retN [(1, _), (2, _)] rfl (by rw [e]; repeat (first | exact rfl | exact DLead.same | refine ⟨_, _, rfl, ?_, ?_⟩ | refine ⟨_, rfl, ?_⟩)) (by rw [e]; repeat (first | exact True.intro | refine And.intro ?_ ?_ | exact DLead.same | exact rfl | refine ⟨_, _, rfl, rfl, ?_⟩ | refine ⟨_, rfl, ?_⟩ | refine ⟨_, _, rfl, ?_, ?_⟩)) rfl rfl
 ·refine AC.seq (AC.region ?_)
  refine AL.p (by exact g_cmp rfl rfl rfl) rfl ?_
  refine AL.p (by exact as1 rfl) rfl ?_
  refine AL.nil (th_n ?_)
  refine AC.condD rfl (fun h1 => ?_) (fun h1 => ?_)
  ·refine AC.seq (AC.region ?_)
   refine AL.q (by exact h_fun (cs := []) en_l2Build rfl rfl (by repeat (first | exact rfl | exact DLead.same | refine ⟨_, _, rfl, ?_, ?_⟩)) (by repeat (exact True.intro)) grS1_spec rfl rfl rfl rfl) rfl ?_
   refine AL.weak (Weak.freezeA (i := 12) (k := 1) rfl rfl rfl (ownl _ _) (ownt _ _)) ?_
   refine AL.q (by exact h_store rfl rfl rfl rfl rfl rfl) rfl ?_
   refine AL.nil (th_n (AC.ret (ib_r (th_r (bq_r ?_)))))
   have e : s = (grS1, p.2) := by rw [hS, if_neg h0, if_pos h1]
   exact retN [(1, _), (2, _)] rfl (by rw [e]; repeat (first | exact rfl | exact DLead.same | refine ⟨_, _, rfl, ?_, ?_⟩ | refine ⟨_, rfl, ?_⟩)) (by rw [e]; repeat (first | exact True.intro | refine And.intro ?_ ?_ | exact DLead.same | exact rfl | refine ⟨_, _, rfl, rfl, ?_⟩ | refine ⟨_, rfl, ?_⟩ | refine ⟨_, _, rfl, ?_, ?_⟩)) rfl rfl
  ·refine AC.seq (AC.region ?_)
   refine AL.p (by exact g_cmp rfl rfl rfl) rfl ?_
   refine AL.p (by exact as1 rfl) rfl ?_
   refine AL.nil (th_n ?_)
   refine AC.condD rfl (fun h2 => ?_) (fun h2 => ?_)
   ·refine AC.seq (AC.region ?_)
    refine AL.q (by exact h_fun (cs := []) en_l2Build rfl rfl (by repeat (first | exact rfl | exact DLead.same | refine ⟨_, _, rfl, ?_, ?_⟩)) (by repeat (exact True.intro)) grS2_spec rfl rfl rfl rfl) rfl ?_
    refine AL.weak (Weak.freezeA (i := 15) (k := 1) rfl rfl rfl (ownl _ _) (ownt _ _)) ?_
    refine AL.q (by exact h_store rfl rfl rfl rfl rfl rfl) rfl ?_
    refine AL.nil (th_n (AC.ret (ib_r (th_r (bq_r ?_)))))
    have e : s = (grS2, p.2) := by rw [hS, if_neg h0, if_neg h1, if_pos h2]
    exact retN [(1, _), (2, _)] rfl (by rw [e]; repeat (first | exact rfl | exact DLead.same | refine ⟨_, _, rfl, ?_, ?_⟩ | refine ⟨_, rfl, ?_⟩)) (by rw [e]; repeat (first | exact True.intro | refine And.intro ?_ ?_ | exact DLead.same | exact rfl | refine ⟨_, _, rfl, rfl, ?_⟩ | refine ⟨_, rfl, ?_⟩ | refine ⟨_, _, rfl, ?_, ?_⟩)) rfl rfl
   ·refine AC.seq (AC.region ?_)
    refine AL.p (by exact g_cmp rfl rfl rfl) rfl ?_
    refine AL.p (by exact as1 rfl) rfl ?_
    refine AL.nil (th_n ?_)
    refine AC.condD rfl (fun h3 => ?_) (fun h3 => ?_)
    ·refine AC.seq (AC.region ?_)
     refine AL.q (by exact h_fun (cs := []) en_l2Build rfl rfl (by repeat (first | exact rfl | exact DLead.same | refine ⟨_, _, rfl, ?_, ?_⟩)) (by repeat (exact True.intro)) twS0_spec rfl rfl rfl rfl) rfl ?_
     refine AL.weak (Weak.freezeA3 19 rfl rfl rfl rfl rfl rfl rfl (ownl _ _) (ownl _ _) (ownl _ _) (ownt _ _) (ownt _ _) (ownt _ _)) ?_
     refine AL.q (by exact h_fun (cs := []) en_l2Build rfl rfl (by repeat (first | exact rfl | exact DLead.same | refine ⟨_, _, rfl, ?_, ?_⟩)) (by repeat (exact True.intro)) twS1_spec rfl rfl rfl rfl) rfl ?_
     refine AL.weak (Weak.freezeA3 20 rfl rfl rfl rfl rfl rfl rfl (ownl _ _) (ownl _ _) (ownl _ _) (ownt _ _) (ownt _ _) (ownt _ _)) ?_
     refine AL.q (by exact h_fun (cs := []) en_sUnionSTGs rfl rfl (by repeat (first | exact rfl | exact DLead.same | refine ⟨_, _, rfl, ?_, ?_⟩ | refine ⟨_, rfl, ?_⟩)) (by repeat (exact True.intro)) hU rfl rfl rfl rfl) rfl ?_
     refine AL.p (by exact mv5 rfl) rfl ?_
     refine AL.p (by exact g_extract (r := .agg _) rfl rfl) rfl ?_
     refine AL.p (by exact g_extract (r := .d _) rfl rfl) rfl ?_
     refine AL.q (by exact h_alloc rfl) rfl ?_
     refine AL.q (by exact h_store rfl rfl rfl rfl rfl rfl) rfl ?_
     refine AL.p (by exact as1 rfl) rfl ?_
     refine AL.nil (th_n (AC.seq (AC.region ?_)))
     refine AL.p (by exact mv1 rfl) rfl ?_
     refine AL.nil (th_n ?_)
     refine AC.condT rfl ?_
     refine AC.seq (AC.region ?_)
     refine AL.p (by exact g_load_ptrN rfl rfl rfl rfl rfl) rfl ?_
     refine AL.q (by exact h_store rfl rfl rfl rfl rfl rfl) rfl ?_
     refine AL.nil (th_n (AC.ret (ib_r (th_r (bq_r ?_)))))
     have e : s = (grS3, p.2) := by rw [hS, if_neg h0, if_neg h1, if_neg h2, if_pos h3]
     exact retN [(1, _), (2, _)] rfl (by rw [e]; repeat (first | exact rfl | exact DLead.same | refine ⟨_, _, rfl, ?_, ?_⟩ | refine ⟨_, rfl, ?_⟩)) (by rw [e]; repeat (first | exact True.intro | refine And.intro ?_ ?_ | exact DLead.same | exact rfl | refine ⟨_, _, rfl, rfl, ?_⟩ | refine ⟨_, rfl, ?_⟩ | refine ⟨_, _, rfl, ?_, ?_⟩)) rfl rfl
    ·refine AC.seq (AC.region ?_)
     refine AL.p (by exact g_cmp rfl rfl rfl) rfl ?_
     refine AL.p (by exact as1 rfl) rfl ?_
     refine AL.nil (th_n ?_)
     refine AC.condD rfl (fun h4 => ?_) (fun h4 => ?_)
     ·refine AC.seq (AC.region ?_)
      refine AL.q (by exact h_fun (cs := []) en_l2Build rfl rfl (by repeat (first | exact rfl | exact DLead.same | refine ⟨_, _, rfl, ?_, ?_⟩)) (by repeat (exact True.intro)) grS4_spec rfl rfl rfl rfl) rfl ?_
      refine AL.weak (Weak.freezeA (i := 28) (k := 1) rfl rfl rfl (ownl _ _) (ownt _ _)) ?_
      refine AL.q (by exact h_store rfl rfl rfl rfl rfl rfl) rfl ?_
      refine AL.nil (th_n (AC.ret (ib_r (th_r (bq_r ?_)))))
      have e : s = (grS4, p.2) := by rw [hS, if_neg h0, if_neg h1, if_neg h2, if_neg h3, if_pos h4]
      exact retN [(1, _), (2, _)] rfl (by rw [e]; repeat (first | exact rfl | exact DLead.same | refine ⟨_, _, rfl, ?_, ?_⟩ | refine ⟨_, rfl, ?_⟩)) (by rw [e]; repeat (first | exact True.intro | refine And.intro ?_ ?_ | exact DLead.same | exact rfl | refine ⟨_, _, rfl, rfl, ?_⟩ | refine ⟨_, rfl, ?_⟩ | refine ⟨_, _, rfl, ?_, ?_⟩)) rfl rfl
     ·refine AC.skip (ib_n (th_n (AC.seq (AC.region ?_))))
      refine AL.p (by exact mv3 rfl) rfl ?_
      refine AL.q (by exact h_fun (cs := [0]) en_l2Plain rfl rfl (by repeat (first | exact rfl | refine ⟨_, _, rfl, ?_, ?_⟩ | refine ⟨_, rfl, ?_⟩)) (by repeat (first | exact True.intro | refine And.intro ?_ ?_ | exact DLead.same | exact rfl | refine ⟨_, _, rfl, rfl, ?_⟩ | refine ⟨_, rfl, ?_⟩ | refine ⟨_, _, rfl, ?_, ?_⟩)) hP rfl rfl rfl rfl) rfl ?_
      refine AL.weak (Weak.freezeA (i := 30) (k := 1) rfl rfl rfl (ownl _ _) (ownt _ _)) ?_
      refine AL.q (by exact h_store rfl rfl rfl rfl rfl rfl) rfl ?_
      refine AL.nil (th_n (AC.ret (bq_r ?_)))
      have e : s = (pp, (p.2.pick 7).2) := by rw [hS, if_neg h0, if_neg h1, if_neg h2, if_neg h3, if_neg h4]
      exact retN [(1, _), (2, _)] rfl (by rw [e]; repeat (first | exact rfl | exact DLead.same | refine ⟨_, _, rfl, ?_, ?_⟩ | refine ⟨_, rfl, ?_⟩)) (by rw [e]; repeat (first | exact True.intro | refine And.intro ?_ ?_ | exact DLead.same | exact rfl | refine ⟨_, _, rfl, rfl, ?_⟩ | refine ⟨_, rfl, ?_⟩ | refine ⟨_, _, rfl, ?_, ?_⟩)) rfl rfl
theorem en_stg : Enters Tryz.prog 191 := enters_of Tryz.func191 rfl rfl
end Go.Proofs.YthafkkgmekgmoaaGreat
