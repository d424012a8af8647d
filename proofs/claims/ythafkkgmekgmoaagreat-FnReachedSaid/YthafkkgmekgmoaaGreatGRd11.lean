/- Contracts of the functions of the program and of the reference, each proved by a walk through its code. -/
import Derived.WalkKit
import Derived.WalkSpells
import Derived.WalkLawsBesides
import Derived.Deep.Draws
import Derived.Lib.Hide
import Derived.Maps.AppendAt
import Derived.OwnWalk
import Derived.Deep.MidRow
import Derived.Laws.ResultCell
import Derived.Deep.Upon
import Derived.Great.FillDense
import Derived.Laws.Tables
import Derived.Laws.BytesArg
import Derived.Laws.MakeOwn
import Derived.Great.BuildSlice
import Derived.ArgAppend
import Derived.Deep.AppendSrc
import Derived.Test.YthafkkgmekgmoaaGreatProg
import Derived.KernelRfl
import Derived.Orders
import Derived.Laws.IdiomStrings
import Derived.Lib.AppendZerosOnto
import Derived.ProofKit
import Derived.OpenShut
import Derived.Lib.SliceRun
import Derived.Laws.StructEq
import Derived.ChangeKeysEq
import Derived.Sort.Grow
import Derived.Laws.RangeString
import Derived.Below
import Derived.Laws.Small
import Derived.MapKept
import Derived.WideMake
import Derived.Laws.IdiomCopy
import Derived.Shelf.Bits.Mul64
import Derived.Test.YthafkkgmekgmoaaGreatRows
import Derived.Test.YthafkkgmekgmoaaGreatGRd10
set_option linter.all false
set_option maxRecDepth 20000
namespace Go.Proofs.YthafkkgmekgmoaaGreat
open Go.RowKit
abbrev stgCl (s : Stg) : List AV := [aI s.net.places, .d (vTs s.net.ts), .d (vSigs s.sigs), .d (vLabs s.labs), aS (bstr s.start)]
theorem until_le (x : Ex) (k : Nat) : untilL x k ≤ x.moves.length := List.length_filter_le ..
theorem fromL_le (x : Ex) (k : Nat) : (fromL x k).length ≤ x.moves.length := List.length_filter_le ..
set_option maxHeartbeats 64000000 in
theorem FnReached_spec (code more : List UInt8) (hc : code.length ≤ 9223372036854775807) (hm : more.length ≤ 9223372036854775807) : ASpec Tryz.prog 3 [.d (vB code), .d (vB more)] [] (Pure1 (aT true)) := by
 have hBig := big_spec code more hc hm
 have hD1 := sDrawExplore_spec code
 have hD2 := sDrawShortFS_spec more
 have hD3 := sDrawMovesFrom_spec more
 refine ASpec.of Tryz.func3 rfl rfl fun C hC => ?_
 refine AC.seq (AC.region ?_)
 refine AL.p (by exact as1 rfl) rfl ?_
 refine AL.nil (th_n (AC.seq (AC.seq (AC.region ?_))))
 refine AL.p (by exact mv1 rfl) rfl ?_
 refine AL.p (by exact mv1 rfl) rfl ?_
 refine AL.q (by exact h_pure en_big rfl rfl (by repeat (first | exact rfl | exact DLead.same | refine ⟨_, _, rfl, ?_, ?_⟩)) hBig rfl) rfl ?_
 refine AL.nil (th_n ?_)
 refine AC.condB rfl (fun h0 => ?_) (fun h0 => ?_)
 ·refine AC.seq (AC.region ?_)
  refine AL.p (by exact as1 rfl) rfl ?_
  refine AL.nil (th_n (AC.ret (th_r (bq_r ?_))))
  exact ret1 rfl rfl
 ·refine AC.skip (th_n (AC.seq (AC.region ?_)))
  refine AL.p (by exact mv1 rfl) rfl ?_
  refine AL.r (by exact h_funR (cs := []) en_sDrawExplore rfl rfl (by repeat (first | exact rfl | exact DLead.same | refine ⟨_, _, rfl, ?_, ?_⟩)) (by repeat (exact True.intro)) hD1 rfl rfl rfl) rfl ?_
  rintro _ ⟨_, _, ⟨s, hs, rfl, rfl⟩, rfl⟩
  refine AL.q (by exact h_alloc rfl) rfl ?_
  refine AL.q (by exact h_store rfl rfl rfl rfl rfl rfl) rfl ?_
  refine AL.nil (th_n (AC.seq ?_))
  have hB := hs.B
  have hX1 := iExplore_spec s hB
  have hX2 := sExplore_spec s hB
  have hXl := explS_in s
  have hEx := @explS_Expl s
  have hUc := @uns_clash s
  obtain ⟨X, hX⟩ : ∃ X, X = explS s := ⟨_, rfl⟩
  rw [← hX] at hX1 hX2 hXl hEx hUc
  have hPR := pSameReach_spec X.1 (by omega) (by omega)
  have hU1 := iUnsafe_spec s hB
  have hU2 := sUnsafe_spec s hB
  have hUl := unsR_len s
  obtain ⟨U, hU⟩ : ∃ U, U = unsR s := ⟨_, rfl⟩
  rw [← hU] at hU1 hU2 hUl hUc
  have hSI := sameInts_spec U.1 U.1 (by omega) (by omega)
  rw [decide_eq_true rfl] at hSI
  clear hX hU
  refine AC.region ?_
  refine AL.p (by exact g_load_ptrN rfl rfl rfl rfl rfl) rfl ?_
  refine AL.q (by exact h_pure en_iExplore rfl rfl (by repeat (first | exact rfl | exact DLead.same | refine ⟨_, _, rfl, ?_, ?_⟩ | refine ⟨_, rfl, ?_⟩)) hX1 rfl) rfl ?_
  refine AL.p (by exact mv5 rfl) rfl ?_
  refine AL.p (by exact g_extract (r := .agg _) rfl rfl) rfl ?_
  refine AL.p (by exact g_extract (r := .d _) rfl rfl) rfl ?_
  refine AL.q (by exact h_alloc rfl) rfl ?_
  refine AL.q (by exact h_store rfl rfl rfl rfl rfl rfl) rfl ?_
  refine AL.p (by exact as1 rfl) rfl ?_
  refine AL.nil (th_n (AC.seq (AC.region ?_)))
  refine AL.p (by exact g_load_ptrN rfl rfl rfl rfl rfl) rfl ?_
  refine AL.q (by exact h_fun (cs := []) en_sExplore rfl rfl (by repeat (first | exact rfl | exact DLead.same | refine ⟨_, _, rfl, ?_, ?_⟩ | refine ⟨_, rfl, ?_⟩)) (by repeat (exact True.intro)) hX2 rfl rfl rfl rfl) rfl ?_
  refine AL.p (by exact mv5 rfl) rfl ?_
  refine AL.p (by exact g_extract (r := .agg _) rfl rfl) rfl ?_
  refine AL.p (by exact g_extract (r := .d _) rfl rfl) rfl ?_
  refine AL.q (by exact h_alloc rfl) rfl ?_
  refine AL.q (by exact h_store rfl rfl rfl rfl rfl rfl) rfl ?_
  refine AL.p (by exact as1 rfl) rfl ?_
  refine AL.nil (th_n (AC.seq (AC.seq ?_)))
  refine AC.weak (Weak.freezeP (els' := tsX X.1.marks) 8 0 rfl rfl rfl rfl (by rw [tsX_len]; exact Nat.le_refl _) (List.take_of_length_le (by rw [tsX_len]; exact Nat.le_refl _)) rfl) ?_
  refine AC.weak (Weak.freezeP (els' := mvL X.1.moves) 8 1 rfl rfl rfl rfl (by rw [mvL_len]; exact Nat.le_refl _) (List.take_of_length_le (by rw [mvL_len]; exact Nat.le_refl _)) rfl) ?_
  refine AC.weak (t := ⟨300, 400, [(1, .d (vB more)), (5, .ptr 202 0), (6, .ptr 200 0), (7, aT X.2), (8, .ptr 201 0), (9, aT X.2)], [(202, some (.cells 30 (stgCl s))), (200, some (.cells 35 (rgC X.1))), (201, some (.cells 35 (rgC X.1)))]⟩) (Weak.ren _ [(202, _), (200, _), (201, _)] hC rfl (by repeat (first | exact True.intro | refine And.intro ?_ ?_ | exact DLead.same | exact rfl | refine ⟨_, rfl, ?_⟩)) (by repeat (first | exact True.intro | refine And.intro ?_ ?_ | exact DLead.same | exact rfl | refine ⟨_, _, rfl, rfl, ?_⟩ | refine ⟨_, rfl, ?_⟩ | refine ⟨_, _, rfl, ?_, ?_⟩)) rfl rfl rfl) ?_
  refine AC.region ?_
  refine AL.p (by exact mv1 rfl) rfl ?_
  refine AL.p (by exact mv1 rfl) rfl ?_
  refine AL.p (by exact g_neBr rfl rfl rfl) rfl ?_
  refine AL.p (by exact mv1 rfl) rfl ?_
  refine AL.yes rfl rfl rfl ?_
  refine AL.p (by exact g_load_ptrN rfl rfl rfl rfl rfl) rfl ?_
  refine AL.yes rfl rfl rfl ?_
  refine AL.p (by exact g_load_ptrN rfl rfl rfl rfl rfl) rfl ?_
  refine AL.yes rfl rfl rfl ?_
  refine AL.q (by exact h_pure en_pSameReach rfl rfl (by repeat (first | exact rfl | exact DLead.same | refine ⟨_, _, rfl, ?_, ?_⟩ | refine ⟨_, rfl, ?_⟩)) hPR rfl) rfl ?_
  refine AL.yes rfl rfl rfl ?_
  refine AL.p (by exact g_not rfl) rfl ?_
  refine AL.p (by exact g_pickF (r := .d _) rfl rfl) rfl ?_
  refine AL.nil (th_n ?_)
  refine AC.condF rfl ?_
  refine AC.skip (th_n (AC.seq (AC.region ?_)))
  refine AL.p (by exact g_load_ptrN rfl rfl rfl rfl rfl) rfl ?_
  refine AL.q (by exact h_pure en_iUnsafe rfl rfl (by repeat (first | exact rfl | exact DLead.same | refine ⟨_, _, rfl, ?_, ?_⟩ | refine ⟨_, rfl, ?_⟩)) hU1 rfl) rfl ?_
  refine AL.p (by exact mv5 rfl) rfl ?_
  refine AL.p (by exact g_extract (r := .d _) rfl rfl) rfl ?_
  refine AL.p (by exact g_extract (r := .d _) rfl rfl) rfl ?_
  refine AL.p (by exact as1 rfl) rfl ?_
  refine AL.p (by exact as1 rfl) rfl ?_
  refine AL.nil (th_n (AC.seq (AC.region ?_)))
  refine AL.p (by exact g_load_ptrN rfl rfl rfl rfl rfl) rfl ?_
  refine AL.q (by exact h_pure en_sUnsafe rfl rfl (by repeat (first | exact rfl | exact DLead.same | refine ⟨_, _, rfl, ?_, ?_⟩ | refine ⟨_, rfl, ?_⟩)) hU2 rfl) rfl ?_
  refine AL.p (by exact mv5 rfl) rfl ?_
  refine AL.p (by exact g_extract (r := .d _) rfl rfl) rfl ?_
  refine AL.p (by exact g_extract (r := .d _) rfl rfl) rfl ?_
  refine AL.p (by exact as1 rfl) rfl ?_
  refine AL.p (by exact as1 rfl) rfl ?_
  refine AL.nil (th_n ?_)
  refine AC.cut (fun (_ : Unit) => ⟨300, 900, [(1, .d (vB more)), (5, .ptr 202 0), (6, .ptr 200 0), (7, aT X.2)], [(202, some (.cells 30 (stgCl s))), (200, some (.cells 35 (rgC X.1)))]⟩) (fun _ => True) ?_ ?_
  ·refine AC.seq (AC.region ?_)
   refine AL.p (by exact mv1 rfl) rfl ?_
   refine AL.p (by exact mv1 rfl) rfl ?_
   refine AL.p (by exact g_neBr rfl rfl rfl) rfl ?_
   refine AL.p (by exact mv1 rfl) rfl ?_
   refine AL.yes rfl rfl rfl ?_
   refine AL.p (by exact mv1 rfl) rfl ?_
   refine AL.yes rfl rfl rfl ?_
   refine AL.p (by exact mv1 rfl) rfl ?_
   refine AL.yes rfl rfl rfl ?_
   refine AL.q (by exact h_pure en_sameInts rfl rfl (by repeat (first | exact rfl | exact DLead.same | refine ⟨_, _, rfl, ?_, ?_⟩)) hSI rfl) rfl ?_
   refine AL.yes rfl rfl rfl ?_
   refine AL.p (by exact g_not rfl) rfl ?_
   refine AL.p (by exact g_pickF (r := .d _) rfl rfl) rfl ?_
   refine AL.p (by exact mv1 rfl) rfl ?_
   refine AL.yes rfl rfl rfl ?_
   refine AL.p (by exact mv1 rfl) rfl ?_
   refine AL.yes rfl rfl rfl ?_
   refine AL.p (by exact mv1 rfl) rfl ?_
   refine AL.caseGB rfl rfl (fun h1 => ?_) (fun h1 => ?_)
   ·refine AL.yes rfl rfl rfl ?_
    refine AL.p (by exact mv1 rfl) rfl ?_
    refine AL.yes rfl rfl rfl ?_
    refine AL.p (by exact g_pickT (r := .d _) rfl rfl) rfl ?_
    refine AL.p (by exact g_pickF (r := .d _) rfl rfl) rfl ?_
    refine AL.nil (th_n ?_)
    refine AC.condB rfl (fun h2 => ?_) (fun h2 => ?_)
    ·refine AC.seq (AC.region ?_)
     refine AL.p (by exact as1 rfl) rfl ?_
     refine AL.nil (th_n (AC.ret (th_r (bq_r ?_))))
     exact absurd ‹U.2 = true› (by rw [hUc ‹X.2 = true›]; decide)
    ·refine AC.skip (th_n ?_)
     exact ⟨(), trivial, Weak.ren _ [(202, 202), (200, 200)] hC rfl (by repeat (first | exact True.intro | refine And.intro ?_ ?_ | exact DLead.same | exact rfl | refine ⟨_, rfl, ?_⟩)) (by repeat (first | exact True.intro | refine And.intro ?_ ?_ | exact DLead.same | exact rfl | refine ⟨_, _, rfl, rfl, ?_⟩ | refine ⟨_, rfl, ?_⟩ | refine ⟨_, _, rfl, ?_, ?_⟩)) rfl rfl rfl⟩
   ·refine AL.not rfl rfl rfl rfl rfl ?_
    refine AL.yes rfl rfl rfl ?_
    refine AL.p (by exact g_pickF (r := .d _) rfl rfl) rfl ?_
    refine AL.p (by exact g_pickF (r := .d _) rfl rfl) rfl ?_
    refine AL.nil (th_n ?_)
    refine AC.condF rfl ?_
    refine AC.skip (th_n ?_)
    exact ⟨(), trivial, Weak.ren _ [(202, 202), (200, 200)] hC rfl (by repeat (first | exact True.intro | refine And.intro ?_ ?_ | exact DLead.same | exact rfl | refine ⟨_, rfl, ?_⟩)) (by repeat (first | exact True.intro | refine And.intro ?_ ?_ | exact DLead.same | exact rfl | refine ⟨_, _, rfl, rfl, ?_⟩ | refine ⟨_, rfl, ?_⟩ | refine ⟨_, _, rfl, ?_, ?_⟩)) rfl rfl rfl⟩
  ·intro _ _
   refine AC.cut (fun (_ : Unit) => ⟨300, 3000, [(1, .d (vB more))], []⟩) (fun _ => True) ?_ ?_
   ·refine AC.seq (AC.region ?_)
    refine AL.p (by exact mv1 rfl) rfl ?_
    refine AL.nil (th_n ?_)
    refine AC.condB rfl (fun h1 => ?_) (fun h1 => ?_)
    ·refine AC.seq ?_
     obtain ⟨hgs, hE⟩ := hEx ‹X.2 = true›
     have htl := hs.tl
     have hg := hE.good htl
     have hn := hE.n
     obtain ⟨hg1, hg2⟩ : goodN s.net = true ∧ bitsB s.start s.net.places = true := by have h := hgs; simp only [goodS, Bool.and_eq_true] at h; exact h.1
     have hpl := good_places hg1
     refine AC.region ?_
     refine AL.p (by exact as1 rfl) rfl ?_
     refine AL.nil (th_n (AC.seq (AC.seq (AC.region ?_))))
     refine AL.p (by exact g_fa_ptr rfl rfl rfl rfl rfl) rfl ?_
     refine AL.p (by exact g_load_ptr rfl rfl rfl rfl rfl) rfl ?_
     refine AL.p (by exact g_len_view (k := X.1.marks.length) rfl rfl (tsX_len _)) rfl ?_
     refine AL.p (by exact mv1 rfl) rfl ?_
     refine AL.nil (th_n (AC.block ?_))
     refine AC.loop (ι := Nat) (fun k => ⟨300, 1100, [(1, .d (vB more)), (5, .ptr 202 0), (6, .ptr 200 0), (14, aI (untilL X.1 k)), (95, .d (.view 9 1 (tsX X.1.marks))), (96, aI X.1.marks.length), (97, aI k)], [(202, some (.cells 30 (stgCl s))), (200, some (.cells 35 (rgC X.1)))]⟩) (fun k => k ≤ X.1.marks.length) (fun k => X.1.marks.length - k) (0) ?_ (Nat.zero_le _) ?_
     ·exact Weak.ren _ [(202, 202), (200, 200)] hC rfl (by rw [until_zero hE]; repeat (first | exact True.intro | refine And.intro ?_ ?_ | exact DLead.same | exact rfl | refine ⟨_, rfl, ?_⟩)) (by repeat (first | exact True.intro | refine And.intro ?_ ?_ | exact DLead.same | exact rfl | refine ⟨_, _, rfl, rfl, ?_⟩ | refine ⟨_, rfl, ?_⟩ | refine ⟨_, _, rfl, ?_, ?_⟩)) rfl rfl rfl
     ·intro k hk
      refine AC.seq (AC.region ?_)
      refine AL.p (by exact g_cmp rfl rfl rfl) rfl ?_
      refine AL.nil (th_n (AC.seq ?_))
      refine AC.condD rfl (fun h2 => ?_) (fun h2 => ?_)
      ·refine AC.skip (th_n (AC.seq (AC.block (AC.seq ?_))))
       have hk1 : k < X.1.marks.length := by omega
       have hget := tsX_get hk1
       have hml := bits_len (hE.b _ (List.getElem_mem hk1))
       have hMk := iMarkIx_spec X.1 X.1.marks[k] (by omega) (by omega)
       rw [markIx_at hg hk1] at hMk
       have hEn := iEnabled_spec s.net X.1.marks[k] hB.n (by omega)
       rw [enR_at hE hgs hk1] at hEn
       have hMv := iMovesFrom_spec X.1 (k : Int) (by omega) (by omega) (by omega)
       rw [moves_at hE hg hk1] at hMv
       have hSh := iShortFS_spec X.1 (k : Int) (by omega) (by omega) (by omega)
       have hwl := wayR_len X.1 (k : Int) (by omega)
       rw [way_at hE hg hk1] at hSh hwl
       dsimp only at hwl
       have hstl := bits_len hg2
       have hFS := iFireSeq_spec s.net s.start (wayL X.1 k) hB.n (by omega) (by omega)
       have hQ := way_fire hE hgs hk1
       have hus := until_succ X.1 k
       have hul := until_le X.1 (k + 1)
       have hFi := fun (v : Mv) (hv : v ∈ fromL X.1 k) => fire_at hE hgs hk1 hv
       have hfl := fromL_le X.1 k
       obtain ⟨L, hL⟩ : ∃ L, L = fromL X.1 k := ⟨_, rfl⟩
       simp only [← hL] at hEn hMv hFi hus hfl
       obtain ⟨W, hW⟩ : ∃ W, W = wayL X.1 k := ⟨_, rfl⟩
       simp only [← hW] at hSh hFS hQ hwl
       obtain ⟨Q, hQQ⟩ : ∃ Q, Q = SeqI s.net s.start W := ⟨_, rfl⟩
       rw [← hQQ] at hFS hQ
       have hIF := fun t => iFire_spec s.net X.1.marks[k] t hB.n (by omega)
       obtain ⟨m, hmm⟩ : ∃ m, m = X.1.marks[k] := ⟨_, rfl⟩
       simp only [← hmm] at hget hMk hEn hQ hFi hIF
       clear hL hW hQQ hmm
       refine AC.region ?_
       refine AL.p (by exact mv1 rfl) rfl ?_
       refine AL.p (by exact g_ia_view rfl rfl rfl rfl rfl (by rfl) (by assumption)) rfl ?_
       refine AL.p (by exact g_load_ref rfl rfl rfl) rfl ?_
       refine AL.p (by exact as1 rfl) rfl ?_
       refine AL.p (by exact as1 rfl) rfl ?_
       refine AL.nil (th_n (AC.seq (AC.region ?_)))
       refine AL.p (by exact g_load_ptrN rfl rfl rfl rfl rfl) rfl ?_
       refine AL.p (by exact mv1 rfl) rfl ?_
       refine AL.q (by exact h_pure en_iMarkIx rfl rfl (by repeat (first | exact rfl | exact DLead.same | refine ⟨_, _, rfl, ?_, ?_⟩ | refine ⟨_, rfl, ?_⟩)) hMk rfl) rfl ?_
       refine AL.p (by exact mv5 rfl) rfl ?_
       refine AL.p (by exact g_extract (r := .d _) rfl rfl) rfl ?_
       refine AL.p (by exact g_extract (r := .d _) rfl rfl) rfl ?_
       refine AL.p (by exact as1 rfl) rfl ?_
       refine AL.p (by exact as1 rfl) rfl ?_
       refine AL.nil (th_n (AC.seq (AC.region ?_)))
       refine AL.p (by exact g_fa_ptr rfl rfl rfl rfl rfl) rfl ?_
       refine AL.p (by exact g_load_ptrN rfl rfl rfl rfl rfl) rfl ?_
       refine AL.p (by exact mv1 rfl) rfl ?_
       refine AL.q (by exact h_pure en_iEnabled rfl rfl (by repeat (first | exact rfl | exact DLead.same | refine ⟨_, _, rfl, ?_, ?_⟩ | refine ⟨_, rfl, ?_⟩)) hEn rfl) rfl ?_
       refine AL.p (by exact mv5 rfl) rfl ?_
       refine AL.p (by exact g_extract (r := .d _) rfl rfl) rfl ?_
       refine AL.p (by exact g_extract (r := .d _) rfl rfl) rfl ?_
       refine AL.p (by exact as1 rfl) rfl ?_
       refine AL.p (by exact as1 rfl) rfl ?_
       refine AL.nil (th_n (AC.seq (AC.region ?_)))
       refine AL.p (by exact g_load_ptrN rfl rfl rfl rfl rfl) rfl ?_
       refine AL.p (by exact mv1 rfl) rfl ?_
       refine AL.q (by exact h_pure en_iMovesFrom rfl rfl (by repeat (first | exact rfl | exact DLead.same | refine ⟨_, _, rfl, ?_, ?_⟩ | refine ⟨_, rfl, ?_⟩)) hMv rfl) rfl ?_
       refine AL.p (by exact mv5 rfl) rfl ?_
       refine AL.p (by exact g_extract (r := .d _) rfl rfl) rfl ?_
       refine AL.p (by exact g_extract (r := .d _) rfl rfl) rfl ?_
       refine AL.p (by exact as1 rfl) rfl ?_
       refine AL.p (by exact as1 rfl) rfl ?_
       refine AL.nil (th_n (AC.seq (AC.region ?_)))
       refine AL.p (by exact g_load_ptrN rfl rfl rfl rfl rfl) rfl ?_
       refine AL.p (by exact mv1 rfl) rfl ?_
       refine AL.q (by exact h_pure en_iShortFS rfl rfl (by repeat (first | exact rfl | exact DLead.same | refine ⟨_, _, rfl, ?_, ?_⟩ | refine ⟨_, rfl, ?_⟩)) hSh rfl) rfl ?_
       refine AL.p (by exact mv5 rfl) rfl ?_
       refine AL.p (by exact g_extract (r := .d _) rfl rfl) rfl ?_
       refine AL.p (by exact g_extract (r := .d _) rfl rfl) rfl ?_
       refine AL.p (by exact as1 rfl) rfl ?_
       refine AL.p (by exact as1 rfl) rfl ?_
       refine AL.nil (th_n (AC.seq (AC.region ?_)))
       refine AL.p (by exact g_fa_ptr rfl rfl rfl rfl rfl) rfl ?_
       refine AL.p (by exact g_load_ptrN rfl rfl rfl rfl rfl) rfl ?_
       refine AL.p (by exact g_fa_ptr rfl rfl rfl rfl rfl) rfl ?_
       refine AL.p (by exact g_load_ptr rfl rfl rfl rfl rfl) rfl ?_
       refine AL.p (by exact mv1 rfl) rfl ?_
       refine AL.q (by exact h_pure en_iFireSeq rfl rfl (by repeat (first | exact rfl | exact DLead.same | refine ⟨_, _, rfl, ?_, ?_⟩ | refine ⟨_, rfl, ?_⟩)) hFS rfl) rfl ?_
       refine AL.p (by exact mv5 rfl) rfl ?_
       refine AL.p (by exact g_extract (r := .d _) rfl rfl) rfl ?_
       refine AL.p (by exact g_extract (r := .d _) rfl rfl) rfl ?_
       refine AL.p (by exact g_extract (r := .d _) rfl rfl) rfl ?_
       refine AL.p (by exact as1 rfl) rfl ?_
       refine AL.p (by exact as1 rfl) rfl ?_
       refine AL.p (by exact as1 rfl) rfl ?_
       refine AL.nil (th_n ?_)
       refine AC.cut (fun (_ : Unit) => ⟨300, 1700, [(1, .d (vB more)), (5, .ptr 202 0), (6, .ptr 200 0), (14, aI (untilL X.1 k)), (16, aS (bstr m)), (19, .d (vI (L.map Mv.by_))), (21, .d (vMvs L)), (95, .d (.view 9 1 (tsX X.1.marks))), (96, aI X.1.marks.length), (97, aI k)], [(202, some (.cells 30 (stgCl s))), (200, some (.cells 35 (rgC X.1)))]⟩) (fun _ => True) ?_ ?_
       ·refine AC.seq ?_
        refine AC.weak (t := ⟨300, 1400, [(1, .d (vB more)), (5, .ptr 202 0), (6, .ptr 200 0), (14, aI (untilL X.1 k)), (15, aI k), (16, aS (bstr m)), (17, aI k), (18, aT true), (19, .d (vI (L.map Mv.by_))), (20, aT true), (21, .d (vMvs L)), (22, aT true), (23, .d (vI W)), (24, aT true), (25, aS (bstr Q.1)), (26, aI Q.2.1), (27, aT Q.2.2), (95, .d (.view 9 1 (tsX X.1.marks))), (96, aI X.1.marks.length), (97, aI k)], [(202, some (.cells 30 (stgCl s))), (200, some (.cells 35 (rgC X.1)))]⟩) (Weak.ren _ [(202, 202), (200, 200)] hC rfl (by repeat (first | exact True.intro | refine And.intro ?_ ?_ | exact DLead.same | exact rfl | refine ⟨_, rfl, ?_⟩)) (by repeat (first | exact True.intro | refine And.intro ?_ ?_ | exact DLead.same | exact rfl | refine ⟨_, _, rfl, rfl, ?_⟩ | refine ⟨_, rfl, ?_⟩ | refine ⟨_, _, rfl, ?_, ?_⟩)) rfl rfl rfl) ?_
        refine AC.region ?_
        refine AL.p (by exact mv1 rfl) rfl ?_
        refine AL.p (by exact g_not rfl) rfl ?_
        refine AL.p (by exact mv1 rfl) rfl ?_
        refine AL.yes rfl rfl rfl ?_
        refine AL.p (by exact mv1 rfl) rfl ?_
        refine AL.yes rfl rfl rfl ?_
        refine AL.p (by exact mv1 rfl) rfl ?_
        refine AL.yes rfl rfl rfl ?_
        refine AL.p (by exact g_neIr rfl rfl rfl) rfl ?_
        refine AL.p (by exact g_pickF (r := .d _) rfl rfl) rfl ?_
        refine AL.p (by exact mv1 rfl) rfl ?_
        refine AL.yes rfl rfl rfl ?_
        refine AL.p (by exact mv1 rfl) rfl ?_
        refine AL.yes rfl rfl rfl ?_
        refine AL.p (by exact g_not rfl) rfl ?_
        refine AL.p (by exact g_pickF (r := .d _) rfl rfl) rfl ?_
        refine AL.p (by exact mv1 rfl) rfl ?_
        refine AL.yes rfl rfl rfl ?_
        refine AL.p (by exact mv1 rfl) rfl ?_
        refine AL.yes rfl rfl rfl ?_
        refine AL.p (by exact g_not rfl) rfl ?_
        refine AL.p (by exact g_pickF (r := .d _) rfl rfl) rfl ?_
        refine AL.p (by exact mv1 rfl) rfl ?_
        refine AL.yes rfl rfl rfl ?_
        refine AL.p (by exact mv1 rfl) rfl ?_
        refine AL.yes rfl rfl rfl ?_
        refine AL.p (by exact g_len_view (k := L.length) rfl rfl (mvL_len _)) rfl ?_
        refine AL.yes rfl rfl rfl ?_
        refine AL.p (by exact mv1 rfl) rfl ?_
        refine AL.yes rfl rfl rfl ?_
        refine AL.p (by exact g_len_view (k := L.length) rfl rfl (by rw [ints_len, List.length_map])) rfl ?_
        refine AL.yes rfl rfl rfl ?_
        refine AL.p (by exact g_neIr rfl rfl rfl) rfl ?_
        refine AL.p (by exact g_pickF (r := .d _) rfl rfl) rfl ?_
        refine AL.p (by exact mv1 rfl) rfl ?_
        refine AL.yes rfl rfl rfl ?_
        refine AL.p (by exact mv1 rfl) rfl ?_
        refine AL.yes rfl rfl rfl ?_
        refine AL.p (by exact g_not rfl) rfl ?_
        refine AL.p (by exact g_pickF (r := .d _) rfl rfl) rfl ?_
        refine AL.p (by exact mv1 rfl) rfl ?_
        refine AL.yes rfl rfl rfl ?_
        refine AL.p (by exact mv1 rfl) rfl ?_
        refine AL.yes rfl rfl rfl ?_
        refine AL.p (by exact g_len_view (k := W.length) rfl rfl (ints_len _)) rfl ?_
        refine AL.yes rfl rfl rfl ?_
        refine AL.p (by exact g_cmp rfl rfl rfl) rfl ?_
        refine AL.yes rfl rfl rfl ?_
        refine AL.p (by exact mv1 rfl) rfl ?_
        refine AL.caseG rfl rfl (fun h3 => ?_) (fun h3 => ?_)
        ·refine AL.yes rfl rfl rfl ?_
         (have hq := hQ (by omega); subst hq)
         refine AL.p (by exact mv1 rfl) rfl ?_
         refine AL.yes rfl rfl rfl ?_
         refine AL.p (by exact g_not rfl) rfl ?_
         refine AL.yes rfl rfl rfl ?_
         refine AL.p (by exact mv1 rfl) rfl ?_
         refine AL.yes rfl rfl rfl ?_
         refine AL.p (by exact mv1 rfl) rfl ?_
         refine AL.yes rfl rfl rfl ?_
         refine AL.p (by exact mv1 rfl) rfl ?_
         refine AL.yes rfl rfl rfl ?_
         refine AL.p (by exact g_neSr rfl rfl rfl) rfl ?_
         refine AL.yes rfl rfl rfl ?_
         refine AL.p (by exact g_pickF (r := .d _) rfl rfl) rfl ?_
         refine AL.yes rfl rfl rfl ?_
         refine AL.p (by exact mv1 rfl) rfl ?_
         refine AL.yes rfl rfl rfl ?_
         refine AL.p (by exact mv1 rfl) rfl ?_
         refine AL.yes rfl rfl rfl ?_
         refine AL.p (by exact mv1 rfl) rfl ?_
         refine AL.yes rfl rfl rfl ?_
         refine AL.p (by exact g_len_view (k := W.length) rfl rfl (ints_len _)) rfl ?_
         refine AL.yes rfl rfl rfl ?_
         refine AL.p (by exact g_neIr rfl rfl rfl) rfl ?_
         refine AL.yes rfl rfl rfl ?_
         refine AL.p (by exact g_pickF (r := .d _) rfl rfl) rfl ?_
         refine AL.yes rfl rfl rfl ?_
         refine AL.p (by exact g_pickT (r := .d _) rfl rfl) rfl ?_
         refine AL.p (by exact g_pickF (r := .d _) rfl rfl) rfl ?_
         refine AL.nil (th_n ?_)
         refine AC.condF rfl ?_
         refine AC.skip (th_n ?_)
         exact ⟨(), trivial, Weak.ren _ [(202, 202), (200, 200)] hC rfl (by repeat (first | exact True.intro | refine And.intro ?_ ?_ | exact DLead.same | exact rfl | refine ⟨_, rfl, ?_⟩)) (by repeat (first | exact True.intro | refine And.intro ?_ ?_ | exact DLead.same | exact rfl | refine ⟨_, _, rfl, rfl, ?_⟩ | refine ⟨_, rfl, ?_⟩ | refine ⟨_, _, rfl, ?_, ?_⟩)) rfl rfl rfl⟩
        ·refine AL.not rfl rfl rfl rfl rfl ?_
         refine AL.not rfl rfl rfl rfl rfl ?_
         refine AL.not rfl rfl rfl rfl rfl ?_
         refine AL.notU rfl rfl rfl ?_
         refine AL.notU rfl rfl rfl ?_
         refine AL.notU rfl rfl rfl ?_
         refine AL.not rfl rfl rfl rfl rfl ?_
         refine AL.not rfl rfl rfl rfl rfl ?_
         refine AL.notU rfl rfl rfl ?_
         refine AL.notU rfl rfl rfl ?_
         refine AL.notU rfl rfl rfl ?_
         refine AL.notU rfl rfl rfl ?_
         refine AL.not rfl rfl rfl rfl rfl ?_
         refine AL.yes rfl rfl rfl ?_
         refine AL.p (by exact g_pickF (r := .d _) rfl rfl) rfl ?_
         refine AL.p (by exact g_pickF (r := .d _) rfl rfl) rfl ?_
         refine AL.nil (th_n ?_)
         refine AC.condF rfl ?_
         refine AC.skip (th_n ?_)
         exact ⟨(), trivial, Weak.ren _ [(202, 202), (200, 200)] hC rfl (by repeat (first | exact True.intro | refine And.intro ?_ ?_ | exact DLead.same | exact rfl | refine ⟨_, rfl, ?_⟩)) (by repeat (first | exact True.intro | refine And.intro ?_ ?_ | exact DLead.same | exact rfl | refine ⟨_, _, rfl, rfl, ?_⟩ | refine ⟨_, rfl, ?_⟩ | refine ⟨_, _, rfl, ?_, ?_⟩)) rfl rfl rfl⟩
       ·intro _ _
        refine AC.seq (AC.seq (AC.region ?_))
        refine AL.p (by exact mv1 rfl) rfl ?_
        refine AL.p (by exact g_len_view (k := L.length) rfl rfl (mvL_len _)) rfl ?_
        refine AL.p (by exact mv1 rfl) rfl ?_
        refine AL.nil (th_n (AC.block ?_))
        refine AC.loop (ι := Nat) (fun i => ⟨300, 1900, [(1, .d (vB more)), (5, .ptr 202 0), (6, .ptr 200 0), (14, aI (untilL X.1 k)), (16, aS (bstr m)), (19, .d (vI (L.map Mv.by_))), (21, .d (vMvs L)), (95, .d (.view 9 1 (tsX X.1.marks))), (96, aI X.1.marks.length), (97, aI k), (183, .d (vMvs L)), (184, aI L.length), (185, aI i)], [(202, some (.cells 30 (stgCl s))), (200, some (.cells 35 (rgC X.1)))]⟩) (fun i => i ≤ L.length) (fun i => L.length - i) (0) ?_ (Nat.zero_le _) ?_
        ·exact Weak.ren _ [(202, 202), (200, 200)] hC rfl (by repeat (first | exact True.intro | refine And.intro ?_ ?_ | exact DLead.same | exact rfl | refine ⟨_, rfl, ?_⟩)) (by repeat (first | exact True.intro | refine And.intro ?_ ?_ | exact DLead.same | exact rfl | refine ⟨_, _, rfl, rfl, ?_⟩ | refine ⟨_, rfl, ?_⟩ | refine ⟨_, _, rfl, ?_, ?_⟩)) rfl rfl rfl
        ·intro i hi
         refine AC.seq (AC.region ?_)
         refine AL.p (by exact g_cmp rfl rfl rfl) rfl ?_
         refine AL.nil (th_n (AC.seq ?_))
         refine AC.condD rfl (fun h3 => ?_) (fun h3 => ?_)
         ·refine AC.skip (th_n (AC.seq (AC.block (AC.seq ?_))))
          have hi1 : i < L.length := by omega
          have hgv := mvL_get hi1
          have hgb : (ints (L.map Mv.by_))[i]? = some [dI L[i].by_] := by rw [List.getElem?_map, List.getElem?_map, List.getElem?_eq_getElem hi1]; rfl
          obtain ⟨t, ht, hto, hft⟩ := hFi _ (List.getElem_mem hi1)
          have hIF2 := hIF L[i].by_
          rw [hft] at hIF2
          have hgt := tsX_get ht
          obtain ⟨v, hv⟩ : ∃ v, v = L[i] := ⟨_, rfl⟩
          simp only [← hv] at hgv hgb hto hIF2
          rw [hto] at hgv
          obtain ⟨u, hu⟩ : ∃ u, u = X.1.marks[t] := ⟨_, rfl⟩
          rw [← hu] at hIF2 hgt
          clear hu hv hft
          refine AC.region ?_
          refine AL.p (by exact mv1 rfl) rfl ?_
          refine AL.p (by exact g_ia_view rfl rfl rfl rfl rfl (by rfl) (by assumption)) rfl ?_
          refine AL.p (by exact g_load_refN rfl rfl rfl rfl) rfl ?_
          refine AL.q (by exact h_alloc rfl) rfl ?_
          refine AL.p (by exact as1 rfl) rfl ?_
          refine AL.q (by exact h_store rfl rfl rfl rfl rfl rfl) rfl ?_
          refine AL.nil (th_n (AC.seq ?_))
          refine AC.drawn' mixed_ok [[], [0], [], [], [], [3,4], [3,4,5], [0,1,2,3,4,5,6], [0,1,2,3,4,5,6,7], [0,1,2,3,4,5,6,7,8], [0,1,2,3,4,5,6,7,8], [0,1,2,3,4,5,6,7,8,9], [0,1,2,3,4,5,6,7,8,9,10,11]] (by decide) ?_
          refine DF.op 0 [] 13 rfl rfl rfl (.free rfl (NOp.of (by exact g_fa_ptr rfl rfl rfl rfl rfl))) rfl ?_
          refine DF.op 1 [0] 13 rfl rfl rfl (.free rfl (NOp.of (by exact g_load_ptrN rfl rfl rfl rfl rfl))) rfl ?_
          refine DF.op 2 [] 13 rfl rfl rfl (.free rfl (NOp.of (by exact mv1 rfl))) rfl ?_
          refine DF.op 3 [] 13 rfl rfl rfl (.free rfl (NOp.of (by exact mv1 rfl))) rfl ?_
          refine DF.op 4 [] 13 rfl rfl rfl (.free rfl (NOp.of (by exact mv1 rfl))) rfl ?_
          refine DF.op 5 [3,4] 13 rfl rfl rfl (.free rfl (NOp.of (by exact g_ia_view (i := i) rfl rfl rfl rfl rfl rfl hgb))) rfl ?_
          refine DF.op 6 [3,4,5] 13 rfl rfl rfl (.free rfl (NOp.of (by exact g_load_ref rfl rfl rfl))) rfl ?_
          refine DF.op 7 [0,1,2,3,4,5,6] 13 rfl rfl rfl (.free rfl (by exact h_pure en_iFire rfl rfl (by repeat (first | exact rfl | exact DLead.same | refine ⟨_, _, rfl, ?_, ?_⟩ | refine ⟨_, rfl, ?_⟩)) hIF2 rfl)) rfl ?_
          refine DF.op 8 [0,1,2,3,4,5,6,7] 13 rfl rfl rfl (.free rfl (NOp.of (by exact mv5 rfl))) rfl ?_
          refine DF.op 9 (List.range 9) 13 rfl rfl rfl (.free rfl (NOp.of (by exact g_extract (r := .d _) rfl rfl))) rfl ?_
          refine DF.op 10 (List.range 9) 13 rfl rfl rfl (.free rfl (NOp.of (by exact g_extract (r := .d _) rfl rfl))) rfl ?_
          refine DF.op 11 (List.range 10) 13 rfl rfl rfl (.free rfl (NOp.of (by exact as1 rfl))) rfl ?_
          refine DF.op 12 (List.range 12) 13 rfl rfl rfl (.free rfl (NOp.of (by exact as1 rfl))) rfl ?_
          refine DF.fin (ps := [(0,2),(0,3),(0,4),(0,5),(0,6),(1,2),(1,3),(1,4),(1,5),(1,6),(2,0),(2,1),(2,3),(2,4),(2,5),(2,6),(3,0),(3,1),(3,2),(3,4),(4,0),(4,1),(4,2),(4,3),(5,0),(5,1),(5,2),(6,0),(6,1),(6,2),(9,10),(10,9),(10,11),(11,10)]) 13 rfl (by decide +kernel) (by decide +kernel) (by rfl) ?_
          refine th_n (AC.seq ?_)
          refine AC.drawn' mixed_ok [[], [0], [], [], [2,3], [2,3,4], [0,1,2,3,4,5], [0,1,2,3,4,5,6], [0,1,2,3,4,5,6,7], [0,1,2,3,4,5,6,7,8], [0,1,2,3,4,5,6,7,8,9], [0,1,2,3,4,5,6,7,8,9,10], [0,1,2,3,4,5,6,7,8,9,10,11], [0,1,2,3,4,5,6,7,8,9,10,11,12], [0,1,2,3,4,5,6,7,8,9,10,11,12,13], [0,1,2,3,4,5,6,7,8,9,10,11,12], [0,1,2,3,4,5,6,7,8,9,10,11,12,15], [0,1,2,3,4,5,6,7,8,9,10,11,12,15,16], [0,1,2,3,4,5,6,7,8,9,10,11,12,13,14,15,16,17], [0,1,2,3,4,5,6,7,8,9,10,11,12,13,14,15,16,17,18], [0,1,2,3,4,5,6,7,8,9,10,11,12,13,14,15,16,17,18,19], [0,1,2,3,4,5,6,7,8,9,10,11,12,13,14,15,16,17,18,19,20], [0,1,2,3,4,5,6,7,8,9,10,11,12,13,14,15,16,17,18,19,20,21], [0,1,2,3,4,5,6,7,8,9,10,11,12,13,14,15,16,17,18,19,20,21,22], [0,1,2,3,4,5,6,7,8,9,10,11,12,13,14,15,16,17,18,19,20,21,22,23], [0,1,2,3,4,5,6,7,8,9,10,11,12,13,14,15,16,17,18,19,20,21,22,23,24], [0,1,2,3,4,5,6,7,8,9,10,11,12,13,14,15,16,17,18,19,20,21,22,23,24], [0,1,2,3,4,5,6,7,8,9,10,11,12,13,14,15,16,17,18,19,20,21,22,23,24,26], [0,1,2,3,4,5,6,7,8,9,10,11,12,13,14,15,16,17,18,19,20,21,22,23,24], [0,1,2,3,4,5,6,7,8,9,10,11,12,13,14,15,16,17,18,19,20,21,22,23,24,28], [0,1,2,3,4,5,6,7,8,9,10,11,12,13,14,15,16,17,18,19,20,21,22,23,24,26,27,28,29], [0,1,2,3,4,5,6,7,8,9,10,11,12,13,14,15,16,17,18,19,20,21,22,23,24,26,27,28,29,30], [0,1,2,3,4,5,6,7,8,9,10,11,12,13,14,15,16,17,18,19,20,21,22,23,24,25,26,27,28,29,30,31], [0,1,2,3,4,5,6,7,8,9,10,11,12,13,14,15,16,17,18,19,20,21,22,23,24,25,26,27,28,29,30,31,32]] (by decide) ?_
          refine DF.op 0 [] 34 rfl rfl rfl (.free rfl (NOp.of (by exact g_fa_ptr rfl rfl rfl rfl rfl))) rfl ?_
          refine DF.op 1 [0] 34 rfl rfl rfl (.free rfl (NOp.of (by exact g_load_ptr rfl rfl rfl rfl rfl))) rfl ?_
          refine DF.op 2 [] 34 rfl rfl rfl (.free rfl (NOp.of (by exact mv1 rfl))) rfl ?_
          refine DF.op 3 [] 34 rfl rfl rfl (.free rfl (NOp.of (by exact mv1 rfl))) rfl ?_
          refine DF.op 4 [2,3] 34 rfl rfl rfl (.free rfl (NOp.of (by exact g_ia_view (i := i) rfl rfl rfl rfl rfl rfl hgb))) rfl ?_
          refine DF.op 5 [2,3,4] 34 rfl rfl rfl (.free rfl (NOp.of (by exact g_load_ref rfl rfl rfl))) rfl ?_
          refine DF.op 6 [0,1,2,3,4,5] 34 rfl rfl rfl (.free rfl (NOp.of (by exact g_neIr rfl rfl rfl))) rfl ?_
          refine DF.op 7 [0,1,2,3,4,5,6] 34 rfl rfl rfl (.free rfl (NOp.of (by exact mv1 rfl))) rfl ?_
          refine DF.op 8 [0,1,2,3,4,5,6,7] 34 rfl rfl rfl (.yes rfl rfl rfl rfl (NOp.of (by exact g_fa_ptr rfl rfl rfl rfl rfl))) rfl ?_
          refine DF.op 9 (List.range 9) 34 rfl rfl rfl (.yes rfl rfl rfl rfl (NOp.of (by exact g_load_ptr rfl rfl rfl rfl rfl))) rfl ?_
          refine DF.op 10 (List.range 10) 34 rfl rfl rfl (.yes rfl rfl rfl rfl (NOp.of (by exact g_ltF rfl rfl (by omega)))) rfl ?_
          refine DF.op 11 (List.range 11) 34 rfl rfl rfl (.free rfl (NOp.of (by exact g_pickF (r := .d _) rfl rfl))) rfl ?_
          refine DF.op 12 (List.range 12) 34 rfl rfl rfl (.free rfl (NOp.of (by exact mv1 rfl))) rfl ?_
          refine DF.op 13 (List.range 13) 34 rfl rfl rfl (.yes rfl rfl rfl rfl (NOp.of (by exact g_fa_ptr rfl rfl rfl rfl rfl))) rfl ?_
          refine DF.op 14 (List.range 14) 34 rfl rfl rfl (.yes rfl rfl rfl rfl (NOp.of (by exact g_load_ptr rfl rfl rfl rfl rfl))) rfl ?_
          refine DF.op 15 (List.range 13) 34 rfl rfl rfl (.yes rfl rfl rfl rfl (NOp.of (by exact g_fa_ptr rfl rfl rfl rfl rfl))) rfl ?_
          refine DF.op 16 [0,1,2,3,4,5,6,7,8,9,10,11,12,15] 34 rfl rfl rfl (.yes rfl rfl rfl rfl (NOp.of (by exact g_load_ptr rfl rfl rfl rfl rfl))) rfl ?_
          refine DF.op 17 [0,1,2,3,4,5,6,7,8,9,10,11,12,15,16] 34 rfl rfl rfl (.yes rfl rfl rfl rfl (NOp.of (by exact g_len_view (k := X.1.marks.length) rfl rfl (tsX_len _)))) rfl ?_
          refine DF.op 18 (List.range 18) 34 rfl rfl rfl (.yes rfl rfl rfl rfl (NOp.of (by exact g_geF rfl rfl (by omega)))) rfl ?_
          refine DF.op 19 (List.range 19) 34 rfl rfl rfl (.free rfl (NOp.of (by exact g_pickF (r := .d _) rfl rfl))) rfl ?_
          refine DF.op 20 (List.range 20) 34 rfl rfl rfl (.free rfl (NOp.of (by exact mv1 rfl))) rfl ?_
          refine DF.op 21 (List.range 21) 34 rfl rfl rfl (.yes rfl rfl rfl rfl (NOp.of (by exact mv1 rfl))) rfl ?_
          refine DF.op 22 (List.range 22) 34 rfl rfl rfl (.yes rfl rfl rfl rfl (NOp.of (by exact g_not rfl))) rfl ?_
          refine DF.op 23 (List.range 23) 34 rfl rfl rfl (.free rfl (NOp.of (by exact g_pickF (r := .d _) rfl rfl))) rfl ?_
          refine DF.op 24 (List.range 24) 34 rfl rfl rfl (.free rfl (NOp.of (by exact mv1 rfl))) rfl ?_
          refine DF.op 25 (List.range 25) 34 rfl rfl rfl (.yes rfl rfl rfl rfl (NOp.of (by exact mv1 rfl))) rfl ?_
          refine DF.op 26 (List.range 25) 34 rfl rfl rfl (.yes rfl rfl rfl rfl (NOp.of (by exact g_fa_ptr rfl rfl rfl rfl rfl))) rfl ?_
          refine DF.op 27 [0,1,2,3,4,5,6,7,8,9,10,11,12,13,14,15,16,17,18,19,20,21,22,23,24,26] 34 rfl rfl rfl (.yes rfl rfl rfl rfl (NOp.of (by exact g_load_ptr rfl rfl rfl rfl rfl))) rfl ?_
          refine DF.op 28 (List.range 25) 34 rfl rfl rfl (.yes rfl rfl rfl rfl (NOp.of (by exact g_fa_ptr rfl rfl rfl rfl rfl))) rfl ?_
          refine DF.op 29 [0,1,2,3,4,5,6,7,8,9,10,11,12,13,14,15,16,17,18,19,20,21,22,23,24,28] 34 rfl rfl rfl (.yes rfl rfl rfl rfl (NOp.of (by exact g_load_ptr rfl rfl rfl rfl rfl))) rfl ?_
          refine DF.op 30 [0,1,2,3,4,5,6,7,8,9,10,11,12,13,14,15,16,17,18,19,20,21,22,23,24,26,27,28,29] 34 rfl rfl rfl (.yes rfl rfl rfl rfl (NOp.of (by exact g_ia_view (i := t) rfl rfl rfl rfl rfl rfl hgt))) rfl ?_
          refine DF.op 31 [0,1,2,3,4,5,6,7,8,9,10,11,12,13,14,15,16,17,18,19,20,21,22,23,24,26,27,28,29,30] 34 rfl rfl rfl (.yes rfl rfl rfl rfl (NOp.of (by exact g_load_ref rfl rfl rfl))) rfl ?_
          refine DF.op 32 (List.range 32) 34 rfl rfl rfl (.yes rfl rfl rfl rfl (NOp.of (by exact g_neSr rfl rfl rfl))) rfl ?_
          refine DF.op 33 (List.range 33) 34 rfl rfl rfl (.free rfl (NOp.of (by exact g_pickF (r := .d _) rfl rfl))) rfl ?_
          refine DF.fin (ps := [(0,2),(0,3),(0,4),(0,5),(1,2),(1,3),(1,4),(1,5),(2,0),(2,1),(2,3),(3,0),(3,1),(3,2),(4,0),(4,1),(5,0),(5,1),(13,15),(13,16),(13,17),(14,15),(14,16),(14,17),(15,13),(15,14),(16,13),(16,14),(17,13),(17,14),(25,26),(25,27),(25,28),(25,29),(25,30),(25,31),(26,25),(26,28),(26,29),(27,25),(27,28),(27,29),(28,25),(28,26),(28,27),(29,25),(29,26),(29,27),(30,25),(31,25)]) 34 rfl (by decide +kernel) (by decide +kernel) (by rfl) ?_
          refine th_n ?_
          refine AC.condF rfl ?_
          refine AC.skip (ib_n (th_n (AC.region ?_)))
          refine AL.p (by exact g_arith rfl rfl rfl (by exact wrap_i64 (by omega))) rfl ?_
          refine AL.p (by exact mv1 rfl) rfl ?_
          refine AL.nil (th_n ?_)
          exact ⟨i + 1, by omega, by omega, Weak.ren _ [(202, 202), (200, 200)] hC rfl (by repeat (first | exact True.intro | refine And.intro ?_ ?_ | exact DLead.same | exact rfl | refine ⟨_, rfl, ?_⟩)) (by repeat (first | exact True.intro | refine And.intro ?_ ?_ | exact DLead.same | exact rfl | refine ⟨_, _, rfl, rfl, ?_⟩ | refine ⟨_, rfl, ?_⟩ | refine ⟨_, _, rfl, ?_, ?_⟩)) rfl rfl rfl⟩
         ·refine AC.exit (th_e (th_e (ib_y (th_n (AC.region ?_)))))
          refine AL.p (by exact mv1 rfl) rfl ?_
          refine AL.p (by exact mv1 rfl) rfl ?_
          refine AL.p (by exact g_len_view (k := L.length) rfl rfl (mvL_len _)) rfl ?_
          refine AL.p (by exact g_arith rfl rfl rfl (by exact wrap_i64 (by omega))) rfl ?_
          refine AL.p (by exact as1 rfl) rfl ?_
          refine AL.nil (ib_n (th_n (AC.region ?_)))
          refine AL.p (by exact g_arith rfl rfl rfl (by exact wrap_i64 (by omega))) rfl ?_
          refine AL.p (by exact mv1 rfl) rfl ?_
          refine AL.nil (th_n ?_)
          exact ⟨k + 1, by omega, by omega, Weak.ren _ [(202, 202), (200, 200)] hC rfl (by rw [hus]; repeat (first | exact True.intro | refine And.intro ?_ ?_ | exact DLead.same | exact rfl | refine ⟨_, rfl, ?_⟩)) (by repeat (first | exact True.intro | refine And.intro ?_ ?_ | exact DLead.same | exact rfl | refine ⟨_, _, rfl, rfl, ?_⟩ | refine ⟨_, rfl, ?_⟩ | refine ⟨_, _, rfl, ?_, ?_⟩)) rfl rfl rfl⟩
      ·refine AC.exit (th_e (th_e (ib_y (th_n (AC.seq ?_)))))
       have hkk : k = X.1.marks.length := by omega
       have hua := until_all hE
       rw [← hkk] at hua
       rw [hua]
       refine AC.region ?_
       refine AL.p (by exact mv1 rfl) rfl ?_
       refine AL.p (by exact g_fa_ptr rfl rfl rfl rfl rfl) rfl ?_
       refine AL.p (by exact g_load_ptr rfl rfl rfl rfl rfl) rfl ?_
       refine AL.p (by exact g_len_view (k := X.1.moves.length) rfl rfl (mvL_len _)) rfl ?_
       refine AL.p (by exact g_neIr rfl rfl rfl) rfl ?_
       refine AL.nil (th_n ?_)
       refine AC.condF rfl ?_
       refine AC.skip (th_n ?_)
       exact ⟨(), trivial, Weak.ren _ [] hC rfl (by repeat (first | exact True.intro | refine And.intro ?_ ?_ | exact DLead.same)) (by repeat (exact True.intro)) rfl rfl rfl⟩
    ·refine AC.skip (th_n ?_)
     exact ⟨(), trivial, Weak.ren _ [] hC rfl (by repeat (first | exact True.intro | refine And.intro ?_ ?_ | exact DLead.same)) (by repeat (exact True.intro)) rfl rfl rfl⟩
   ·intro _ _
    refine AC.seq (AC.region ?_)
    refine AL.p (by exact mv1 rfl) rfl ?_
    refine AL.r (by exact h_funR (cs := []) en_sDrawShortFS rfl rfl (by repeat (first | exact rfl | exact DLead.same | refine ⟨_, _, rfl, ?_, ?_⟩)) (by repeat (exact True.intro)) hD2 rfl rfl rfl) rfl ?_
    rintro _ ⟨_, _, ⟨x, k, ⟨hx, hk⟩, rfl, rfl⟩, rfl⟩
    refine AL.p (by exact mv5 rfl) rfl ?_
    refine AL.p (by exact g_extract (r := .agg _) rfl rfl) rfl ?_
    refine AL.p (by exact g_extract (r := .d _) rfl rfl) rfl ?_
    refine AL.q (by exact h_alloc rfl) rfl ?_
    refine AL.q (by exact h_store rfl rfl rfl rfl rfl rfl) rfl ?_
    refine AL.p (by exact as1 rfl) rfl ?_
    refine AL.nil (th_n (AC.seq ?_))
    have hxn := hx.n
    have hxl := hx.l
    have hS1 := iShortFS_spec x k (by omega) (by omega) (by omega)
    have hS2 := sShortFS_spec x k (by omega) (by omega) (by omega)
    have hwl := wayR_len x k (by omega)
    obtain ⟨W, hW⟩ : ∃ W, W = wayR x k := ⟨_, rfl⟩
    rw [← hW] at hS1 hS2 hwl
    have hSI := sameInts_spec W.1 W.1 (by omega) (by omega)
    rw [decide_eq_true rfl] at hSI
    clear hW
    refine AC.region ?_
    refine AL.p (by exact g_load_ptrN rfl rfl rfl rfl rfl) rfl ?_
    refine AL.p (by exact mv1 rfl) rfl ?_
    refine AL.q (by exact h_pure en_iShortFS rfl rfl (by repeat (first | exact rfl | exact DLead.same | refine ⟨_, _, rfl, ?_, ?_⟩ | refine ⟨_, rfl, ?_⟩)) hS1 rfl) rfl ?_
    refine AL.p (by exact mv5 rfl) rfl ?_
    refine AL.p (by exact g_extract (r := .d _) rfl rfl) rfl ?_
    refine AL.p (by exact g_extract (r := .d _) rfl rfl) rfl ?_
    refine AL.p (by exact as1 rfl) rfl ?_
    refine AL.p (by exact as1 rfl) rfl ?_
    refine AL.nil (th_n (AC.seq (AC.region ?_)))
    refine AL.p (by exact g_load_ptrN rfl rfl rfl rfl rfl) rfl ?_
    refine AL.p (by exact mv1 rfl) rfl ?_
    refine AL.q (by exact h_pure en_sShortFS rfl rfl (by repeat (first | exact rfl | exact DLead.same | refine ⟨_, _, rfl, ?_, ?_⟩ | refine ⟨_, rfl, ?_⟩)) hS2 rfl) rfl ?_
    refine AL.p (by exact mv5 rfl) rfl ?_
    refine AL.p (by exact g_extract (r := .d _) rfl rfl) rfl ?_
    refine AL.p (by exact g_extract (r := .d _) rfl rfl) rfl ?_
    refine AL.p (by exact as1 rfl) rfl ?_
    refine AL.p (by exact as1 rfl) rfl ?_
    refine AL.nil (th_n (AC.seq ?_))
    refine AC.weak (t := ⟨300, 3300, [(1, .d (vB more)), (34, .d (vI W.1)), (35, aT W.2), (36, .d (vI W.1)), (37, aT W.2)], []⟩) (Weak.ren _ [] hC rfl (by repeat (first | exact True.intro | refine And.intro ?_ ?_ | exact DLead.same)) (by repeat (exact True.intro)) rfl rfl rfl) ?_
    refine AC.region ?_
    refine AL.p (by exact mv1 rfl) rfl ?_
    refine AL.r (by exact h_funR (cs := []) en_sDrawMovesFrom rfl rfl (by repeat (first | exact rfl | exact DLead.same | refine ⟨_, _, rfl, ?_, ?_⟩)) (by repeat (exact True.intro)) hD3 rfl rfl rfl) rfl ?_
    rintro _ ⟨_, _, ⟨y, j, ⟨hy, hj⟩, rfl, rfl⟩, rfl⟩
    refine AL.p (by exact mv5 rfl) rfl ?_
    refine AL.p (by exact g_extract (r := .agg _) rfl rfl) rfl ?_
    refine AL.p (by exact g_extract (r := .d _) rfl rfl) rfl ?_
    refine AL.q (by exact h_alloc rfl) rfl ?_
    refine AL.q (by exact h_store rfl rfl rfl rfl rfl rfl) rfl ?_
    refine AL.p (by exact as1 rfl) rfl ?_
    refine AL.nil (th_n (AC.seq ?_))
    have hyn := hy.n
    have hyl := hy.l
    have hM1 := iMovesFrom_spec y j (by omega) (by omega) (by omega)
    have hM2 := sMovesFrom_spec y j (by omega) (by omega) (by omega)
    obtain ⟨V, hV⟩ : ∃ V, V = movesR y j := ⟨_, rfl⟩
    rw [← hV] at hM1 hM2
    have hVl : V.1.length ≤ 10000 := by rw [hV]; unfold movesR; split; (exact Nat.le_trans (List.length_filter_le ..) hyl); exact Nat.zero_le _
    clear hV
    refine AC.region ?_
    refine AL.p (by exact g_load_ptrN rfl rfl rfl rfl rfl) rfl ?_
    refine AL.p (by exact mv1 rfl) rfl ?_
    refine AL.q (by exact h_pure en_iMovesFrom rfl rfl (by repeat (first | exact rfl | exact DLead.same | refine ⟨_, _, rfl, ?_, ?_⟩ | refine ⟨_, rfl, ?_⟩)) hM1 rfl) rfl ?_
    refine AL.p (by exact mv5 rfl) rfl ?_
    refine AL.p (by exact g_extract (r := .d _) rfl rfl) rfl ?_
    refine AL.p (by exact g_extract (r := .d _) rfl rfl) rfl ?_
    refine AL.p (by exact as1 rfl) rfl ?_
    refine AL.p (by exact as1 rfl) rfl ?_
    refine AL.nil (th_n (AC.seq (AC.region ?_)))
    refine AL.p (by exact g_load_ptrN rfl rfl rfl rfl rfl) rfl ?_
    refine AL.p (by exact mv1 rfl) rfl ?_
    refine AL.q (by exact h_pure en_sMovesFrom rfl rfl (by repeat (first | exact rfl | exact DLead.same | refine ⟨_, _, rfl, ?_, ?_⟩ | refine ⟨_, rfl, ?_⟩)) hM2 rfl) rfl ?_
    refine AL.p (by exact mv5 rfl) rfl ?_
    refine AL.p (by exact g_extract (r := .d _) rfl rfl) rfl ?_
    refine AL.p (by exact g_extract (r := .d _) rfl rfl) rfl ?_
    refine AL.p (by exact as1 rfl) rfl ?_
    refine AL.p (by exact as1 rfl) rfl ?_
    refine AL.nil (th_n (AC.seq ?_))
    refine AC.weak (t := ⟨300, 3600, [(34, .d (vI W.1)), (35, aT W.2), (36, .d (vI W.1)), (37, aT W.2), (40, .d (vMvs V.1)), (41, aT V.2), (42, .d (vMvs V.1)), (43, aT V.2)], []⟩) (Weak.ren _ [] hC rfl (by repeat (first | exact True.intro | refine And.intro ?_ ?_ | exact DLead.same)) (by repeat (exact True.intro)) rfl rfl rfl) ?_
    refine AC.region ?_
    refine AL.p (by exact mv1 rfl) rfl ?_
    refine AL.p (by exact mv1 rfl) rfl ?_
    refine AL.p (by exact g_eqBr rfl rfl rfl) rfl ?_
    refine AL.p (by exact mv1 rfl) rfl ?_
    refine AL.yes rfl rfl rfl ?_
    refine AL.p (by exact mv1 rfl) rfl ?_
    refine AL.yes rfl rfl rfl ?_
    refine AL.p (by exact mv1 rfl) rfl ?_
    refine AL.yes rfl rfl rfl ?_
    refine AL.q (by exact h_pure en_sameInts rfl rfl (by repeat (first | exact rfl | exact DLead.same | refine ⟨_, _, rfl, ?_, ?_⟩)) hSI rfl) rfl ?_
    refine AL.p (by exact g_pickT (r := .d _) rfl rfl) rfl ?_
    refine AL.p (by exact mv1 rfl) rfl ?_
    refine AL.yes rfl rfl rfl ?_
    refine AL.p (by exact mv1 rfl) rfl ?_
    refine AL.yes rfl rfl rfl ?_
    refine AL.p (by exact mv1 rfl) rfl ?_
    refine AL.yes rfl rfl rfl ?_
    refine AL.p (by exact g_eqBr rfl rfl rfl) rfl ?_
    refine AL.p (by exact g_pickT (r := .d _) rfl rfl) rfl ?_
    refine AL.p (by exact mv1 rfl) rfl ?_
    refine AL.yes rfl rfl rfl ?_
    refine AL.p (by exact mv1 rfl) rfl ?_
    refine AL.yes rfl rfl rfl ?_
    refine AL.p (by exact g_len_view (k := V.1.length) rfl rfl (mvL_len _)) rfl ?_
    refine AL.yes rfl rfl rfl ?_
    refine AL.p (by exact mv1 rfl) rfl ?_
    refine AL.yes rfl rfl rfl ?_
    refine AL.p (by exact g_len_view (k := V.1.length) rfl rfl (mvL_len _)) rfl ?_
    refine AL.yes rfl rfl rfl ?_
    refine AL.p (by exact g_eqIr rfl rfl rfl) rfl ?_
    refine AL.p (by exact g_pickT (r := .d _) rfl rfl) rfl ?_
    refine AL.p (by exact as1 rfl) rfl ?_
    refine AL.nil (th_n (AC.ret (bq_r ?_)))
    exact ret1 rfl rfl
end Go.Proofs.YthafkkgmekgmoaaGreat
