/- Contracts of the functions of the program and of the reference, each proved by a walk through its code. -/
import Derived.WalkKit
import Derived.WalkSpells
import Derived.WalkLawsBesides
import Derived.Deep.Draws
import Derived.Lib.Hide
import Derived.Maps.AppendAt
import Derived.OwnWalk
import Derived.Deep.MidRow
import Derived.Laws.ResultCell
import Derived.Deep.Upon
import Derived.Great.FillDense
import Derived.Laws.Tables
import Derived.Laws.BytesArg
import Derived.Laws.MakeOwn
import Derived.Great.BuildSlice
import Derived.ArgAppend
import Derived.Deep.AppendSrc
import Derived.Test.YthafkkgmekgmoaaGreatProg
import Derived.KernelRfl
import Derived.Orders
import Derived.Laws.IdiomStrings
import Derived.Lib.AppendZerosOnto
import Derived.ProofKit
import Derived.OpenShut
import Derived.Lib.SliceRun
import Derived.Laws.StructEq
import Derived.ChangeKeysEq
import Derived.Sort.Grow
import Derived.Laws.RangeString
import Derived.Below
import Derived.Laws.Small
import Derived.MapKept
import Derived.WideMake
import Derived.Laws.IdiomCopy
import Derived.Shelf.Bits.Mul64
import Derived.Test.YthafkkgmekgmoaaGreatRows
import Derived.Test.YthafkkgmekgmoaaGreatGWy10
set_option linter.all false
set_option maxRecDepth 20000
namespace Go.Proofs.YthafkkgmekgmoaaGreat
open Go.RowKit
abbrev stgCw (s : Stg) : List AV := [aI s.net.places, .d (vTs s.net.ts), .d (vSigs s.sigs), .d (vLabs s.labs), aS (bstr s.start)]
theorem homeR_2 (x : Ex) : (homeR x).2 = goodR x := by unfold homeR; split <;> simp_all
theorem deadR_2 (x : Ex) : (deadR x).2 = goodR x := by unfold deadR; split <;> simp_all
theorem homeR_len (x : Ex) : (homeR x).1.length ≤ x.marks.length := by unfold homeR; split; exact homeL_len x _; exact Nat.zero_le _
theorem deadR_len (x : Ex) : (deadR x).1.length ≤ x.marks.length := by unfold deadR; split; exact deadL_len x _; exact Nat.zero_le _
theorem neverR_len (s : Stg) (x : Ex) : (neverR s x).1.length ≤ s.labs.length := by unfold neverR; split; exact neverL_len x _; exact Nat.zero_le _
theorem homeR_law {x : Ex} (h0 : goodR x = true) (h1 : 1 < (deadR x).1.length) (h2 : 0 < (homeR x).1.length) : False := by
 unfold deadR at h1
 unfold homeR at h2
 rw [if_pos h0] at h1 h2
 exact home_law h0 h1 h2
theorem unsR_ne {s : Stg} (h : (unsR s).2 = true) : 0 < (unsR s).1.length := by
 unfold unsR at h ⊢
 split at h
 ·rename_i hg
  rw [if_pos hg]
  rcases explR_end s.net s.start with g | g | ⟨j, t, g, _⟩
  ·rw [unsT_none (by unfold exB; rw [g])] at h; cases h
  ·rw [unsT_full g] at h; cases h
  ·rw [unsT_nat g]; simp
 ·cases h
theorem seqI_len {N : Net} {m : List UInt8} {ts : List Int} : (SeqI N m ts).1.length ≤ 2000000 := by
 have key : ∀ (ts : List Int) (m : List UInt8) (c : Int), bitsB m N.places = true → bitsB (fireSeq N m ts c).1 N.places = true := by
  intro ts
  induction ts with
  | nil => intro m c h; exact h
  | cons t ts ih =>
   intro m c h
   rw [fireSeq]
   split
   ·rename_i hf; exact ih _ _ (fireI_bits h hf)
   ·exact h
 unfold SeqI
 split
 ·rename_i hc
  have h1 := (Bool.and_eq_true_iff.1 hc).1
  obtain ⟨h2, h3⟩ := Bool.and_eq_true_iff.1 h1
  have h4 := bits_len (key ts m 0 h3)
  have := good_places h2
  omega
 ·exact Nat.zero_le _
set_option maxHeartbeats 64000000 in
theorem FnWays_spec (code more : List UInt8) (hc : code.length ≤ 9223372036854775807) (hm : more.length ≤ 9223372036854775807) : ASpec Tryz.prog 4 [.d (vB code), .d (vB more)] [] (Pure1 (aT true)) := by
 have hBig := big_spec code more hc hm
 have hD1 := sDrawUnsafe_spec code
 have hD2 := sDrawHome_spec more
 have hD3 := sDrawDeadT_spec more
 have hD4 := sDrawCount_spec more
 have hD5 := sDrawMarkIdx_spec more
 refine ASpec.of Tryz.func4 rfl rfl fun C hC => ?_
 refine AC.seq (AC.region ?_)
 refine AL.p (by exact as1 rfl) rfl ?_
 refine AL.nil (th_n (AC.seq (AC.seq (AC.region ?_))))
 refine AL.p (by exact mv1 rfl) rfl ?_
 refine AL.p (by exact mv1 rfl) rfl ?_
 refine AL.q (by exact h_pure en_big rfl rfl (by repeat (first | exact rfl | exact DLead.same | refine ⟨_, _, rfl, ?_, ?_⟩)) hBig rfl) rfl ?_
 refine AL.nil (th_n ?_)
 refine AC.condB rfl (fun h0 => ?_) (fun h0 => ?_)
 ·refine AC.seq (AC.region ?_)
  refine AL.p (by exact as1 rfl) rfl ?_
  refine AL.nil (th_n (AC.ret (th_r (bq_r ?_))))
  exact ret1 rfl rfl
 ·refine AC.skip (th_n (AC.seq (AC.region ?_)))
  refine AL.p (by exact mv1 rfl) rfl ?_
  refine AL.r (by exact h_funR (cs := []) en_sDrawUnsafe rfl rfl (by repeat (first | exact rfl | exact DLead.same | refine ⟨_, _, rfl, ?_, ?_⟩)) (by repeat (exact True.intro)) hD1 rfl rfl rfl) rfl ?_
  rintro _ ⟨_, _, ⟨s, hs, rfl, rfl⟩, rfl⟩
  refine AL.q (by exact h_alloc rfl) rfl ?_
  refine AL.q (by exact h_store rfl rfl rfl rfl rfl rfl) rfl ?_
  refine AL.nil (th_n (AC.seq ?_))
  have hB := hs.B
  have hU1 := iUnsafe_spec s hB
  have hU2 := sUnsafe_spec s hB
  have hUl := unsR_len s
  have hUn := @unsR_ne s
  have hUw := @uns_law s
  obtain ⟨U, hU⟩ : ∃ U, U = unsR s := ⟨_, rfl⟩
  rw [← hU] at hU1 hU2 hUl hUn hUw
  clear hU
  obtain ⟨w, ok⟩ := U
  dsimp only at hU1 hU2 hUl hUn hUw
  have hSI := sameInts_spec w w (by omega) (by omega)
  rw [decide_eq_true rfl] at hSI
  refine AC.region ?_
  refine AL.p (by exact g_load_ptrN rfl rfl rfl rfl rfl) rfl ?_
  refine AL.q (by exact h_pure en_iUnsafe rfl rfl (by repeat (first | exact rfl | exact DLead.same | refine ⟨_, _, rfl, ?_, ?_⟩ | refine ⟨_, rfl, ?_⟩)) hU1 rfl) rfl ?_
  refine AL.p (by exact mv5 rfl) rfl ?_
  refine AL.p (by exact g_extract (r := .d _) rfl rfl) rfl ?_
  refine AL.p (by exact g_extract (r := .d _) rfl rfl) rfl ?_
  refine AL.p (by exact as1 rfl) rfl ?_
  refine AL.p (by exact as1 rfl) rfl ?_
  refine AL.nil (th_n (AC.seq (AC.region ?_)))
  refine AL.p (by exact g_load_ptrN rfl rfl rfl rfl rfl) rfl ?_
  refine AL.q (by exact h_pure en_sUnsafe rfl rfl (by repeat (first | exact rfl | exact DLead.same | refine ⟨_, _, rfl, ?_, ?_⟩ | refine ⟨_, rfl, ?_⟩)) hU2 rfl) rfl ?_
  refine AL.p (by exact mv5 rfl) rfl ?_
  refine AL.p (by exact g_extract (r := .d _) rfl rfl) rfl ?_
  refine AL.p (by exact g_extract (r := .d _) rfl rfl) rfl ?_
  refine AL.p (by exact as1 rfl) rfl ?_
  refine AL.p (by exact as1 rfl) rfl ?_
  refine AL.nil (th_n (AC.seq (AC.seq ?_)))
  refine AC.weak (t := ⟨250, 400, [(1, .d (vB more)), (5, .ptr 202 0), (6, .d (vI w)), (7, aT ok), (8, .d (vI w)), (9, aT ok)], [(202, some (.cells 30 (stgCw s)))]⟩) (Weak.ren _ [(202, _)] hC rfl (by repeat (first | exact True.intro | refine And.intro ?_ ?_ | exact DLead.same | exact rfl | refine ⟨_, rfl, ?_⟩)) (by repeat (first | exact True.intro | refine And.intro ?_ ?_ | exact DLead.same | exact rfl | refine ⟨_, _, rfl, rfl, ?_⟩ | refine ⟨_, rfl, ?_⟩ | refine ⟨_, _, rfl, ?_, ?_⟩)) rfl rfl rfl) ?_
  refine AC.region ?_
  refine AL.p (by exact mv1 rfl) rfl ?_
  refine AL.p (by exact mv1 rfl) rfl ?_
  refine AL.p (by exact g_neBr rfl rfl rfl) rfl ?_
  refine AL.p (by exact mv1 rfl) rfl ?_
  refine AL.yes rfl rfl rfl ?_
  refine AL.p (by exact mv1 rfl) rfl ?_
  refine AL.yes rfl rfl rfl ?_
  refine AL.p (by exact mv1 rfl) rfl ?_
  refine AL.yes rfl rfl rfl ?_
  refine AL.q (by exact h_pure en_sameInts rfl rfl (by repeat (first | exact rfl | exact DLead.same | refine ⟨_, _, rfl, ?_, ?_⟩)) hSI rfl) rfl ?_
  refine AL.yes rfl rfl rfl ?_
  refine AL.p (by exact g_not rfl) rfl ?_
  refine AL.p (by exact g_pickF (r := .d _) rfl rfl) rfl ?_
  refine AL.nil (th_n ?_)
  refine AC.condF rfl ?_
  refine AC.skip (th_n ?_)
  refine AC.cut (fun (_ : Unit) => ⟨250, 2000, [(1, .d (vB more))], []⟩) (fun _ => True) ?_ ?_
  ·refine AC.seq (AC.region ?_)
   refine AL.p (by exact mv1 rfl) rfl ?_
   refine AL.nil (th_n ?_)
   refine AC.condB rfl (fun h1 => ?_) (fun h1 => ?_)
   ·refine AC.seq (AC.seq ?_)
    have hok : ok = true := ‹ok = true›
    have hw0 := hUn hok
    have hUw2 := hUw hok
    refine AC.region ?_
    refine AL.p (by exact mv1 rfl) rfl ?_
    refine AL.p (by exact g_len_view (k := w.length) rfl rfl (ints_len _)) rfl ?_
    refine AL.p (by exact g_cmp rfl rfl rfl) rfl ?_
    refine AL.nil (th_n ?_)
    refine AC.condD rfl (fun h2 => ?_) (fun h2 => ?_)
    ·refine AC.seq (AC.region ?_)
     refine AL.p (by exact as1 rfl) rfl ?_
     refine AL.nil (th_n (AC.ret (th_r (th_r (bq_r ?_)))))
     exact absurd ‹(w.length : Int) = 0› (by omega)
    ·refine AC.skip (th_n (AC.seq ?_))
     have hFS := iFireSeq_spec s.net s.start w hB.n (by have := hs.st; omega) (by omega)
     have hQl := seqI_len (N := s.net) (m := s.start) (ts := w)
     obtain ⟨Q, hQ⟩ : ∃ Q, Q = SeqI s.net s.start w := ⟨_, rfl⟩
     rw [← hQ] at hFS hQl hUw2
     have hEn := iEnabled_spec s.net Q.1 hB.n hQl
     obtain ⟨E, hE⟩ : ∃ E, E = enR s.net Q.1 := ⟨_, rfl⟩
     rw [← hE] at hEn
     refine AC.region ?_
     refine AL.p (by exact g_fa_ptr rfl rfl rfl rfl rfl) rfl ?_
     refine AL.p (by exact g_load_ptrN rfl rfl rfl rfl rfl) rfl ?_
     refine AL.p (by exact g_fa_ptr rfl rfl rfl rfl rfl) rfl ?_
     refine AL.p (by exact g_load_ptr rfl rfl rfl rfl rfl) rfl ?_
     refine AL.p (by exact mv1 rfl) rfl ?_
     refine AL.q (by exact h_pure en_iFireSeq rfl rfl (by repeat (first | exact rfl | exact DLead.same | refine ⟨_, _, rfl, ?_, ?_⟩ | refine ⟨_, rfl, ?_⟩)) hFS rfl) rfl ?_
     refine AL.p (by exact mv5 rfl) rfl ?_
     refine AL.p (by exact g_extract (r := .d _) rfl rfl) rfl ?_
     refine AL.p (by exact g_extract (r := .d _) rfl rfl) rfl ?_
     refine AL.p (by exact g_extract (r := .d _) rfl rfl) rfl ?_
     refine AL.p (by exact as1 rfl) rfl ?_
     refine AL.p (by exact as1 rfl) rfl ?_
     refine AL.p (by exact as1 rfl) rfl ?_
     refine AL.nil (th_n (AC.seq (AC.region ?_)))
     refine AL.p (by exact g_fa_ptr rfl rfl rfl rfl rfl) rfl ?_
     refine AL.p (by exact g_load_ptrN rfl rfl rfl rfl rfl) rfl ?_
     refine AL.p (by exact mv1 rfl) rfl ?_
     refine AL.q (by exact h_pure en_iEnabled rfl rfl (by repeat (first | exact rfl | exact DLead.same | refine ⟨_, _, rfl, ?_, ?_⟩ | refine ⟨_, rfl, ?_⟩)) hEn rfl) rfl ?_
     refine AL.p (by exact mv5 rfl) rfl ?_
     refine AL.p (by exact g_extract (r := .d _) rfl rfl) rfl ?_
     refine AL.p (by exact g_extract (r := .d _) rfl rfl) rfl ?_
     refine AL.p (by exact as1 rfl) rfl ?_
     refine AL.p (by exact as1 rfl) rfl ?_
     refine AL.nil (th_n (AC.seq ?_))
     refine AC.weak (t := ⟨250, 800, [(1, .d (vB more)), (6, .d (vI w)), (10, aS (bstr Q.1)), (11, aI Q.2.1), (12, aT Q.2.2), (13, .d (vI E.1)), (14, aT E.2)], []⟩) (Weak.ren _ [] hC rfl (by repeat (first | exact True.intro | refine And.intro ?_ ?_ | exact DLead.same)) (by repeat (exact True.intro)) rfl rfl rfl) ?_
     refine AC.region ?_
     refine AL.p (by exact mv1 rfl) rfl ?_
     refine AL.p (by exact g_len_view (k := w.length) rfl rfl (ints_len _)) rfl ?_
     refine AL.p (by exact g_cmp rfl rfl rfl) rfl ?_
     refine AL.p (by exact mv1 rfl) rfl ?_
     refine AL.caseG rfl rfl (fun h3 => ?_) (fun h3 => ?_)
     ·refine AL.yes rfl rfl rfl ?_
      obtain ⟨L, t, m, e1, e2, e3, e4, e5⟩ := hUw2 (by omega)
      have hEm : E = (readyL s.net m s.net.ts.length, true) := by rw [hE, e2]; exact e3
      clear hQ hFS hEn hE hU1 hU2
      subst e2 hEm e1
      have hrl := readyL_len s.net m s.net.ts.length
      have hnl := hB.n
      have hget : (ints (L ++ [t]))[L.length]? = some [dI t] := by rw [List.getElem?_map, List.getElem?_append_right (Nat.le_refl _), Nat.sub_self]; rfl
      have hlen : (L ++ [t]).length = L.length + 1 := by rw [List.length_append]; rfl
      have hHas := lhas_spec (readyL s.net m s.net.ts.length) t (by have := hs.tl; omega)
      rw [show hasI (readyL s.net m s.net.ts.length) t = true from List.any_eq_true.2 ⟨t, e4, decide_eq_true rfl⟩] at hHas
      refine AL.p (by exact mv1 rfl) rfl ?_
      refine AL.yes rfl rfl rfl ?_
      refine AL.p (by exact mv1 rfl) rfl ?_
      refine AL.yes rfl rfl rfl ?_
      refine AL.p (by exact mv1 rfl) rfl ?_
      refine AL.yes rfl rfl rfl ?_
      refine AL.p (by exact mv1 rfl) rfl ?_
      refine AL.yes rfl rfl rfl ?_
      refine AL.p (by exact g_len_view (k := (L ++ [t]).length) rfl rfl (ints_len _)) rfl ?_
      refine AL.yes rfl rfl rfl ?_
      refine AL.p (by exact g_arith rfl rfl rfl (by exact wrap_i64 (by omega))) rfl ?_
      refine AL.yes rfl rfl rfl ?_
      refine AL.p (by exact g_neIr rfl rfl (by show ((L.length : Nat) : Int) = (((L ++ [t]).length : Nat) : Int) - 1; rw [hlen]; omega)) rfl ?_
      refine AL.yes rfl rfl rfl ?_
      refine AL.p (by exact g_pickF (r := .d _) rfl rfl) rfl ?_
      refine AL.yes rfl rfl rfl ?_
      refine AL.p (by exact mv1 rfl) rfl ?_
      refine AL.yes rfl rfl rfl ?_
      refine AL.p (by exact mv1 rfl) rfl ?_
      refine AL.yes rfl rfl rfl ?_
      refine AL.p (by exact g_not rfl) rfl ?_
      refine AL.yes rfl rfl rfl ?_
      refine AL.p (by exact g_pickF (r := .d _) rfl rfl) rfl ?_
      refine AL.yes rfl rfl rfl ?_
      refine AL.p (by exact mv1 rfl) rfl ?_
      refine AL.yes rfl rfl rfl ?_
      refine AL.p (by exact mv1 rfl) rfl ?_
      refine AL.yes rfl rfl rfl ?_
      refine AL.p (by exact mv1 rfl) rfl ?_
      refine AL.yes rfl rfl rfl ?_
      refine AL.p (by exact mv1 rfl) rfl ?_
      refine AL.yes rfl rfl rfl ?_
      refine AL.p (by exact g_ia_view (i := L.length) rfl rfl rfl rfl rfl rfl hget) rfl ?_
      refine AL.yes rfl rfl rfl ?_
      refine AL.p (by exact g_load_ref rfl rfl rfl) rfl ?_
      refine AL.yes rfl rfl rfl ?_
      refine AL.q (by exact h_pure en_lhas rfl rfl (by repeat (first | exact rfl | exact DLead.same | refine ⟨_, _, rfl, ?_, ?_⟩)) hHas rfl) rfl ?_
      refine AL.yes rfl rfl rfl ?_
      refine AL.p (by exact g_not rfl) rfl ?_
      refine AL.yes rfl rfl rfl ?_
      refine AL.p (by exact g_pickF (r := .d _) rfl rfl) rfl ?_
      refine AL.p (by exact g_pickT (r := .d _) rfl rfl) rfl ?_
      refine AL.nil (th_n ?_)
      refine AC.condF rfl ?_
      refine AC.skip (th_n ?_)
      exact ⟨(), trivial, Weak.ren _ [] hC rfl (by repeat (first | exact True.intro | refine And.intro ?_ ?_ | exact DLead.same)) (by repeat (exact True.intro)) rfl rfl rfl⟩
     ·refine AL.not rfl rfl rfl rfl rfl ?_
      refine AL.not rfl rfl rfl rfl rfl ?_
      refine AL.notU rfl rfl rfl ?_
      refine AL.notU rfl rfl rfl ?_
      refine AL.notU rfl rfl rfl ?_
      refine AL.notU rfl rfl rfl ?_
      refine AL.notU rfl rfl rfl ?_
      refine AL.not rfl rfl rfl rfl rfl ?_
      refine AL.not rfl rfl rfl rfl rfl ?_
      refine AL.notU rfl rfl rfl ?_
      refine AL.notU rfl rfl rfl ?_
      refine AL.not rfl rfl rfl rfl rfl ?_
      refine AL.not rfl rfl rfl rfl rfl ?_
      refine AL.notU rfl rfl rfl ?_
      refine AL.notU rfl rfl rfl ?_
      refine AL.notU rfl rfl rfl ?_
      refine AL.notU rfl rfl rfl ?_
      refine AL.notU rfl rfl rfl ?_
      refine AL.notU rfl rfl rfl ?_
      refine AL.notU rfl rfl rfl ?_
      refine AL.not rfl rfl rfl rfl rfl ?_
      refine AL.p (by exact g_pickF (r := .d _) rfl rfl) rfl ?_
      refine AL.nil (th_n ?_)
      refine AC.condF rfl ?_
      refine AC.skip (th_n ?_)
      exact ⟨(), trivial, Weak.ren _ [] hC rfl (by repeat (first | exact True.intro | refine And.intro ?_ ?_ | exact DLead.same)) (by repeat (exact True.intro)) rfl rfl rfl⟩
   ·refine AC.skip (th_n ?_)
    exact ⟨(), trivial, Weak.ren _ [] hC rfl (by repeat (first | exact True.intro | refine And.intro ?_ ?_ | exact DLead.same)) (by repeat (exact True.intro)) rfl rfl rfl⟩
  ·intro _ _
   refine AC.seq (AC.region ?_)
   refine AL.p (by exact mv1 rfl) rfl ?_
   refine AL.r (by exact h_funR (cs := []) en_sDrawHome rfl rfl (by repeat (first | exact rfl | exact DLead.same | refine ⟨_, _, rfl, ?_, ?_⟩)) (by repeat (exact True.intro)) hD2 rfl rfl rfl) rfl ?_
   rintro _ ⟨_, _, ⟨x, hx, rfl, rfl⟩, rfl⟩
   refine AL.q (by exact h_alloc rfl) rfl ?_
   refine AL.q (by exact h_store rfl rfl rfl rfl rfl rfl) rfl ?_
   refine AL.nil (th_n (AC.seq ?_))
   have hxn := hx.n
   have hxl := hx.l
   have hH1 := iHome_spec x (by omega) (by omega)
   have hH2 := sHome_spec x (by omega) (by omega)
   have hE1 := iDeadl_spec x (by omega) (by omega)
   have hE2 := sDeadl_spec x (by omega) (by omega)
   have hHl := homeR_len x
   have hEl := deadR_len x
   have hLaw := @homeR_law x
   rw [homeR_2] at hH1 hH2
   rw [deadR_2] at hE1 hE2
   obtain ⟨H, hH⟩ : ∃ H, H = (homeR x).1 := ⟨_, rfl⟩
   rw [← hH] at hH1 hH2 hHl hLaw
   obtain ⟨D, hD⟩ : ∃ D, D = (deadR x).1 := ⟨_, rfl⟩
   rw [← hD] at hE1 hE2 hEl hLaw
   obtain ⟨g, hg⟩ : ∃ g, g = goodR x := ⟨_, rfl⟩
   rw [← hg] at hH1 hH2 hE1 hE2 hLaw
   have hSH := sameInts_spec H H (by omega) (by omega)
   have hSD := sameInts_spec D D (by omega) (by omega)
   rw [decide_eq_true rfl] at hSH hSD
   clear hH hD hg
   refine AC.region ?_
   refine AL.p (by exact g_load_ptrN rfl rfl rfl rfl rfl) rfl ?_
   refine AL.q (by exact h_pure en_iHome rfl rfl (by repeat (first | exact rfl | exact DLead.same | refine ⟨_, _, rfl, ?_, ?_⟩ | refine ⟨_, rfl, ?_⟩)) hH1 rfl) rfl ?_
   refine AL.p (by exact mv5 rfl) rfl ?_
   refine AL.p (by exact g_extract (r := .d _) rfl rfl) rfl ?_
   refine AL.p (by exact g_extract (r := .d _) rfl rfl) rfl ?_
   refine AL.p (by exact as1 rfl) rfl ?_
   refine AL.p (by exact as1 rfl) rfl ?_
   refine AL.nil (th_n (AC.seq (AC.region ?_)))
   refine AL.p (by exact g_load_ptrN rfl rfl rfl rfl rfl) rfl ?_
   refine AL.q (by exact h_pure en_sHome rfl rfl (by repeat (first | exact rfl | exact DLead.same | refine ⟨_, _, rfl, ?_, ?_⟩ | refine ⟨_, rfl, ?_⟩)) hH2 rfl) rfl ?_
   refine AL.p (by exact mv5 rfl) rfl ?_
   refine AL.p (by exact g_extract (r := .d _) rfl rfl) rfl ?_
   refine AL.p (by exact g_extract (r := .d _) rfl rfl) rfl ?_
   refine AL.p (by exact as1 rfl) rfl ?_
   refine AL.p (by exact as1 rfl) rfl ?_
   refine AL.nil (th_n (AC.seq (AC.region ?_)))
   refine AL.p (by exact g_load_ptrN rfl rfl rfl rfl rfl) rfl ?_
   refine AL.q (by exact h_pure en_iDeadl rfl rfl (by repeat (first | exact rfl | exact DLead.same | refine ⟨_, _, rfl, ?_, ?_⟩ | refine ⟨_, rfl, ?_⟩)) hE1 rfl) rfl ?_
   refine AL.p (by exact mv5 rfl) rfl ?_
   refine AL.p (by exact g_extract (r := .d _) rfl rfl) rfl ?_
   refine AL.p (by exact g_extract (r := .d _) rfl rfl) rfl ?_
   refine AL.p (by exact as1 rfl) rfl ?_
   refine AL.p (by exact as1 rfl) rfl ?_
   refine AL.nil (th_n (AC.seq (AC.region ?_)))
   refine AL.p (by exact g_load_ptrN rfl rfl rfl rfl rfl) rfl ?_
   refine AL.q (by exact h_pure en_sDeadl rfl rfl (by repeat (first | exact rfl | exact DLead.same | refine ⟨_, _, rfl, ?_, ?_⟩ | refine ⟨_, rfl, ?_⟩)) hE2 rfl) rfl ?_
   refine AL.p (by exact mv5 rfl) rfl ?_
   refine AL.p (by exact g_extract (r := .d _) rfl rfl) rfl ?_
   refine AL.p (by exact g_extract (r := .d _) rfl rfl) rfl ?_
   refine AL.p (by exact as1 rfl) rfl ?_
   refine AL.p (by exact as1 rfl) rfl ?_
   refine AL.nil (th_n (AC.seq (AC.seq ?_)))
   refine AC.weak (t := ⟨250, 2400, [(1, .d (vB more)), (16, .d (vI H)), (17, aT g), (18, .d (vI H)), (19, aT g), (20, .d (vI D)), (21, aT g), (22, .d (vI D)), (23, aT g)], []⟩) (Weak.ren _ [] hC rfl (by repeat (first | exact True.intro | refine And.intro ?_ ?_ | exact DLead.same)) (by repeat (exact True.intro)) rfl rfl rfl) ?_
   refine AC.region ?_
   refine AL.p (by exact mv1 rfl) rfl ?_
   refine AL.p (by exact mv1 rfl) rfl ?_
   refine AL.p (by exact g_neBr rfl rfl rfl) rfl ?_
   refine AL.p (by exact mv1 rfl) rfl ?_
   refine AL.yes rfl rfl rfl ?_
   refine AL.p (by exact mv1 rfl) rfl ?_
   refine AL.yes rfl rfl rfl ?_
   refine AL.p (by exact mv1 rfl) rfl ?_
   refine AL.yes rfl rfl rfl ?_
   refine AL.q (by exact h_pure en_sameInts rfl rfl (by repeat (first | exact rfl | exact DLead.same | refine ⟨_, _, rfl, ?_, ?_⟩)) hSH rfl) rfl ?_
   refine AL.yes rfl rfl rfl ?_
   refine AL.p (by exact g_not rfl) rfl ?_
   refine AL.p (by exact g_pickF (r := .d _) rfl rfl) rfl ?_
   refine AL.p (by exact mv1 rfl) rfl ?_
   refine AL.yes rfl rfl rfl ?_
   refine AL.p (by exact mv1 rfl) rfl ?_
   refine AL.yes rfl rfl rfl ?_
   refine AL.p (by exact mv1 rfl) rfl ?_
   refine AL.yes rfl rfl rfl ?_
   refine AL.p (by exact g_neBr rfl rfl rfl) rfl ?_
   refine AL.p (by exact g_pickF (r := .d _) rfl rfl) rfl ?_
   refine AL.p (by exact mv1 rfl) rfl ?_
   refine AL.yes rfl rfl rfl ?_
   refine AL.p (by exact mv1 rfl) rfl ?_
   refine AL.yes rfl rfl rfl ?_
   refine AL.p (by exact mv1 rfl) rfl ?_
   refine AL.yes rfl rfl rfl ?_
   refine AL.q (by exact h_pure en_sameInts rfl rfl (by repeat (first | exact rfl | exact DLead.same | refine ⟨_, _, rfl, ?_, ?_⟩)) hSD rfl) rfl ?_
   refine AL.yes rfl rfl rfl ?_
   refine AL.p (by exact g_not rfl) rfl ?_
   refine AL.p (by exact g_pickF (r := .d _) rfl rfl) rfl ?_
   refine AL.p (by exact mv1 rfl) rfl ?_
   refine AL.yes rfl rfl rfl ?_
   refine AL.p (by exact mv1 rfl) rfl ?_
   refine AL.yes rfl rfl rfl ?_
   refine AL.p (by exact mv1 rfl) rfl ?_
   refine AL.yes rfl rfl rfl ?_
   refine AL.p (by exact g_neBr rfl rfl rfl) rfl ?_
   refine AL.p (by exact g_pickF (r := .d _) rfl rfl) rfl ?_
   refine AL.nil (th_n ?_)
   refine AC.condF rfl ?_
   refine AC.skip (th_n ?_)
   refine AC.cut (fun (_ : Unit) => ⟨250, 2800, [(1, .d (vB more))], []⟩) (fun _ => True) ?_ ?_
   ·refine AC.seq (AC.region ?_)
    refine AL.p (by exact mv1 rfl) rfl ?_
    refine AL.p (by exact mv1 rfl) rfl ?_
    refine AL.caseGB rfl rfl (fun h1 => ?_) (fun h1 => ?_)
    ·refine AL.yes rfl rfl rfl ?_
     refine AL.p (by exact mv1 rfl) rfl ?_
     refine AL.yes rfl rfl rfl ?_
     refine AL.p (by exact g_len_view (k := D.length) rfl rfl (ints_len _)) rfl ?_
     refine AL.yes rfl rfl rfl ?_
     refine AL.p (by exact g_cmp rfl rfl rfl) rfl ?_
     refine AL.p (by exact g_pickT (r := .d _) rfl rfl) rfl ?_
     refine AL.p (by exact mv1 rfl) rfl ?_
     refine AL.caseG rfl rfl (fun h2 => ?_) (fun h2 => ?_)
     ·refine AL.yes rfl rfl rfl ?_
      refine AL.p (by exact mv1 rfl) rfl ?_
      refine AL.yes rfl rfl rfl ?_
      refine AL.p (by exact g_len_view (k := H.length) rfl rfl (ints_len _)) rfl ?_
      refine AL.yes rfl rfl rfl ?_
      refine AL.p (by exact g_cmp rfl rfl rfl) rfl ?_
      refine AL.p (by exact g_pickT (r := .d _) rfl rfl) rfl ?_
      refine AL.nil (th_n ?_)
      refine AC.condD rfl (fun h3 => ?_) (fun h3 => ?_)
      ·refine AC.seq (AC.region ?_)
       refine AL.p (by exact as1 rfl) rfl ?_
       refine AL.nil (th_n (AC.ret (th_r (bq_r ?_))))
       exact (hLaw ‹g = true› (by omega) (by omega)).elim
      ·refine AC.skip (th_n ?_)
       exact ⟨(), trivial, Weak.ren _ [] hC rfl (by repeat (first | exact True.intro | refine And.intro ?_ ?_ | exact DLead.same)) (by repeat (exact True.intro)) rfl rfl rfl⟩
     ·refine AL.not rfl rfl rfl rfl rfl ?_
      refine AL.not rfl rfl rfl rfl rfl ?_
      refine AL.not rfl rfl rfl rfl rfl ?_
      refine AL.p (by exact g_pickF (r := .d _) rfl rfl) rfl ?_
      refine AL.nil (th_n ?_)
      refine AC.condF rfl ?_
      refine AC.skip (th_n ?_)
      exact ⟨(), trivial, Weak.ren _ [] hC rfl (by repeat (first | exact True.intro | refine And.intro ?_ ?_ | exact DLead.same)) (by repeat (exact True.intro)) rfl rfl rfl⟩
    ·refine AL.not rfl rfl rfl rfl rfl ?_
     refine AL.not rfl rfl rfl rfl rfl ?_
     refine AL.not rfl rfl rfl rfl rfl ?_
     refine AL.p (by exact g_pickF (r := .d _) rfl rfl) rfl ?_
     refine AL.p (by exact mv1 rfl) rfl ?_
     refine AL.not rfl rfl rfl rfl rfl ?_
     refine AL.not rfl rfl rfl rfl rfl ?_
     refine AL.not rfl rfl rfl rfl rfl ?_
     refine AL.p (by exact g_pickF (r := .d _) rfl rfl) rfl ?_
     refine AL.nil (th_n ?_)
     refine AC.condF rfl ?_
     refine AC.skip (th_n ?_)
     exact ⟨(), trivial, Weak.ren _ [] hC rfl (by repeat (first | exact True.intro | refine And.intro ?_ ?_ | exact DLead.same)) (by repeat (exact True.intro)) rfl rfl rfl⟩
   ·intro _ _
    refine AC.seq (AC.region ?_)
    refine AL.p (by exact mv1 rfl) rfl ?_
    refine AL.r (by exact h_funR (cs := []) en_sDrawDeadT rfl rfl (by repeat (first | exact rfl | exact DLead.same | refine ⟨_, _, rfl, ?_, ?_⟩)) (by repeat (exact True.intro)) hD3 rfl rfl rfl) rfl ?_
    rintro _ ⟨_, _, ⟨a, y, ⟨ha, hy⟩, rfl, rfl⟩, rfl⟩
    refine AL.p (by exact mv5 rfl) rfl ?_
    refine AL.p (by exact g_extract (r := .agg _) rfl rfl) rfl ?_
    refine AL.p (by exact g_extract (r := .agg _) rfl rfl) rfl ?_
    refine AL.q (by exact h_alloc rfl) rfl ?_
    refine AL.q (by exact h_alloc rfl) rfl ?_
    refine AL.q (by exact h_store rfl rfl rfl rfl rfl rfl) rfl ?_
    refine AL.q (by exact h_store rfl rfl rfl rfl rfl rfl) rfl ?_
    refine AL.nil (th_n (AC.seq ?_))
    have haB := ha.B
    have hyn := hy.n
    have hyl := hy.l
    have hN1 := iDeadT_spec a y haB (by omega) (by omega)
    have hN2 := sDeadT_spec a y haB (by omega) (by omega)
    have hNl := neverR_len a y
    have hall := ha.ll
    obtain ⟨N, hN⟩ : ∃ N, N = neverR a y := ⟨_, rfl⟩
    rw [← hN] at hN1 hN2 hNl
    have hSN := sameInts_spec N.1 N.1 (by omega) (by omega)
    rw [decide_eq_true rfl] at hSN
    clear hN
    refine AC.region ?_
    refine AL.p (by exact g_load_ptrN rfl rfl rfl rfl rfl) rfl ?_
    refine AL.p (by exact g_load_ptrN rfl rfl rfl rfl rfl) rfl ?_
    refine AL.q (by exact h_pure en_iDeadT rfl rfl (by repeat (first | exact rfl | exact DLead.same | refine ⟨_, _, rfl, ?_, ?_⟩ | refine ⟨_, rfl, ?_⟩)) hN1 rfl) rfl ?_
    refine AL.p (by exact mv5 rfl) rfl ?_
    refine AL.p (by exact g_extract (r := .d _) rfl rfl) rfl ?_
    refine AL.p (by exact g_extract (r := .d _) rfl rfl) rfl ?_
    refine AL.p (by exact as1 rfl) rfl ?_
    refine AL.p (by exact as1 rfl) rfl ?_
    refine AL.nil (th_n (AC.seq (AC.region ?_)))
    refine AL.p (by exact g_load_ptrN rfl rfl rfl rfl rfl) rfl ?_
    refine AL.p (by exact g_load_ptrN rfl rfl rfl rfl rfl) rfl ?_
    refine AL.q (by exact h_pure en_sDeadT rfl rfl (by repeat (first | exact rfl | exact DLead.same | refine ⟨_, _, rfl, ?_, ?_⟩ | refine ⟨_, rfl, ?_⟩)) hN2 rfl) rfl ?_
    refine AL.p (by exact mv5 rfl) rfl ?_
    refine AL.p (by exact g_extract (r := .d _) rfl rfl) rfl ?_
    refine AL.p (by exact g_extract (r := .d _) rfl rfl) rfl ?_
    refine AL.p (by exact as1 rfl) rfl ?_
    refine AL.p (by exact as1 rfl) rfl ?_
    refine AL.nil (th_n (AC.seq ?_))
    refine AC.weak (t := ⟨250, 3200, [(1, .d (vB more)), (26, .d (vI N.1)), (27, aT N.2), (28, .d (vI N.1)), (29, aT N.2)], []⟩) (Weak.ren _ [] hC rfl (by repeat (first | exact True.intro | refine And.intro ?_ ?_ | exact DLead.same)) (by repeat (exact True.intro)) rfl rfl rfl) ?_
    refine AC.region ?_
    refine AL.p (by exact mv1 rfl) rfl ?_
    refine AL.r (by exact h_funR (cs := []) en_sDrawCount rfl rfl (by repeat (first | exact rfl | exact DLead.same | refine ⟨_, _, rfl, ?_, ?_⟩)) (by repeat (exact True.intro)) hD4 rfl rfl rfl) rfl ?_
    rintro _ ⟨_, _, ⟨z, k, ⟨hz, hk⟩, rfl, rfl⟩, rfl⟩
    refine AL.p (by exact mv5 rfl) rfl ?_
    refine AL.p (by exact g_extract (r := .agg _) rfl rfl) rfl ?_
    refine AL.p (by exact g_extract (r := .d _) rfl rfl) rfl ?_
    refine AL.q (by exact h_alloc rfl) rfl ?_
    refine AL.q (by exact h_store rfl rfl rfl rfl rfl rfl) rfl ?_
    refine AL.p (by exact as1 rfl) rfl ?_
    refine AL.nil (th_n (AC.seq ?_))
    have hzn := hz.n
    have hzl := hz.l
    have hK1 := iCount_spec z k (by omega) (by omega) (by omega)
    have hK2 := sCount_spec z k (by omega) (by omega) (by omega)
    obtain ⟨K, hK⟩ : ∃ K, K = countR z k := ⟨_, rfl⟩
    rw [← hK] at hK1 hK2
    clear hK
    refine AC.region ?_
    refine AL.p (by exact g_load_ptrN rfl rfl rfl rfl rfl) rfl ?_
    refine AL.p (by exact mv1 rfl) rfl ?_
    refine AL.q (by exact h_pure en_iCount rfl rfl (by repeat (first | exact rfl | exact DLead.same | refine ⟨_, _, rfl, ?_, ?_⟩ | refine ⟨_, rfl, ?_⟩)) hK1 rfl) rfl ?_
    refine AL.p (by exact mv5 rfl) rfl ?_
    refine AL.p (by exact g_extract (r := .d _) rfl rfl) rfl ?_
    refine AL.p (by exact g_extract (r := .d _) rfl rfl) rfl ?_
    refine AL.p (by exact as1 rfl) rfl ?_
    refine AL.p (by exact as1 rfl) rfl ?_
    refine AL.nil (th_n (AC.seq (AC.region ?_)))
    refine AL.p (by exact g_load_ptrN rfl rfl rfl rfl rfl) rfl ?_
    refine AL.p (by exact mv1 rfl) rfl ?_
    refine AL.q (by exact h_pure en_sCount rfl rfl (by repeat (first | exact rfl | exact DLead.same | refine ⟨_, _, rfl, ?_, ?_⟩ | refine ⟨_, rfl, ?_⟩)) hK2 rfl) rfl ?_
    refine AL.p (by exact mv5 rfl) rfl ?_
    refine AL.p (by exact g_extract (r := .d _) rfl rfl) rfl ?_
    refine AL.p (by exact g_extract (r := .d _) rfl rfl) rfl ?_
    refine AL.p (by exact as1 rfl) rfl ?_
    refine AL.p (by exact as1 rfl) rfl ?_
    refine AL.nil (th_n (AC.seq ?_))
    refine AC.weak (t := ⟨250, 3600, [(1, .d (vB more)), (26, .d (vI N.1)), (27, aT N.2), (28, .d (vI N.1)), (29, aT N.2), (32, aI K.1), (33, aT K.2), (34, aI K.1), (35, aT K.2)], []⟩) (Weak.ren _ [] hC rfl (by repeat (first | exact True.intro | refine And.intro ?_ ?_ | exact DLead.same)) (by repeat (exact True.intro)) rfl rfl rfl) ?_
    refine AC.region ?_
    refine AL.p (by exact mv1 rfl) rfl ?_
    refine AL.r (by exact h_funR (cs := []) en_sDrawMarkIdx rfl rfl (by repeat (first | exact rfl | exact DLead.same | refine ⟨_, _, rfl, ?_, ?_⟩)) (by repeat (exact True.intro)) hD5 rfl rfl rfl) rfl ?_
    rintro _ ⟨_, _, ⟨v, m, hv, rfl, rfl⟩, rfl⟩
    refine AL.p (by exact mv5 rfl) rfl ?_
    refine AL.p (by exact g_extract (r := .agg _) rfl rfl) rfl ?_
    refine AL.p (by exact g_extract (r := .d _) rfl rfl) rfl ?_
    refine AL.q (by exact h_alloc rfl) rfl ?_
    refine AL.q (by exact h_store rfl rfl rfl rfl rfl rfl) rfl ?_
    refine AL.p (by exact as1 rfl) rfl ?_
    refine AL.nil (th_n (AC.seq ?_))
    have hvn := hv.n
    have hvl := hv.l
    have hM1 := iMarkIx_spec v m (by omega) (by omega)
    have hM2 := sMarkIx_spec v m (by omega) (by omega)
    obtain ⟨M, hM⟩ : ∃ M, M = markIxR v m := ⟨_, rfl⟩
    rw [← hM] at hM1 hM2
    clear hM
    refine AC.region ?_
    refine AL.p (by exact g_load_ptrN rfl rfl rfl rfl rfl) rfl ?_
    refine AL.p (by exact mv1 rfl) rfl ?_
    refine AL.q (by exact h_pure en_iMarkIx rfl rfl (by repeat (first | exact rfl | exact DLead.same | refine ⟨_, _, rfl, ?_, ?_⟩ | refine ⟨_, rfl, ?_⟩)) hM1 rfl) rfl ?_
    refine AL.p (by exact mv5 rfl) rfl ?_
    refine AL.p (by exact g_extract (r := .d _) rfl rfl) rfl ?_
    refine AL.p (by exact g_extract (r := .d _) rfl rfl) rfl ?_
    refine AL.p (by exact as1 rfl) rfl ?_
    refine AL.p (by exact as1 rfl) rfl ?_
    refine AL.nil (th_n (AC.seq (AC.region ?_)))
    refine AL.p (by exact g_load_ptrN rfl rfl rfl rfl rfl) rfl ?_
    refine AL.p (by exact mv1 rfl) rfl ?_
    refine AL.q (by exact h_pure en_sMarkIdx rfl rfl (by repeat (first | exact rfl | exact DLead.same | refine ⟨_, _, rfl, ?_, ?_⟩ | refine ⟨_, rfl, ?_⟩)) hM2 rfl) rfl ?_
    refine AL.p (by exact mv5 rfl) rfl ?_
    refine AL.p (by exact g_extract (r := .d _) rfl rfl) rfl ?_
    refine AL.p (by exact g_extract (r := .d _) rfl rfl) rfl ?_
    refine AL.p (by exact as1 rfl) rfl ?_
    refine AL.p (by exact as1 rfl) rfl ?_
    refine AL.nil (th_n (AC.seq ?_))
    refine AC.weak (t := ⟨250, 4000, [(26, .d (vI N.1)), (27, aT N.2), (28, .d (vI N.1)), (29, aT N.2), (32, aI K.1), (33, aT K.2), (34, aI K.1), (35, aT K.2), (38, aI M.1), (39, aT M.2), (40, aI M.1), (41, aT M.2)], []⟩) (Weak.ren _ [] hC rfl (by repeat (first | exact True.intro | refine And.intro ?_ ?_ | exact DLead.same)) (by repeat (exact True.intro)) rfl rfl rfl) ?_
    refine AC.region ?_
    refine AL.p (by exact mv1 rfl) rfl ?_
    refine AL.p (by exact mv1 rfl) rfl ?_
    refine AL.p (by exact g_eqBr rfl rfl rfl) rfl ?_
    refine AL.p (by exact mv1 rfl) rfl ?_
    refine AL.yes rfl rfl rfl ?_
    refine AL.p (by exact mv1 rfl) rfl ?_
    refine AL.yes rfl rfl rfl ?_
    refine AL.p (by exact mv1 rfl) rfl ?_
    refine AL.yes rfl rfl rfl ?_
    refine AL.q (by exact h_pure en_sameInts rfl rfl (by repeat (first | exact rfl | exact DLead.same | refine ⟨_, _, rfl, ?_, ?_⟩)) hSN rfl) rfl ?_
    refine AL.p (by exact g_pickT (r := .d _) rfl rfl) rfl ?_
    refine AL.p (by exact mv1 rfl) rfl ?_
    refine AL.yes rfl rfl rfl ?_
    refine AL.p (by exact mv1 rfl) rfl ?_
    refine AL.yes rfl rfl rfl ?_
    refine AL.p (by exact mv1 rfl) rfl ?_
    refine AL.yes rfl rfl rfl ?_
    refine AL.p (by exact g_eqBr rfl rfl rfl) rfl ?_
    refine AL.p (by exact g_pickT (r := .d _) rfl rfl) rfl ?_
    refine AL.p (by exact mv1 rfl) rfl ?_
    refine AL.yes rfl rfl rfl ?_
    refine AL.p (by exact mv1 rfl) rfl ?_
    refine AL.yes rfl rfl rfl ?_
    refine AL.p (by exact mv1 rfl) rfl ?_
    refine AL.yes rfl rfl rfl ?_
    refine AL.p (by exact g_eqIr rfl rfl rfl) rfl ?_
    refine AL.p (by exact g_pickT (r := .d _) rfl rfl) rfl ?_
    refine AL.p (by exact mv1 rfl) rfl ?_
    refine AL.yes rfl rfl rfl ?_
    refine AL.p (by exact mv1 rfl) rfl ?_
    refine AL.yes rfl rfl rfl ?_
    refine AL.p (by exact mv1 rfl) rfl ?_
    refine AL.yes rfl rfl rfl ?_
    refine AL.p (by exact g_eqBr rfl rfl rfl) rfl ?_
    refine AL.p (by exact g_pickT (r := .d _) rfl rfl) rfl ?_
    refine AL.p (by exact mv1 rfl) rfl ?_
    refine AL.yes rfl rfl rfl ?_
    refine AL.p (by exact mv1 rfl) rfl ?_
    refine AL.yes rfl rfl rfl ?_
    refine AL.p (by exact mv1 rfl) rfl ?_
    refine AL.yes rfl rfl rfl ?_
    refine AL.p (by exact g_eqIr rfl rfl rfl) rfl ?_
    refine AL.p (by exact g_pickT (r := .d _) rfl rfl) rfl ?_
    refine AL.p (by exact as1 rfl) rfl ?_
    refine AL.nil (th_n (AC.ret (bq_r ?_)))
    exact ret1 rfl rfl
end Go.Proofs.YthafkkgmekgmoaaGreat
