/- Contracts of the functions of the program and of the reference, each proved by a walk through its code. -/
import Derived.WalkKit
import Derived.WalkSpells
import Derived.WalkLawsBesides
import Derived.Deep.Draws
import Derived.Lib.Hide
import Derived.Maps.AppendAt
import Derived.OwnWalk
import Derived.Deep.MidRow
import Derived.Laws.ResultCell
import Derived.Deep.Upon
import Derived.Great.FillDense
import Derived.Laws.Tables
import Derived.Laws.BytesArg
import Derived.Laws.MakeOwn
import Derived.Great.BuildSlice
import Derived.ArgAppend
import Derived.Deep.AppendSrc
import Derived.Test.YthafkkgmekgmoaaGreatProg
import Derived.KernelRfl
import Derived.Orders
import Derived.Laws.IdiomStrings
import Derived.Lib.AppendZerosOnto
import Derived.ProofKit
import Derived.OpenShut
import Derived.Lib.SliceRun
import Derived.Laws.StructEq
import Derived.ChangeKeysEq
import Derived.Sort.Grow
import Derived.Laws.RangeString
import Derived.Below
import Derived.Laws.Small
import Derived.MapKept
import Derived.WideMake
import Derived.Laws.IdiomCopy
import Derived.Shelf.Strings.Builder1
import Derived.Shelf.Strings.Builder2
import Derived.Shelf.Strings.OnBuilder
import Derived.Shelf.Bits.Mul64
import Derived.Test.YthafkkgmekgmoaaGreatRows
import Derived.Test.YthafkkgmekgmoaaGreatGCf7
set_option linter.all false
set_option maxRecDepth 20000
namespace Go.Proofs.YthafkkgmekgmoaaGreat
open Go.RowKit
theorem cut1 {c : List UInt8} {i : Nat} (h : i < c.length) : (bstr c).extract i (i + 1) = bstr [c.getD i 0] := by
 rw [bstr_cut c (Nat.le_succ _) (by omega)];congr 1;rw [List.take_add_one, List.drop_append, List.drop_of_length_le (by rw [List.length_take]; omega), List.nil_append, List.getElem?_eq_getElem h, List.length_take, Nat.min_eq_left (Nat.le_of_lt h), Nat.sub_self, List.drop_zero, List.getD_eq_getElem?_getD, List.getElem?_eq_getElem h]; rfl
theorem one63 {v : UInt8} : bstr [v] = bstr [63] ↔ v = 63 := by
 constructor
 ·intro h;have := bstr_inj h;simpa using this
 rintro rfl; rfl
theorem valS_col {s : Stg} {x : Ex} {k : Nat} (hL : ∀ a, a ∈ arcsOf s x → ArIn x.marks.length a) (h : clB s x k = false) : (valS (k : Int) (arcsOf s x) x.marks.length).1.length = x.marks.length ∧ ∀ i, i < x.marks.length → ((valS (k : Int) (arcsOf s x) x.marks.length).1.getD i 0 = 63 → colC s x k i = 48) ∧ (¬ (valS (k : Int) (arcsOf s x) x.marks.length).1.getD i 0 = 63 → colC s x k i = (valS (k : Int) (arcsOf s x) x.marks.length).1.getD i 0) := by
 unfold clB at h;unfold valS colC;cases hv : valF (k : Int) (arcsOf s x) x.marks.length with
 | none => rw [hv] at h; cases h
 | some V =>
  have hl := valF_len hL hv;refine ⟨by simp [encS_len, hl], fun i hi => ?_⟩;show ((encS V).getD i 0 = 63 → chB (vAt V i) = 48) ∧ (¬ (encS V).getD i 0 = 63 → chB (vAt V i) = (encS V).getD i 0)
  have e : (encS V).getD i 0 = encR (vAt V i) := by
   unfold encS;rw [List.getD_eq_getElem?_getD, List.getElem?_map, List.getElem?_eq_getElem (by omega), vAt_get (by omega)]; rfl
  rw [e];cases vAt V i with
  | none => exact ⟨fun _ => rfl, fun q => absurd rfl q⟩
  | some b => cases b <;> exact ⟨fun q => absurd q (by decide), fun _ => rfl⟩
set_option maxHeartbeats 16000000 in
theorem sBuild_spec (s : Stg) (hB : StgB s) : ASpec Tryz.prog 44 [stgA s] [] (Fun1 (.tup [.agg [.d (vSigs (codeS s).1.sigs), .own 0 (codeS s).1.codes.length, .own 1 (codeS s).1.arcs.length], aT (codeS s).2]) [(0, .arr 9 1 (tsX (codeS s).1.codes)), (1, .arr 75 4 (arL (codeS s).1.arcs))]) := by
 have hX := sExplore_spec s hB;have hXi := explS_in s;have hR : codeS s = if (explS s).2 = true ∧ (clL s (explS s).1 s.sigs.length).length = 0 ∧ (explS s).1.moves.length ≤ 4000 then (⟨s.sigs, mixC s (explS s).1 s.sigs.length 0, arcsOf s (explS s).1⟩, true) else (⟨[], [], []⟩, false) := rfl
 have hI : (explS s).2 = true → CodI s (explS s).1 := codI;obtain ⟨R, hRR⟩ : ∃ R, R = codeS s := ⟨_, rfl⟩;rw [← hRR] at hR ⊢;obtain ⟨X, hXX⟩ : ∃ X, X = explS s := ⟨_, rfl⟩;rw [← hXX] at hX hXi hR hI;clear hXX hRR;obtain ⟨x, ok⟩ := X;dsimp only at hX hXi hR hI;have hsg := hB.sg;have hm0 := mixC_zero s x;have hml := mixC_len s x;have hgt := fun (k i : Nat) (h : i < x.marks.length) => mixC_get (s := s) (k := k) h
 have hst := fun (k i : Nat) (h : i < x.marks.length) => mixC_set (s := s) (k := k) h
 have hnx := mixC_next s x;have hcl := fun k i => codeC_len s x k i
 have hz : (clL s x s.sigs.length).length = 0 ↔ ∀ k, k < s.sigs.length → clB s x k = false := clL_zero;have hzl := clL_len s x s.sigs.length;have hCl := fun h : ok = true => l5Clash_spec s x hsg (hI h)
 refine ASpec.of Tryz.func44 rfl rfl fun C hC => ?_
 refine AC.seq (AC.region ?_);refine AL.q (by exact h_boxF rfl rfl) rfl ?_;refine AL.q (by exact h_alloc rfl) rfl ?_;refine za ?_;refine AL.nil (th_n (AC.seq (AC.region ?_)));refine AL.p (by exact g_load_refN rfl rfl rfl rfl) rfl ?_;refine AL.q (by exact h_fun (cs := []) en_sExplore rfl rfl (by repeat (first | exact rfl | exact DLead.same | refine ⟨_, _, rfl, ?_, ?_⟩ | refine ⟨_, rfl, ?_⟩)) (by repeat (exact True.intro)) hX rfl rfl rfl rfl) rfl ?_;refine AL.p (by exact mv5 rfl) rfl ?_;refine AL.p (by exact g_extract (r := .agg _) rfl rfl) rfl ?_;refine AL.p (by exact g_extract (r := .d _) rfl rfl) rfl ?_;refine AL.q (by exact h_alloc rfl) rfl ?_;refine zs ?_;refine za ?_;refine AL.nil (th_n (AC.seq (AC.seq ?_)));refine AC.weak (Weak.freezeP (els' := tsX x.marks) 4 0 rfl rfl rfl rfl (by rw [tsX_len]; exact Nat.le_refl _) (List.take_of_length_le (by rw [tsX_len]; exact Nat.le_refl _)) rfl) ?_;refine AC.weak (Weak.freezeP (els' := mvL x.moves) 4 1 rfl rfl rfl rfl (by rw [mvL_len]; exact Nat.le_refl _) (List.take_of_length_le (by rw [mvL_len]; exact Nat.le_refl _)) rfl) ?_;refine AC.weak (t := ⟨110, 400, [(1, .d (.ref (stgD s))), (2, .ptr 202 0), (3, aT false), (4, .ptr 201 0), (5, aT ok)], [(201, some (.cells 35 (rgC x))), (202, some (.cells 68 zSG))]⟩) (zw [(201, _), (202, _)] hC) ?_;refine AC.region ?_;refine zm ?_;refine AL.p (by exact g_not rfl) rfl ?_;refine zm ?_;refine AL.caseGB rfl rfl (fun h0 => ?_) (fun h0 => ?_)
 ·refine zn ?_;refine zn ?_;refine zn ?_;refine zn ?_;refine zn ?_;refine zQ ?_;refine zm ?_;refine zn ?_;refine zn ?_;refine zn ?_;refine zn ?_;refine zQ ?_;refine AL.nil (th_n ?_);refine AC.condT rfl ?_;refine AC.seq (AC.region ?_);refine AL.p (by exact g_build rfl rfl rfl) rfl ?_;refine zs ?_;refine za ?_;refine AL.nil (th_n ?_);refine AC.weak ((Weak.nilOwnP 2 1 (e := 9) (sz := 1) rfl rfl rfl rfl rfl).trans (Weak.nilOwnP 2 2 (e := 75) (sz := 4) rfl rfl rfl rfl rfl)) ?_;refine AC.ret (th_r (bq_r ?_));have e : R = (⟨[], [], []⟩, false) := hR.trans (if_neg fun q => by have q1 := q.1; have q2 := q.2.1; have q3 := q.2.2; simp_all);exact retN [(0, _), (1, _)] rfl (by rw [e]; show AV.leads _ (.tup [.agg [.d (vSigs []), .own 0 0, .own 1 0], aT false]) _; repeat (first | exact DLead.same | exact DLead.nil | exact rfl | refine ⟨_, rfl, ?_⟩ | refine ⟨_, _, rfl, ?_, ?_⟩)) (by rw [e]; repeat (first | exact True.intro | refine And.intro ?_ ?_ | exact rfl | refine ⟨_, _, rfl, rfl, ?_⟩)) rfl rfl
 refine zy ?_;refine AL.p (by exact g_load_refN rfl rfl rfl rfl) rfl ?_;refine zy ?_;refine AL.p (by exact g_load_ptrN rfl rfl rfl rfl rfl) rfl ?_;refine zy ?_;refine AL.q (by exact h_pure en_l5Clash rfl rfl (by repeat (first | exact rfl | exact DLead.same | refine ⟨_, _, rfl, ?_, ?_⟩ | refine ⟨_, rfl, ?_⟩)) (hCl (by simp_all)) rfl) rfl ?_;refine zy ?_;refine AL.p (by exact g_len_view (k := (clL s x s.sigs.length).length) rfl rfl (ints_len _)) rfl ?_;refine zy ?_;refine zc ?_;refine zP ?_;refine zm ?_;refine AL.caseG rfl rfl (fun h1 => ?_) (fun h1 => ?_)
 ·refine zn ?_;refine zn ?_;refine zn ?_;refine zn ?_;refine zQ ?_;refine AL.nil (th_n ?_);refine AC.condT rfl ?_;refine AC.seq (AC.region ?_);refine AL.p (by exact g_build rfl rfl rfl) rfl ?_;refine zs ?_;refine za ?_;refine AL.nil (th_n ?_);refine AC.weak ((Weak.nilOwnP 2 1 (e := 9) (sz := 1) rfl rfl rfl rfl rfl).trans (Weak.nilOwnP 2 2 (e := 75) (sz := 4) rfl rfl rfl rfl rfl)) ?_;refine AC.ret (th_r (bq_r ?_));have e : R = (⟨[], [], []⟩, false) := hR.trans (if_neg fun q => by have q1 := q.1; have q2 := q.2.1; have q3 := q.2.2; (have := ‹((clL s x s.sigs.length).length : Int) > 0›; omega));exact retN [(0, _), (1, _)] rfl (by rw [e]; show AV.leads _ (.tup [.agg [.d (vSigs []), .own 0 0, .own 1 0], aT false]) _; repeat (first | exact DLead.same | exact DLead.nil | exact rfl | refine ⟨_, rfl, ?_⟩ | refine ⟨_, _, rfl, ?_, ?_⟩)) (by rw [e]; repeat (first | exact True.intro | refine And.intro ?_ ?_ | exact rfl | refine ⟨_, _, rfl, rfl, ?_⟩)) rfl rfl
 refine zy ?_;refine zF ?_;refine zy ?_;refine zl ?_;refine zy ?_;refine AL.p (by exact g_len_view (k := x.moves.length) rfl rfl (mvL_len _)) rfl ?_;refine zy ?_;refine zc ?_;refine zP ?_;refine AL.nil (th_n ?_);refine AC.condD rfl (fun h2 => ?_) (fun h2 => ?_)
 ·refine AC.seq (AC.region ?_);refine AL.p (by exact g_build rfl rfl rfl) rfl ?_;refine zs ?_;refine za ?_;refine AL.nil (th_n ?_);refine AC.weak ((Weak.nilOwnP 2 1 (e := 9) (sz := 1) rfl rfl rfl rfl rfl).trans (Weak.nilOwnP 2 2 (e := 75) (sz := 4) rfl rfl rfl rfl rfl)) ?_;refine AC.ret (th_r (bq_r ?_));have e : R = (⟨[], [], []⟩, false) := hR.trans (if_neg fun q => by have q1 := q.1; have q2 := q.2.1; have q3 := q.2.2; (have := ‹(x.moves.length : Int) > 4000›; omega));exact retN [(0, _), (1, _)] rfl (by rw [e]; show AV.leads _ (.tup [.agg [.d (vSigs []), .own 0 0, .own 1 0], aT false]) _; repeat (first | exact DLead.same | exact DLead.nil | exact rfl | refine ⟨_, rfl, ?_⟩ | refine ⟨_, _, rfl, ?_, ?_⟩)) (by rw [e]; repeat (first | exact True.intro | refine And.intro ?_ ?_ | exact rfl | refine ⟨_, _, rfl, rfl, ?_⟩)) rfl rfl
 refine AC.skip (th_n (AC.seq ?_));have hok : ok = true := by simp_all
 have hmv : x.moves.length ≤ 4000 := by have := ‹¬ (x.moves.length : Int) > 4000›; omega
 have hc0 : (clL s x s.sigs.length).length = 0 := by have := ‹¬ ((clL s x s.sigs.length).length : Int) > 0›; omega
 have hfine := hz.1 hc0;have hx := hI hok;have hV := fun k : Nat => l5Values_spec s x k hx.n1 (by omega) (by omega) hx.b hx.a
 have hcol := fun (k : Nat) (h : clB s x k = false) => valS_col hx.a h
 have hAl := arcsOf_len s x;have hat := fun j (hj : j < x.moves.length) => arcsOf_take (s := s) hj
 have hbb := hx.b;have e : R = (⟨s.sigs, mixC s x s.sigs.length 0, arcsOf s x⟩, true) := hR.trans (if_pos ⟨hok, hc0, hmv⟩);obtain ⟨A, hA⟩ : ∃ A, A = arcsOf s x := ⟨_, rfl⟩;simp only [← hA] at e hV hcol hAl hat;clear hR hI hX hCl hz hx hA;refine AC.drawn' mixed_ok [[], [], [1], [0,1,2], [], [4], [4,5], [4,5,6], [0,1,2,3,4,5,6,7], [], [0,1,2,3,4,5,6,7,8,9]] (by decide) ?_;refine zh 0 [] 11 (by exact h_lit rfl rfl rfl rfl rfl rfl rfl rfl) ?_;refine zd 1 [] 11 (by exact g_fa_ref rfl rfl rfl rfl rfl rfl) ?_;refine zd 2 [1] 11 (by exact g_load_ref rfl rfl rfl) ?_;refine zh 3 [0,1,2] 11 (by exact h_appendSg [] s.sigs (.own rfl rfl rfl) (.view rfl) (by simp; omega) (by simp)) ?_;refine zd 4 [] 11 (by exact g_fa_ptr rfl rfl rfl rfl rfl) ?_;refine zd 5 [4] 11 (by exact g_load_ptr rfl rfl rfl rfl rfl) ?_;refine zd 6 [4,5] 11 (by exact g_len_view (k := x.marks.length) rfl rfl (tsX_len _)) ?_;refine zh 7 [4,5,6] 11 (by exact h_make (k := x.marks.length) rfl rfl rfl rfl rfl rfl rfl rfl (by show 16 * x.marks.length ≤ _; omega) (by omega)) ?_;refine zd 8 [0,1,2,3,4,5,6,7] 11 (by exact g_build rfl rfl rfl) ?_;refine zh 9 [] 11 (by exact h_alloc rfl) ?_;refine zh 10 (List.range 10) 11 (by exact h_store rfl rfl rfl rfl rfl rfl) ?_;refine zj 11 ?_;refine th_n (AC.seq (AC.seq ?_));refine AC.weak (Weak.freezeP (els' := sigsL s.sigs) 6 0 rfl rfl rfl rfl (Nat.le_of_eq (sigsL_len _).symm) (List.take_of_length_le (Nat.le_of_eq (sigsL_len _))) rfl) ?_;refine AC.region ?_;refine zf ?_;refine zr ?_;refine AL.p (by exact g_len_view (k := s.sigs.length) rfl rfl (sigsL_len _)) rfl ?_;refine zm ?_;refine AL.nil (th_n (AC.block ?_));refine AC.loop (ι := Nat) (fun k => ⟨110, 600, [(1, .d (.ref (stgD s))), (2, .ptr 202 0), (4, .ptr 201 0), (6, .ptr 203 0), (47, aI s.sigs.length), (48, aI k)], [(201, some (.cells 35 (rgC x))), (202, some (.cells 68 zSG)), (203, some (.cells 68 [.d (vSigs s.sigs), .own 100 x.marks.length, .d (.val (.slice none 0 0))])), (100, some (.arr 9 1 (tsX (mixC s x k 0))))]⟩) (fun k => k ≤ s.sigs.length) (fun k => s.sigs.length - k) (0) ?_ (Nat.zero_le _) ?_
 ·exact zw [(201, _), (202, _), (203, _), (100, _)] hC (b := by rw [hm0]; repeat (first | exact True.intro | refine And.intro ?_ ?_ | exact DLead.same | exact rfl | refine ⟨_, _, rfl, rfl, ?_⟩ | refine ⟨_, rfl, ?_⟩ | refine ⟨_, _, rfl, ?_, ?_⟩))
 rintro k hk;refine AC.seq (AC.region ?_);refine zc ?_;refine AL.nil (th_n (AC.seq ?_));refine AC.condD rfl (fun h3 => ?_) (fun h3 => ?_)
 ·refine AC.skip (th_n (AC.seq (AC.block (AC.seq ?_))));have hk1 : k < s.sigs.length := by omega
  have hVk := hV k;obtain ⟨hBl, hBg⟩ := hcol k (hfine k hk1);obtain ⟨B, hBB⟩ : ∃ B, B = valS (k : Int) A x.marks.length := ⟨_, rfl⟩;rw [← hBB] at hVk hBl;simp only [← hBB] at hBg;clear hBB;refine AC.region ?_;refine zm ?_;refine za ?_;refine AL.nil (th_n (AC.seq (AC.region ?_)));refine AL.p (by exact g_load_refN rfl rfl rfl rfl) rfl ?_;refine AL.p (by exact g_load_ptrN rfl rfl rfl rfl rfl) rfl ?_;refine zm ?_;refine AL.q (by exact h_pure en_l5Values rfl rfl (by repeat (first | exact rfl | exact DLead.same | refine ⟨_, _, rfl, ?_, ?_⟩ | refine ⟨_, rfl, ?_⟩)) hVk rfl) rfl ?_;refine AL.p (by exact mv5 rfl) rfl ?_;refine AL.p (by exact g_extract (r := .d _) rfl rfl) rfl ?_;refine AL.p (by exact g_extract (r := .d _) rfl rfl) rfl ?_;refine za ?_;refine za ?_;refine AL.nil (th_n (AC.seq (AC.region ?_)));refine zF ?_;refine zl ?_;refine AL.p (by exact g_len_own (sz := 1) (els := []) (e' := 0) rfl rfl (by simp only [maxLen]; omega)) rfl ?_;refine zm ?_;refine AL.nil (th_n (AC.block ?_));refine AC.loop (ι := Nat) (fun i => ⟨110, 900, [(1, .d (.ref (stgD s))), (2, .ptr 202 0), (4, .ptr 201 0), (6, .ptr 203 0), (8, aS (bstr B.1)), (47, aI s.sigs.length), (48, aI k), (60, aI x.marks.length), (61, aI i)], [(201, some (.cells 35 (rgC x))), (202, some (.cells 68 zSG)), (203, some (.cells 68 [.d (vSigs s.sigs), .own 100 x.marks.length, .d (.val (.slice none 0 0))])), (100, some (.arr 9 1 (tsX (mixC s x k i))))]⟩) (fun i => i ≤ x.marks.length) (fun i => x.marks.length - i) (0) ?_ (Nat.zero_le _) ?_
  ·exact zw [(201, 201), (202, 202), (203, 203), (100, 100)] hC
  intro i hi;refine AC.seq (AC.region ?_);refine zc ?_;refine AL.nil (th_n (AC.seq ?_));refine AC.condD rfl (fun h4 => ?_) (fun h4 => ?_)
  ·refine AC.skip (th_n (AC.seq (AC.block (AC.seq ?_))));have hi1 : i < x.marks.length := by omega
   have hcut := cut1 (c := B.1) (i := i) (by omega);have hgb := hBg i hi1;have hrow := hgt k i hi1;have hset := hst k i hi1;have hcki := hcl k i;have hsz : (bstr B.1).size = x.marks.length := by rw [bstr_size, hBl]
   obtain ⟨c, hc⟩ : ∃ c, c = colC s x k i := ⟨_, rfl⟩;obtain ⟨w, hw⟩ : ∃ w, w = codeC s x k i := ⟨_, rfl⟩;obtain ⟨v, hv⟩ : ∃ v, v = B.1.getD i 0 := ⟨_, rfl⟩;rw [← hc, ← hv] at hgb;rw [← hc] at hset;rw [← hw] at hrow hset hcki;rw [← hv] at hcut;refine AC.region ?_;refine zm ?_;refine za ?_;refine AL.nil (th_n (AC.seq (AC.region ?_)));refine zm ?_;refine zm ?_;refine zm ?_;refine zA ?_;refine AL.p (by exact g_slice_str (l := i) (h := i + 1) rfl rfl (.some rfl rfl) (.some rfl rfl) (Nat.le_succ _) (by omega) hcut) rfl ?_;refine za ?_;refine AL.nil (th_n ?_);refine AC.cut (fun (z : UInt8) => ⟨110, 1200, [(1, .d (.ref (stgD s))), (2, .ptr 202 0), (4, .ptr 201 0), (6, .ptr 203 0), (8, aS (bstr B.1)), (10, aI i), (11, aS (bstr [z])), (47, aI s.sigs.length), (48, aI k), (60, aI x.marks.length), (61, aI i)], [(201, some (.cells 35 (rgC x))), (202, some (.cells 68 zSG)), (203, some (.cells 68 [.d (vSigs s.sigs), .own 100 x.marks.length, .d (.val (.slice none 0 0))])), (100, some (.arr 9 1 (tsX (mixC s x k i))))]⟩) (fun z => z = c) ?_ ?_
   ·refine AC.seq (AC.region ?_);refine zm ?_;refine AL.p (by exact g_scmp rfl rfl rfl) rfl ?_;refine AL.nil (th_n ?_);refine AC.condD rfl (fun h5 => ?_) (fun h5 => ?_)
    ·refine AC.region ?_;refine za ?_;refine AL.nil (th_n ?_)
     (have q := ‹bstr [v] = bstr [63]›; exact ⟨48, (hgb.1 (one63.1 q)).symm, zw [(201, 201), (202, 202), (203, 203), (100, 100)] hC⟩)
    refine AC.skip (th_n ?_)
    (have q := ‹¬ bstr [v] = bstr [63]›; exact ⟨v, (hgb.2 fun g => q (one63.2 g)).symm, zw [(201, 201), (202, 202), (203, 203), (100, 100)] hC⟩)
   rintro z rfl;refine AC.region ?_;refine zF ?_;refine zl ?_;refine zm ?_;refine AL.p (by exact g_ia_own (i := i) (l := x.marks.length) rfl rfl rfl rfl rfl rfl hi1 rfl) rfl ?_;refine AL.p (by exact g_load_arr1 rfl rfl rfl rfl (by rw [Nat.mul_one]; exact hrow)) rfl ?_;refine zm ?_;refine AL.p (by exact g_sadd rfl rfl (by simp only [ByteArray.size_append, bstr_size, List.length_cons, List.length_nil]; omega)) rfl ?_;refine AL.p (by exact g_ia_own (i := i) (l := x.marks.length) rfl rfl rfl rfl rfl rfl hi1 rfl) rfl ?_;refine AL.q (by exact h_store_arr (i := i) (j := 0) (d := dS (bstr w ++ bstr [z])) rfl rfl rfl rfl .same rfl hrow (by decide)) rfl ?_;refine AL.nil (ib_n (th_n (AC.region ?_)));refine zA ?_;refine zm ?_;refine AL.nil (th_n ?_);exact ⟨i + 1, by omega, by omega, zw [(201, 201), (202, 202), (203, 203), (100, 100)] hC (b := by rw [← hset]; repeat (first | exact True.intro | refine And.intro ?_ ?_ | exact DLead.same | exact rfl | refine ⟨_, _, rfl, rfl, ?_⟩ | refine ⟨_, rfl, ?_⟩ | refine ⟨_, _, rfl, ?_, ?_⟩))⟩
  refine AC.exit (th_e (th_e (ib_y (ib_n (th_n (AC.region ?_))))));refine zA ?_;refine zm ?_;refine AL.nil (th_n ?_);have hii : i = x.marks.length := by omega
  exact ⟨k + 1, by omega, by omega, zw [(201, 201), (202, 202), (203, 203), (100, 100)] hC (b := by rw [← hnx, ← hii]; repeat (first | exact True.intro | refine And.intro ?_ ?_ | exact DLead.same | exact rfl | refine ⟨_, _, rfl, rfl, ?_⟩ | refine ⟨_, rfl, ?_⟩ | refine ⟨_, _, rfl, ?_, ?_⟩))⟩
 refine AC.exit (th_e (th_e (ib_y (th_n (AC.seq (AC.seq ?_))))));have hkk : k = s.sigs.length := by omega
 rw [hkk];refine AC.region ?_;refine zF ?_;refine zl ?_;refine AL.p (by exact g_len_view (k := x.moves.length) rfl rfl (mvL_len _)) rfl ?_;refine zm ?_;refine AL.nil (th_n (AC.block ?_));refine AC.loop (ι := Nat) (fun j => ⟨110, 900, [(1, .d (.ref (stgD s))), (2, .ptr 202 0), (6, .ptr 203 0), (82, .d (vMvs x.moves)), (83, aI x.moves.length), (84, aI j)], [(202, some (.cells 68 zSG)), (203, some (.cells 68 [.d (vSigs s.sigs), .own 100 x.marks.length, .own 101 j])), (100, some (.arr 9 1 (tsX (mixC s x s.sigs.length 0)))), (101, some (.arr 75 4 (arL (A.take j))))]⟩) (fun j => j ≤ x.moves.length) (fun j => x.moves.length - j) (0) ?_ (Nat.zero_le _) ?_
 ·exact (Weak.nilOwnP 6 2 (e := 75) (sz := 4) rfl rfl rfl rfl rfl).trans (zw [(202, 202), (203, 203), (100, 100), (101, _)] hC)
 intro j hj;refine AC.seq (AC.region ?_);refine zc ?_;refine AL.nil (th_n (AC.seq ?_));refine AC.condD rfl (fun h4 => ?_) (fun h4 => ?_)
 ·refine AC.skip (th_n (AC.seq (AC.block (AC.seq ?_))));have hj1 : j < x.moves.length := by omega
  have hget := mvL_get hj1;have hbv := hbb _ (List.getElem_mem hj1);have hstj := hat j hj1;have htl : (A.take j).length = j := by rw [List.length_take]; omega
  obtain ⟨v, hv⟩ : ∃ v, v = x.moves[j] := ⟨_, rfl⟩;rw [← hv] at hget hbv hstj;clear hv;obtain ⟨t, ht⟩ : ∃ t, t = v.by_.toNat := ⟨_, rfl⟩;have e1 : v.by_ = (t : Int) := by omega
  unfold arcOf at hstj;rw [← ht] at hstj;rw [e1] at hget;have hlt : t < s.labs.length := by omega
  have hgl : (labsL s.labs)[t]? = some [dI (lAt s.labs t).sig, dT (lAt s.labs t).up] := by rw [lAt_nat hlt, List.getElem?_map, List.getElem?_eq_getElem hlt]; rfl
  obtain ⟨l, hl⟩ : ∃ l, l = lAt s.labs t := ⟨_, rfl⟩;rw [← hl] at hstj hgl;clear hl;refine AC.region ?_;refine AL.p (by exact g_ia_view rfl rfl rfl rfl rfl (by rfl) (by assumption)) rfl ?_;refine AL.p (by exact g_load_refN rfl rfl rfl rfl) rfl ?_;refine AL.q (by exact h_alloc rfl) rfl ?_;refine zs ?_;refine AL.nil (th_n (AC.seq (AC.region ?_)));refine zf ?_;refine zr ?_;refine zF ?_;refine zl ?_;refine AL.p (by exact g_ia_view (i := t) rfl rfl rfl rfl rfl rfl hgl) rfl ?_;refine AL.p (by exact g_load_refN rfl rfl rfl rfl) rfl ?_;refine AL.q (by exact h_alloc rfl) rfl ?_;refine zs ?_;refine AL.nil (th_n (AC.region ?_));refine zF ?_;refine zl ?_;refine zF ?_;refine zl ?_;refine zF ?_;refine zl ?_;refine zF ?_;refine zl ?_;refine zF ?_;refine zl ?_;refine AL.p (by exact g_build rfl rfl rfl) rfl ?_;refine AL.q (by exact h_litF rfl rfl rfl rfl rfl rfl rfl rfl) rfl ?_;refine AL.q (by exact h_appendAr (A.take j) [⟨v.from_, l.sig, l.up, v.to_⟩] (.own rfl rfl (by rw [arL_len, htl])) (.view rfl) (by rw [List.length_append, htl]; simp only [List.length_cons, List.length_nil]; omega) (by simp)) rfl ?_;refine zF ?_;refine zs ?_;refine AL.nil (ib_n (th_n (AC.region ?_)));refine zA ?_;refine zm ?_;refine AL.nil (th_n ?_);exact ⟨j + 1, by omega, by omega, zw [(202, 202), (203, 203), (100, 100), (101, _)] hC (b := by rw [List.length_append, htl, hstj]; repeat (first | exact True.intro | refine And.intro ?_ ?_ | exact DLead.same | exact rfl | refine ⟨_, _, rfl, rfl, ?_⟩ | refine ⟨_, rfl, ?_⟩ | refine ⟨_, _, rfl, ?_, ?_⟩))⟩
 refine AC.exit (th_e (th_e (ib_y (th_n (AC.seq ?_)))));have hjj : j = x.moves.length := by omega
 rw [hjj, ← hAl, List.take_length];refine AC.region ?_;refine AL.p (by exact g_load_ptrN rfl rfl rfl rfl rfl) rfl ?_;refine zs ?_;refine za ?_;refine AL.nil (th_n (AC.ret (bq_r ?_)));exact retN [(0, 100), (1, 101)] rfl (by rw [e]; show AV.leads _ (.tup [.agg [.d (vSigs s.sigs), .own 0 (mixC s x s.sigs.length 0).length, .own 1 A.length], aT true]) _; rw [hml]; repeat (first | exact DLead.same | exact rfl | refine ⟨_, rfl, ?_⟩ | refine ⟨_, _, rfl, ?_, ?_⟩)) (by rw [e]; repeat (first | exact True.intro | refine And.intro ?_ ?_ | exact rfl | refine ⟨_, _, rfl, rfl, ?_⟩)) rfl rfl
theorem en_sBuild : Enters Tryz.prog 44 := enters_of Tryz.func44 rfl rfl
set_option maxHeartbeats 1000000 in
theorem l5Code_spec (m : List UInt8) (n : Int) (hm : m.length ≤ 2000000) : ASpec Tryz.prog 206 [aS (bstr m), aI n] [] (Pure1 (aT (bitsB m n))) := by
 have hsz := bstr_size m;refine ASpec.of Tryz.func206 rfl rfl fun C hC => ?_
 refine AC.seq (AC.region ?_);refine za ?_;refine AL.nil (th_n (AC.seq (AC.seq (AC.region ?_))));refine za ?_;refine AL.nil (th_n (AC.block ?_));refine AC.loop (ι := Nat) (fun k => ⟨26, 0, [(0, aS (bstr m)), (1, aI n), (5, aI k)], []⟩) (fun k => k ≤ m.length ∧ ∀ j (hj : j < m.length), j < k → bit m[j] = true) (fun k => m.length - k) (0) ?_ (⟨Nat.zero_le _, fun j _ hj => by omega⟩) ?_
 ·refine Weak.ren _ [] hC rfl ?_ ?_ rfl rfl rfl <;> repeat (first | exact True.intro | refine And.intro ?_ ?_ | exact DLead.same)
 intro k ⟨hk, hall⟩;refine AC.seq (AC.seq (AC.region ?_));refine zm ?_;refine zm ?_;refine AL.p (by exact g_len_str rfl rfl rfl) rfl ?_;refine zc ?_;refine AL.nil (th_n ?_);refine AC.condD rfl (fun h0 => ?_) (fun h0 => ?_)
 ·refine AC.skip (th_n (AC.seq (AC.block (AC.seq ?_))));have hk1 : k < m.length := by omega
  have hget := bstr_at hk1;have hlt := m[k].toNat_lt;refine AC.region ?_;refine zm ?_;refine zm ?_;refine AL.p (by exact g_index rfl rfl rfl (by rfl) (by assumption)) rfl ?_;refine zc ?_;refine zm ?_;refine AL.caseGN rfl rfl (fun h1 => ?_) (fun h1 => ?_)
  ·refine zy ?_;refine zm ?_;refine zy ?_;refine zm ?_;refine zy ?_;refine AL.p (by exact g_index rfl rfl rfl (by rfl) (by assumption)) rfl ?_;refine zy ?_;refine zc ?_;refine zQ ?_;refine AL.nil (th_n ?_);refine AC.condND rfl (fun h2 => ?_) (fun h2 => ?_)
   ·refine AC.seq (AC.region ?_);refine za ?_;refine AL.nil (th_n (AC.ret (ib_r (th_r (th_r (ib_r (th_r (bq_r ?_))))))));have hb : bit m[k] = false := by simp_all [bit]
    exact ret1 rfl (by rw [bitsB, not_bits hk1 hb]; rfl)
   refine AC.skip (ib_n (th_n (AC.region ?_)));refine zm ?_;refine zA ?_;refine za ?_;refine AL.nil (th_n ?_);have hb : bit m[k] = true := by simp_all [bit]
   exact ⟨k + 1, ⟨by omega, fun j hj hj2 => by rcases Nat.lt_succ_iff_lt_or_eq.1 hj2 with h | rfl; exact hall j hj h; exact hb⟩, by omega, Weak.ren _ [] hC rfl (by repeat (first | exact True.intro | refine And.intro ?_ ?_ | exact DLead.same)) (by repeat (exact True.intro)) rfl rfl rfl⟩
  refine zn ?_;refine zn ?_;refine zn ?_;refine zn ?_;refine zP ?_;refine AL.nil (th_n ?_);refine AC.condF rfl ?_;refine AC.skip (ib_n (th_n (AC.region ?_)));refine zm ?_;refine zA ?_;refine za ?_;refine AL.nil (th_n ?_);have hb : bit m[k] = true := by simp_all [bit]
  exact ⟨k + 1, ⟨by omega, fun j hj hj2 => by rcases Nat.lt_succ_iff_lt_or_eq.1 hj2 with h | rfl; exact hall j hj h; exact hb⟩, by omega, Weak.ren _ [] hC rfl (by repeat (first | exact True.intro | refine And.intro ?_ ?_ | exact DLead.same)) (by repeat (exact True.intro)) rfl rfl rfl⟩
 refine AC.exit (th_e (th_e (ib_y (th_n (AC.seq (AC.region ?_))))));refine zm ?_;refine AL.p (by exact g_len_str rfl rfl rfl) rfl ?_;refine zm ?_;refine zc ?_;refine za ?_;refine AL.nil (th_n (AC.ret (bq_r ?_)));exact ret1 rfl (by rw [bitsB, all_bits (fun j hj => hall j hj (by omega)), hsz]; rfl)
theorem en_l5Code : Enters Tryz.prog 206 := enters_of Tryz.func206 rfl rfl
def fitB (a : Ar) (x y : UInt8) (i : Nat) : Bool := if (i : Int) = a.sig then !(decide ((x.toNat : Int) = 49) == a.up) && (decide ((y.toNat : Int) = 49) == a.up) else decide ((x.toNat : Int) = y.toNat)
def fitI (a : Ar) (x y : List UInt8) : Bool := (List.range x.length).all fun i => fitB a (x.getD i 0) (y.getD i 0) i
theorem fitI_no {a : Ar} {x y : List UInt8} {k : Nat} (hk : k < x.length) (h : fitB a (x.getD k 0) (y.getD k 0) k = false) : fitI a x y = false := List.all_eq_false.2 ⟨k, List.mem_range.2 hk, by rw [h]; decide⟩
theorem fitI_yes {a : Ar} {x y : List UInt8} (h : ∀ k, k < x.length → fitB a (x.getD k 0) (y.getD k 0) k = true) : fitI a x y = true := List.all_eq_true.2 fun k hk => h k (List.mem_range.1 hk)
theorem getD_bs {l : List UInt8} {k : Nat} (h : k < l.length) : (bstr l).data.toList[k]? = some (l.getD k 0) := by
 rw [bstr_data, List.getElem?_eq_getElem h, List.getD_eq_getElem?_getD, List.getElem?_eq_getElem h]; rfl
set_option maxHeartbeats 2000000 in
theorem fitsCodes_spec (a : Ar) (x y : List UInt8) (hx : x.length ≤ 2000000) (hxy : y.length = x.length) : ASpec Tryz.prog 141 [arA a, aS (bstr x), aS (bstr y)] [] (Pure1 (aT (fitI a x y))) := by
 have hsz := bstr_size x;refine ASpec.of Tryz.func141 rfl rfl fun C hC => ?_
 refine AC.seq (AC.region ?_);refine AL.q (by exact h_boxF rfl rfl) rfl ?_;refine za ?_;refine AL.nil (th_n (AC.seq (AC.seq (AC.region ?_))));refine zm ?_;refine AL.p (by exact g_len_str rfl rfl rfl) rfl ?_;refine zm ?_;refine AL.nil (th_n (AC.block ?_));refine AC.loop (ι := Nat) (fun k => ⟨43, 300, [(1, aS (bstr x)), (2, aS (bstr y)), (3, .d (.ref (arD a))), (9, aI x.length), (10, aI k)], []⟩) (fun k => k ≤ x.length ∧ ∀ j, j < k → fitB a (x.getD j 0) (y.getD j 0) j = true) (fun k => x.length - k) (0) ?_ (⟨Nat.zero_le _, fun j hj => absurd hj (Nat.not_lt_zero _)⟩) ?_
 ·refine Weak.ren _ [] hC rfl ?_ ?_ rfl rfl rfl <;> repeat (first | exact True.intro | refine And.intro ?_ ?_ | exact DLead.same)
 rintro k ⟨hk, hall⟩;refine AC.seq (AC.region ?_);refine zc ?_;refine AL.nil (th_n (AC.seq ?_));refine AC.condD rfl (fun h0 => ?_) (fun h0 => ?_)
 ·refine AC.skip (th_n (AC.seq (AC.block (AC.seq ?_))));have hk1 : k < x.length := by omega
  have hgx := getD_bs hk1;have hgy := getD_bs (l := y) (k := k) (by omega);have hfn := fitI_no (a := a) (y := y) hk1;have hfb : fitB a (x.getD k 0) (y.getD k 0) k = if (k : Int) = a.sig then !(decide (((x.getD k 0).toNat : Int) = 49) == a.up) && (decide (((y.getD k 0).toNat : Int) = 49) == a.up) else decide (((x.getD k 0).toNat : Int) = (y.getD k 0).toNat) := rfl
  obtain ⟨b, hb⟩ : ∃ b, b = x.getD k 0 := ⟨_, rfl⟩;obtain ⟨c, hc⟩ : ∃ b, b = y.getD k 0 := ⟨_, rfl⟩;have hnxt : fitB a b c k = true → ∀ j, j < k + 1 → fitB a (x.getD j 0) (y.getD j 0) j = true := fun q j hj => by rcases Nat.lt_succ_iff_lt_or_eq.1 hj with h | rfl; exact hall j h; rw [← hb, ← hc]; exact q
  rw [← hb] at hgx;rw [← hc] at hgy;rw [← hb, ← hc] at hfn hfb;clear hb hc;refine AC.region ?_;refine zm ?_;refine za ?_;refine AL.nil (th_n (AC.block (AC.seq (AC.region ?_))));refine zm ?_;refine zf ?_;refine zr ?_;refine zc ?_;refine za ?_;refine AL.nil (th_n ?_);refine AC.condND rfl (fun h1 => ?_) (fun h1 => ?_)
  ·refine AC.seq ?_;refine AC.drawn' mixed_ok [[], [], [0,1], [], [], [3,4], [0,1,2,3,4,5]] (by decide) ?_;refine zd 0 [] 7 (by exact mv1 rfl) ?_;refine zd 1 [] 7 (by exact mv1 rfl) ?_;refine zd 2 [0,1] 7 (by exact g_index rfl rfl rfl (by rfl) (by assumption)) ?_;refine zd 3 [] 7 (by exact mv1 rfl) ?_;refine zd 4 [] 7 (by exact mv1 rfl) ?_;refine zd 5 [3,4] 7 (by exact g_index rfl rfl rfl (by rfl) (by assumption)) ?_;refine zd 6 [0,1,2,3,4,5] 7 (by exact g_cmp rfl rfl rfl) ?_;refine zj 7 ?_;refine th_n ?_;refine AC.condND rfl (fun h2 => ?_) (fun h2 => ?_)
   ·refine AC.seq (AC.region ?_);refine za ?_;refine AL.nil (th_n (AC.ret (ib_r (ib_r (th_r (th_r (ib_r (th_r (bq_r ?_)))))))));exact ret1 rfl (by rw [hfn (by rw [hfb]; simp_all)])
   refine AC.skip (ib_n (ib_n (th_n (AC.region ?_))));refine zA ?_;refine zm ?_;refine AL.nil (th_n ?_);exact ⟨k + 1, ⟨by omega, hnxt (by rw [hfb]; simp_all)⟩, by omega, Weak.ren _ [] hC rfl (by repeat (first | exact True.intro | refine And.intro ?_ ?_ | exact DLead.same)) (by repeat (exact True.intro)) rfl rfl rfl⟩
  refine AC.seq ?_;refine AC.drawn' mixed_ok [[], [], [0,1], [0,1,2], [], [4], [0,1,2,3,4,5], [0,1,2,3,4,5,6], [0,1,2,3,4,5,6,7], [0,1,2,3,4,5,6,7], [0,1,2,3,4,5,6,7,8,9], [0,1,2,3,4,5,6,7,8,9,10], [0,1,2,3,4,5,6,7], [0,1,2,3,4,5,6,7,12], [0,1,2,3,4,5,6,7,8,9,10,11,12,13], [0,1,2,3,4,5,6,7,8,9,10,11,12,13,14], [0,1,2,3,4,5,6,7,8,9,10,11,12,13,14,15]] (by decide) ?_;refine zd 0 [] 17 (by exact mv1 rfl) ?_;refine zd 1 [] 17 (by exact mv1 rfl) ?_;refine zd 2 [0,1] 17 (by exact g_index rfl rfl rfl (by rfl) (by assumption)) ?_;refine zd 3 [0,1,2] 17 (by exact g_cmp rfl rfl rfl) ?_;refine zd 4 [] 17 (by exact g_fa_ref rfl rfl rfl rfl rfl rfl) ?_;refine zd 5 [4] 17 (by exact g_load_ref rfl rfl rfl) ?_;refine zd 6 [0,1,2,3,4,5] 17 (by exact g_eqB rfl rfl rfl) ?_;refine zd 7 [0,1,2,3,4,5,6] 17 (by exact mv1 rfl) ?_;refine DF.caseD 7 rfl (fun h2 => ?_) (fun h2 => ?_)
  ·refine zg 8 [0,1,2,3,4,5,6,7] 17 ?_;refine zg 9 [0,1,2,3,4,5,6,7] 17 ?_;refine zg 10 (List.range 10) 17 ?_;refine zg 11 (List.range 11) 17 ?_;refine zg 12 [0,1,2,3,4,5,6,7] 17 ?_;refine zg 13 [0,1,2,3,4,5,6,7,12] 17 ?_;refine zg 14 (List.range 14) 17 ?_;refine zd 15 (List.range 15) 17 (by exact g_pickT (r := .d _) rfl rfl) ?_;refine zd 16 (List.range 16) 17 (by exact as1 rfl) ?_;refine zj 17 ?_;refine th_n ?_;refine AC.condT rfl ?_;refine AC.seq (AC.region ?_);refine za ?_;refine AL.nil (th_n (AC.ret (ib_r (ib_r (th_r (th_r (ib_r (th_r (bq_r ?_)))))))));exact ret1 rfl (by rw [hfn (by rw [hfb]; simp_all)])
  refine ze 8 [0,1,2,3,4,5,6,7] 17 (by exact mv1 rfl) ?_;refine ze 9 [0,1,2,3,4,5,6,7] 17 (by exact mv1 rfl) ?_;refine ze 10 (List.range 10) 17 (by exact g_index rfl rfl rfl (by rfl) (by assumption)) ?_;refine ze 11 (List.range 11) 17 (by exact g_cmp rfl rfl rfl) ?_;refine ze 12 [0,1,2,3,4,5,6,7] 17 (by exact g_fa_ref rfl rfl rfl rfl rfl rfl) ?_;refine ze 13 [0,1,2,3,4,5,6,7,12] 17 (by exact g_load_ref rfl rfl rfl) ?_;refine ze 14 (List.range 14) 17 (by exact g_neB rfl rfl rfl) ?_;refine zd 15 (List.range 15) 17 (by exact g_pickF (r := .d _) rfl rfl) ?_;refine zd 16 (List.range 16) 17 (by exact as1 rfl) ?_;refine zj 17 ?_;refine th_n ?_;refine AC.condND rfl (fun h3 => ?_) (fun h3 => ?_)
  ·refine AC.seq (AC.region ?_);refine za ?_;refine AL.nil (th_n (AC.ret (ib_r (ib_r (th_r (th_r (ib_r (th_r (bq_r ?_)))))))));exact ret1 rfl (by rw [hfn (by rw [hfb]; simp_all)])
  refine AC.skip (ib_n (ib_n (th_n (AC.region ?_))));refine zA ?_;refine zm ?_;refine AL.nil (th_n ?_);exact ⟨k + 1, ⟨by omega, hnxt (by rw [hfb]; simp_all)⟩, by omega, Weak.ren _ [] hC rfl (by repeat (first | exact True.intro | refine And.intro ?_ ?_ | exact DLead.same)) (by repeat (exact True.intro)) rfl rfl rfl⟩
 refine AC.exit (th_e (th_e (ib_y (th_n (AC.seq (AC.region ?_))))));refine za ?_;refine AL.nil (th_n (AC.ret (bq_r ?_)));exact ret1 rfl (by rw [fitI_yes fun j hj => hall j (by omega)])
theorem en_fitsCodes : Enters Tryz.prog 141 := enters_of Tryz.func141 rfl rfl
def arcE (L : List Ar) : List (Nat × Nat) := L.map fun a => (a.from_.toNat, a.to_.toNat)
theorem arcE_len (L : List Ar) : (arcE L).length = L.length := List.length_map _
theorem arcE_get {L : List Ar} {j : Nat} (h : j < L.length) : (arcE L)[j]'(by rw [arcE_len]; exact h) = (L[j].from_.toNat, L[j].to_.toNat) := by simp [arcE]
theorem arcE_take {L : List Ar} {k : Nat} (h : k < L.length) : (arcE L).take (k + 1) = (arcE L).take k ++ [(L[k].from_.toNat, L[k].to_.toNat)] := by
 rw [List.take_add_one, List.getElem?_eq_getElem (by rw [arcE_len]; exact h), arcE_get h]; rfl
theorem arcE_in {L : List Ar} {n : Nat} (h : ∀ a, a ∈ L → ArIn n a) : ∀ f t, (f, t) ∈ arcE L → f < n ∧ t < n := fun f t hm => by
 unfold arcE at hm;obtain ⟨a, ha, he⟩ := List.mem_map.1 hm;have := h a ha;cases he;unfold ArIn at this;omega
set_option maxHeartbeats 2000000 in
theorem arcSteps_spec (L : List Ar) (hl : L.length ≤ 1000000) (hp : ∀ v, v ∈ L → 0 ≤ v.from_ ∧ 0 ≤ v.to_) : ASpec Tryz.prog 142 [.d (vArs L)] [] (Pure1 (.d (vSteps (arcE L)))) := by
 have hel := arcE_len L;have hE := fun k (hk : k < L.length) => arcE_take hk
 obtain ⟨E, hEE⟩ : ∃ E, E = arcE L := ⟨_, rfl⟩;simp only [← hEE] at hE hel ⊢;clear hEE;refine ASpec.of Tryz.func142 rfl rfl fun C hC => ?_
 refine AC.seq (AC.region ?_);refine za ?_;refine AL.nil (th_n (AC.seq (AC.region ?_)));refine AL.q (by exact h_lit rfl rfl rfl rfl rfl rfl rfl rfl) rfl ?_;refine AL.p (by exact as2 rfl) rfl ?_;refine AL.nil (th_n (AC.seq (AC.seq (AC.region ?_))));refine zm ?_;refine AL.p (by exact g_len_view (k := L.length) rfl rfl (arL_len _)) rfl ?_;refine zm ?_;refine AL.nil (th_n (AC.block ?_));refine AC.loop (ι := Nat) (fun j => ⟨23, 300, [(3, .own 100 j), (7, .d (vArs L)), (8, aI L.length), (9, aI j)], [(100, some (.arr 138 2 (stepL (E.take j))))]⟩) (fun j => j ≤ L.length) (fun j => L.length - j) (0) ?_ (Nat.zero_le _) ?_
 ·exact zw [(100, _)] hC
 intro j hj;refine AC.seq (AC.region ?_);refine zc ?_;refine AL.nil (th_n (AC.seq ?_));refine AC.condD rfl (fun h0 => ?_) (fun h0 => ?_)
 ·refine AC.skip (th_n (AC.seq (AC.block (AC.seq ?_))));have hj1 : j < L.length := by omega
  have hget := arL_get hj1;have hpv := hp _ (List.getElem_mem hj1);have hEj := hE j hj1;have htl : (E.take j).length = j := by rw [List.length_take]; omega
  obtain ⟨v, hv⟩ : ∃ v, v = L[j] := ⟨_, rfl⟩;rw [← hv] at hget hpv hEj;clear hv;have e1 : v.from_ = ((v.from_.toNat : Nat) : Int) := by omega
  have e2 : v.to_ = ((v.to_.toNat : Nat) : Int) := by omega
  rw [e1, e2] at hget;refine AC.region ?_;refine AL.p (by exact g_ia_view rfl rfl rfl rfl rfl (by rfl) (by assumption)) rfl ?_;refine AL.p (by exact g_load_refN rfl rfl rfl rfl) rfl ?_;refine AL.q (by exact h_alloc rfl) rfl ?_;refine zs ?_;refine AL.nil (th_n (AC.region ?_));refine AL.p (by exact mv2 rfl) rfl ?_;refine zF ?_;refine zl ?_;refine zF ?_;refine zl ?_;refine AL.p (by exact g_build rfl rfl rfl) rfl ?_;refine AL.q (by exact h_litF rfl rfl rfl rfl rfl rfl rfl rfl) rfl ?_;refine AL.q (by exact h_appendSt (E.take j) [(v.from_.toNat, v.to_.toNat)] (.own rfl rfl (by rw [stepL_len, htl])) (.view rfl) (by rw [List.length_append, htl]; simp only [List.length_cons, List.length_nil]; omega) (by simp)) rfl ?_;refine AL.p (by exact as2 rfl) rfl ?_;refine AL.nil (ib_n (th_n (AC.region ?_)));refine zA ?_;refine zm ?_;refine AL.nil (th_n ?_);exact ⟨j + 1, by omega, by omega, zw [(100, _)] hC (by rw [List.length_append, htl]; repeat (first | exact True.intro | refine And.intro ?_ ?_ | exact DLead.same | exact rfl | refine ⟨_, rfl, ?_⟩)) (by rw [hEj]; repeat (first | exact True.intro | refine And.intro ?_ ?_ | exact rfl | refine ⟨_, _, rfl, rfl, ?_⟩))⟩
 refine AC.exit (th_e (th_e (ib_y (th_n (AC.seq ?_)))));have hjj : j = L.length := by omega
 rw [hjj, ← hel, List.take_length];refine AC.weak (Weak.freeze (i := 3) rfl rfl (Nat.le_of_eq (stepL_len _).symm) (List.take_of_length_le (Nat.le_of_eq (stepL_len _)))) ?_;refine AC.region ?_;refine zm ?_;refine za ?_;refine AL.nil (th_n (AC.ret (bq_r ?_)));exact ret1 rfl rfl
theorem en_arcSteps : Enters Tryz.prog 142 := enters_of Tryz.func142 rfl rfl
theorem swapE_swap (E : List (Nat × Nat)) : swapE (swapE E) = E := by
 unfold swapE;rw [List.map_map];exact List.map_id _
theorem swapE_get {E : List (Nat × Nat)} {j : Nat} (h : j < E.length) : (swapE E)[j]'(by rw [swapE_len]; exact h) = (E[j].2, E[j].1) := by simp [swapE]
theorem allU_no {o : List Int} {n v : Nat} (hv : v < n) (h : decide (0 ≤ oa o v) = false) : allU o n = false := by
 unfold allU;exact List.all_eq_false.2 ⟨v, List.mem_range.2 hv, by rw [h]; decide⟩
theorem allU_yes {o : List Int} {n : Nat} (h : ∀ v, v < n → decide (0 ≤ oa o v) = true) : allU o n = true := by
 unfold allU;exact List.all_eq_true.2 fun v hv => h v (List.mem_range.1 hv)
set_option maxHeartbeats 8000000 in
theorem l5All_spec (c : SG) (hn0 : 0 < c.codes.length) (h1l : c.codes.length ≤ 100000) (h2l : c.arcs.length ≤ 1000000) (hp : ∀ a, a ∈ c.arcs → ArIn c.codes.length a) : ASpec Tryz.prog 208 [sgA c] [] (Pure1 (aT (allU (distF (arcE c.arcs) c.codes.length 0) c.codes.length))) := by
 have hE := arcE_in hp;have hsw := swapE_swap (arcE c.arcs);have hD := dist_ex hn0 hE;have hle := fun v => (distF_le hn0 hE v).2
 obtain ⟨E', hE'⟩ : ∃ E', E' = swapE (arcE c.arcs) := ⟨_, rfl⟩;rw [← hE'] at hsw;have hD2 := hD;rw [← hsw] at hD2;have hB0 := BackI.start hn0 hD2;rw [hsw] at hB0 hD2;have hel : E'.length = c.arcs.length := by rw [hE', swapE_len, arcE_len]
 have hEg : ∀ j (hj : j < c.arcs.length), E'[j]'(by rw [hel]; exact hj) = (c.arcs[j].to_.toNat, c.arcs[j].from_.toNat) := fun j hj => by
  subst hE';rw [swapE_get (by rw [arcE_len]; exact hj), arcE_get hj]
 obtain ⟨n, hn⟩ : ∃ n, n = c.codes.length := ⟨_, rfl⟩;rw [← hn] at hn0 h1l hB0 hp hD hD2 ⊢;simp only [← hn] at hle;obtain ⟨o, ho⟩ : ∃ o, o = distF (arcE c.arcs) n 0 := ⟨_, rfl⟩;rw [← ho] at hB0 hD hD2 ⊢;simp only [← ho] at hle;have hD3 : DistOf (swapE E') n 0 o := by rw [hsw]; exact hD
 clear ho hE hE' hsw hD hD2;refine ASpec.of Tryz.func208 rfl rfl fun C hC => ?_
 refine AC.seq (AC.region ?_);refine AL.q (by exact h_boxF rfl rfl) rfl ?_;refine za ?_;refine AL.nil (th_n (AC.seq (AC.region ?_)));refine zf ?_;refine zr ?_;refine AL.p (by exact g_len_view (k := n) rfl rfl (by rw [hn]; exact tsX_len _)) rfl ?_;refine AL.q (by exact h_make (k := n) rfl rfl rfl rfl rfl rfl rfl rfl (by show 1 * n ≤ _; omega) (by omega)) rfl ?_;rw [show (List.replicate n (([ZK.bool] : List ZK).map fun z => DV.val z.val)) = boolL (List.replicate n false) from boolL_rep n];have hr0 : (boolL (List.replicate n false))[0]? = some [dT (canAt (List.replicate n false) 0)] := boolL_get (by simpa using hn0);refine AL.p (by exact as2 rfl) rfl ?_;refine AL.nil (th_n (AC.seq (AC.region ?_)));refine AL.p (by exact mv2 rfl) rfl ?_;refine AL.p (by exact g_ia_own (i := 0) (l := n) rfl rfl rfl rfl rfl rfl hn0 rfl) rfl ?_;refine AL.q (by exact h_store_arr (i := 0) (j := 0) (d := dT true) rfl rfl rfl rfl .same rfl hr0 (by decide)) rfl ?_;refine AL.nil (th_n (AC.seq (AC.seq (AC.region ?_))));refine zf ?_;refine zr ?_;refine AL.p (by exact g_len_view (k := n) rfl rfl (by rw [hn]; exact tsX_len _)) rfl ?_;refine zm ?_;refine AL.nil (th_n (AC.block ?_));refine AC.loop (ι := List Bool × Nat) (fun y => ⟨46, 600, [(1, .d (.ref (sgD c))), (3, .own 100 n), (16, aI n), (17, aI y.2)], [(100, some (.arr 4 1 (boolL y.1)))]⟩) (fun y => BackI E' n 0 o y.1 y.2 0 ∧ y.2 ≤ n) (fun y => n - y.2) (((List.replicate n false).set 0 true, 0)) ?_ (⟨hB0, Nat.zero_le _⟩) ?_
 ·exact zw [(100, _)] hC (b := by rw [boolL_set]; repeat (first | exact True.intro | refine And.intro ?_ ?_ | exact rfl | refine ⟨_, _, rfl, rfl, ?_⟩))
 rintro ⟨d, r⟩ ⟨hB, hr⟩;dsimp only at hB hr ⊢;refine AC.seq (AC.region ?_);refine zc ?_;refine AL.nil (th_n (AC.seq ?_));refine AC.condD rfl (fun h0 => ?_) (fun h0 => ?_)
 ·refine AC.skip (th_n (AC.seq (AC.block (AC.seq (AC.region ?_)))));refine zf ?_;refine zr ?_;refine AL.p (by exact g_len_view (k := c.arcs.length) rfl rfl (arL_len _)) rfl ?_;refine zm ?_;refine AL.nil (th_n (AC.block ?_));refine AC.loop (ι := List Bool × Nat) (fun y => ⟨46, 900, [(1, .d (.ref (sgD c))), (3, .own 100 n), (16, aI n), (17, aI r), (20, .d (vArs c.arcs)), (21, aI c.arcs.length), (22, aI y.2)], [(100, some (.arr 4 1 (boolL y.1)))]⟩) (fun y => BackI E' n 0 o y.1 r y.2 ∧ y.2 ≤ c.arcs.length) (fun y => c.arcs.length - y.2) ((d, 0)) ?_ (⟨hB, Nat.zero_le _⟩) ?_
  ·exact zw [(100, 100)] hC
  rintro ⟨d, j⟩ ⟨hB, hj⟩;dsimp only at hB hj ⊢;have hcl := hB.len;refine AC.seq (AC.region ?_);refine zc ?_;refine AL.nil (th_n (AC.seq ?_));refine AC.condD rfl (fun h1 => ?_) (fun h1 => ?_)
  ·refine AC.skip (th_n (AC.seq (AC.block (AC.seq ?_))));have hj1 : j < c.arcs.length := by omega
   have hjE : j < E'.length := by omega
   have hget := arL_get hj1;have hpv := hp _ (List.getElem_mem hj1);have heg := hEg j hj1;have hno := hB.no hjE;have hye := hB.yes hD3 hjE;rw [heg] at hno hye;dsimp only at hno hye;obtain ⟨v, hv⟩ : ∃ v, v = c.arcs[j] := ⟨_, rfl⟩;rw [← hv] at hget hpv hno hye;clear hv heg;unfold ArIn at hpv;obtain ⟨f, hf⟩ : ∃ f, f = v.from_.toNat := ⟨_, rfl⟩;obtain ⟨t, ht⟩ : ∃ t, t = v.to_.toNat := ⟨_, rfl⟩;rw [← hf] at hno;rw [← hf, ← ht] at hye;have e1 : v.from_ = (f : Int) := by omega
   have e2 : v.to_ = (t : Int) := by omega
   rw [e1, e2] at hget;have hye2 := hye (by omega);have hct := boolL_get (c := d) (v := t) (by omega);have hcf := boolL_get (c := d) (v := f) (by omega);obtain ⟨b, hb⟩ : ∃ b, b = canAt d f := ⟨_, rfl⟩;rw [← hb] at hno hye2 hcf;clear hye hb;refine AC.region ?_;refine AL.p (by exact g_ia_view rfl rfl rfl rfl rfl (by rfl) (by assumption)) rfl ?_;refine AL.p (by exact g_load_refN rfl rfl rfl rfl) rfl ?_;refine AL.q (by exact h_alloc rfl) rfl ?_;refine zs ?_;refine AL.nil (th_n (AC.seq (AC.region ?_)));refine AL.p (by exact mv2 rfl) rfl ?_;refine zF ?_;refine zl ?_;refine AL.p (by exact g_ia_own (i := f) (l := n) rfl rfl rfl rfl rfl rfl (by omega) rfl) rfl ?_;refine AL.p (by exact g_load_arr1 rfl rfl rfl rfl (by rw [Nat.mul_one]; exact hcf)) rfl ?_;refine AL.nil (th_n ?_);refine AC.condB rfl (fun h2 => ?_) (fun h2 => ?_)
   ·refine AC.region ?_;refine AL.p (by exact mv2 rfl) rfl ?_;refine zF ?_;refine zl ?_;refine AL.p (by exact g_ia_own (i := t) (l := n) rfl rfl rfl rfl rfl rfl (by omega) rfl) rfl ?_;refine AL.q (by exact h_store_arr (i := t) (j := 0) (d := dT true) rfl rfl rfl rfl .same rfl hct (by decide)) rfl ?_;refine AL.nil (ib_n (th_n (AC.region ?_)));refine zA ?_;refine zm ?_;refine AL.nil (th_n ?_)
    (have e := hye2 ‹b = true›; exact ⟨(d.set t true, j + 1), ⟨e, by dsimp only; omega⟩, by dsimp only; omega, zw [(100, 100)] hC (b := by rw [boolL_set]; repeat (first | exact True.intro | refine And.intro ?_ ?_ | exact rfl | refine ⟨_, _, rfl, rfl, ?_⟩))⟩)
   refine AC.skip (ib_n (th_n (AC.region ?_)));refine zA ?_;refine zm ?_;refine AL.nil (th_n ?_)
   (have e := hno ‹b = false›; exact ⟨(d, j + 1), ⟨e, by dsimp only; omega⟩, by dsimp only; omega, zw [(100, 100)] hC⟩)
  refine AC.exit (th_e (th_e (ib_y (ib_n (th_n (AC.region ?_))))));refine zA ?_;refine zm ?_;refine AL.nil (th_n ?_);have e := hB.next hD3 (by omega);exact ⟨(d, r + 1), ⟨e, by dsimp only; omega⟩, by dsimp only; omega, zw [(100, 100)] hC⟩
 refine AC.exit (th_e (th_e (ib_y (th_n (AC.seq (AC.seq ?_))))));have hrn : r = n := by omega
 rw [hrn] at hB;have hcl := hB.len;have hca := fun v => hB.all hle v
 refine AC.weak (Weak.freeze (i := 3) rfl rfl (by rw [boolL_len, hcl]; exact Nat.le_refl _) (List.take_of_length_le (by rw [boolL_len, hcl]; exact Nat.le_refl _))) ?_;refine AC.region ?_;refine zm ?_;refine AL.p (by exact g_len_view (k := n) rfl rfl (by rw [boolL_len, hcl])) rfl ?_;refine zm ?_;refine AL.nil (th_n (AC.block ?_));refine AC.loop (ι := Nat) (fun v => ⟨46, 900, [(37, .d (.view 4 1 (boolL d))), (38, aI n), (39, aI v)], []⟩) (fun v => v ≤ n ∧ ∀ w, w < v → decide (0 ≤ oa o w) = true) (fun v => n - v) (0) ?_ (⟨Nat.zero_le _, fun w hw => absurd hw (Nat.not_lt_zero _)⟩) ?_
 ·exact Weak.ren _ [] hC rfl (by repeat (first | exact True.intro | refine And.intro ?_ ?_ | exact DLead.same)) (by repeat (exact True.intro)) rfl rfl rfl
 rintro v ⟨hv, hall⟩;refine AC.seq (AC.region ?_);refine zc ?_;refine AL.nil (th_n (AC.seq ?_));refine AC.condD rfl (fun h1 => ?_) (fun h1 => ?_)
 ·refine AC.skip (th_n (AC.seq (AC.block (AC.seq ?_))));have hv1 : v < n := by omega
  have hgv := boolL_get (c := d) (v := v) (by omega);rw [hca v] at hgv;obtain ⟨b, hb⟩ : ∃ b, b = decide (0 ≤ oa o v) := ⟨_, rfl⟩;rw [← hb] at hgv;refine AC.region ?_;refine AL.p (by exact g_ia_view (i := v) rfl rfl rfl rfl rfl rfl hgv) rfl ?_;refine zr ?_;refine za ?_;refine AL.nil (th_n (AC.seq (AC.region ?_)));refine zm ?_;refine AL.p (by exact g_not rfl) rfl ?_;refine AL.nil (th_n ?_);refine AC.condB rfl (fun h2 => ?_) (fun h2 => ?_)
  ·refine AC.seq (AC.region ?_);refine za ?_;refine AL.nil (th_n (AC.ret (ib_r (th_r (th_r (ib_r (th_r (bq_r ?_))))))));exact ret1 rfl (by rw [allU_no hv1 (by rw [← hb]; simpa using ‹(!b) = true›)])
  refine AC.skip (ib_n (th_n (AC.region ?_)));refine zA ?_;refine zm ?_;refine AL.nil (th_n ?_);exact ⟨v + 1, ⟨by omega, fun w hw => by rcases Nat.lt_succ_iff_lt_or_eq.1 hw with h | rfl; exact hall w h; rw [← hb]; simpa using ‹(!b) = false›⟩, by omega, Weak.ren _ [] hC rfl (by repeat (first | exact True.intro | refine And.intro ?_ ?_ | exact DLead.same)) (by repeat (exact True.intro)) rfl rfl rfl⟩
 refine AC.exit (th_e (th_e (ib_y (th_n (AC.seq (AC.region ?_))))));refine za ?_;refine AL.nil (th_n (AC.ret (bq_r ?_)));exact ret1 rfl (by rw [allU_yes fun w hw => hall w (by omega)])
theorem en_l5All : Enters Tryz.prog 208 := enters_of Tryz.func208 rfl rfl
def inS (n : Nat) (v : Int) : Bool := decide (0 ≤ v) && decide (v ≤ (n : Int) - 1)
def cAtS (c : SG) (i : Nat) : List UInt8 := c.codes.getD i []
def fitS (a : Ar) (x y : List UInt8) : Bool := if a.sig < 0 then decide (bstr x = bstr y) else decide (bstr x = bstr (y.set a.sig.toNat (bitLb (!a.up)))) && decide (bstr y = bstr (x.set a.sig.toNat (bitLb a.up)))
def arcG (c : SG) (a : Ar) : Bool := ((inS c.codes.length a.from_ && inS c.codes.length a.to_) && labOk ⟨a.sig, a.up⟩ c.sigs.length) && fitS a (cAtS c a.from_.toNat) (cAtS c a.to_.toNat)
noncomputable def validC (c : SG) : Bool := ((((sigsB c.sigs && (decide ((1 : Int) ≤ c.codes.length) && decide ((c.codes.length : Int) ≤ 300))) && decide (c.arcs.length ≤ 4000)) && c.codes.all (fun w => bitsB w c.sigs.length)) && c.arcs.all (arcG c)) && allU (distF (arcE c.arcs) c.codes.length 0) c.codes.length
structure SgL (c : SG) : Prop where
 sg : c.sigs.length ≤ 1000000
 sn : ∀ t, t ∈ c.sigs → t.name.length ≤ 1048576
 n : c.codes.length ≤ 100000
 cl : ∀ w, w ∈ c.codes → w.length ≤ 2000000
 a : c.arcs.length ≤ 1000000
theorem bit_val {b : UInt8} (h : bit b = true) : b = bitLb false ∨ b = bitLb true := by
 unfold bit at h;rw [Bool.or_eq_true, decide_eq_true_eq, decide_eq_true_eq] at h;rcases h with h | h
 ·exact .inl (UInt8.toNat_inj.1 (show b.toNat = 48 by omega))
 exact .inr (UInt8.toNat_inj.1 (show b.toNat = 49 by omega))
theorem bit_is {b : UInt8} (h : bit b = true) (u : Bool) : (decide ((b.toNat : Int) = 49) == u) = decide (b = bitLb u) := by
 rcases bit_val h with rfl | rfl <;> cases u <;> decide
theorem bit_isn {b : UInt8} (h : bit b = true) (u : Bool) : (!(decide ((b.toNat : Int) = 49) == u)) = decide (b = bitLb (!u)) := by
 rcases bit_val h with rfl | rfl <;> cases u <;> decide
theorem fitI_at {a : Ar} {x y : List UInt8} (h : fitI a x y = true) {k : Nat} (hk : k < x.length) : fitB a (x.getD k 0) (y.getD k 0) k = true := List.all_eq_true.1 h k (List.mem_range.2 hk)
theorem ext_getD {x y : List UInt8} (hl : x.length = y.length) (h : ∀ i, i < x.length → x.getD i 0 = y.getD i 0) : x = y := by
 refine List.ext_getElem hl fun i h1 h2 => ?_
 have := h i h1
 rwa [List.getD_eq_getElem?_getD, List.getD_eq_getElem?_getD, List.getElem?_eq_getElem h1, List.getElem?_eq_getElem h2] at this
theorem set_getD_at {y : List UInt8} {q i : Nat} {b : UInt8} (hq : q < y.length) : (y.set q b).getD i 0 = if i = q then b else y.getD i 0 := by
 rw [List.getD_eq_getElem?_getD, List.getElem?_set]
 by_cases e : q = i
 ·rw [if_pos e, if_pos hq, if_pos e.symm]; rfl
 rw [if_neg e, if_neg (Ne.symm e), List.getD_eq_getElem?_getD]
theorem fit_eq {a : Ar} {x y : List UInt8} {m : Nat} (hx : bitsB x m = true) (hy : bitsB y m = true) (hl : labOk ⟨a.sig, a.up⟩ m = true) : fitI a x y = fitS a x y := by
 simp only [bitsB, Bool.and_eq_true, decide_eq_true_eq] at hx hy;obtain ⟨hxb, hxl⟩ := hx;obtain ⟨hyb, hyl⟩ := hy;have hxl : x.length = m := by omega
 have hyl : y.length = m := by omega
 have hbx : ∀ i, i < m → bit (x.getD i 0) = true := fun i hi => by rw [List.getD_eq_getElem?_getD, List.getElem?_eq_getElem (by omega)]; exact List.all_eq_true.1 hxb _ (List.getElem_mem _)
 have hby : ∀ i, i < m → bit (y.getD i 0) = true := fun i hi => by rw [List.getD_eq_getElem?_getD, List.getElem?_eq_getElem (by omega)]; exact List.all_eq_true.1 hyb _ (List.getElem_mem _)
 rw [Bool.eq_iff_iff];unfold fitS
 by_cases hs : a.sig < 0
 ·rw [if_pos hs, decide_eq_true_eq];constructor
  ·intro h
   have : x = y := ext_getD (by omega) fun i hi => by
    have g := fitI_at h hi;unfold fitB at g;rw [if_neg (by omega), decide_eq_true_eq] at g;exact UInt8.toNat_inj.1 (by omega)
   rw [this]
  intro h;have e := bstr_inj h;subst e;exact fitI_yes fun i hi => by unfold fitB; rw [if_neg (by omega)]; exact decide_eq_true rfl
 rw [if_neg hs, Bool.and_eq_true, decide_eq_true_eq, decide_eq_true_eq];unfold labOk at hl;simp only [Bool.or_eq_true, Bool.and_eq_true, decide_eq_true_eq] at hl;obtain ⟨q, hq⟩ : ∃ q : Nat, a.sig = q := ⟨a.sig.toNat, by omega⟩;have hqm : q < m := by omega
 rw [hq, Int.toNat_natCast];constructor
 ·intro h;have hat := fitI_at h (k := q) (by omega);unfold fitB at hat;rw [if_pos hq.symm, bit_isn (hbx q hqm), bit_is (hby q hqm), Bool.and_eq_true, decide_eq_true_eq, decide_eq_true_eq] at hat
  have hne : ∀ i, i < m → i ≠ q → x.getD i 0 = y.getD i 0 := fun i hi hn => by
   have g := fitI_at h (k := i) (by omega);unfold fitB at g;rw [if_neg (by omega), decide_eq_true_eq] at g;exact UInt8.toNat_inj.1 (by omega)
  have e1 : x = y.set q (bitLb (!a.up)) := ext_getD (by simp; omega) fun i hi => by
   rw [set_getD_at (by omega)]
   by_cases e : i = q
   ·rw [if_pos e, e]; exact hat.1
   rw [if_neg e]; exact hne i (by omega) e
  have e2 : y = x.set q (bitLb a.up) := ext_getD (by simp; omega) fun i hi => by
   rw [set_getD_at (by omega)]
   by_cases e : i = q
   ·rw [if_pos e, e]; exact hat.2
   rw [if_neg e]; exact (hne i (by omega) e).symm
  exact ⟨congrArg bstr e1, congrArg bstr e2⟩
 rintro ⟨h1, h2⟩;have e1 := bstr_inj h1;have e2 := bstr_inj h2;refine fitI_yes fun i hi => ?_
 have g1 : x.getD i 0 = (y.set q (bitLb (!a.up))).getD i 0 := by rw [← e1]
 have g2 : y.getD i 0 = (x.set q (bitLb a.up)).getD i 0 := by rw [← e2]
 rw [set_getD_at (by omega)] at g1 g2;unfold fitB
 by_cases e : i = q
 ·rw [if_pos e] at g1 g2;subst e;rw [if_pos hq.symm, bit_isn (hbx i hqm), bit_is (hby i hqm), decide_eq_true g1, decide_eq_true g2]; rfl
 rw [if_neg e] at g1;rw [if_neg (by omega), g1]; exact decide_eq_true rfl
theorem cAtS_get {c : SG} {i : Nat} (h : i < c.codes.length) : (tsX c.codes)[i]? = some [dS (bstr (cAtS c i))] := by
 rw [tsX_get h];unfold cAtS;rw [List.getD_eq_getElem?_getD, List.getElem?_eq_getElem h]; rfl
theorem cAtS_mem {c : SG} {i : Nat} (h : i < c.codes.length) : cAtS c i ∈ c.codes := by
 unfold cAtS;rw [List.getD_eq_getElem?_getD, List.getElem?_eq_getElem h]; exact List.getElem_mem h
theorem inS_in {n : Nat} {v : Int} (h : inS n v = true) : v = ((v.toNat : Nat) : Int) ∧ v.toNat < n := by
 unfold inS at h;simp only [Bool.and_eq_true, decide_eq_true_eq] at h;omega
theorem any_allU {o : List Int} {n : Nat} (hl : o.length = n) (hlo : ∀ v, -1 ≤ oa o v) : (o.any fun v => decide (-1 = v)) = !allU o n := by
 unfold allU;rw [Bool.eq_iff_iff, List.any_eq_true, Bool.not_eq_true', List.all_eq_false];constructor
 ·rintro ⟨v, hv, h⟩;obtain ⟨i, hi, rfl⟩ := List.getElem_of_mem hv;rw [decide_eq_true_eq] at h;exact ⟨i, List.mem_range.2 (by omega), by rw [decide_eq_true_eq, oa_get hi]; omega⟩
 rintro ⟨i, hi, h⟩;have hi2 := List.mem_range.1 hi;rw [decide_eq_true_eq] at h;have := hlo i;exact ⟨_, List.getElem_mem (show i < _ by omega), by rw [decide_eq_true_eq, ← oa_get (by omega)]; omega⟩
theorem arcG_in {c : SG} {a : Ar} (h : arcG c a = true) : ArIn c.codes.length a := by
 unfold arcG at h;simp only [Bool.and_eq_true] at h;have h1 := inS_in h.1.1.1;have h2 := inS_in h.1.1.2;unfold ArIn;omega
theorem and4_1 {a b c d : Bool} (h : (!a) = true) : (((a && b) && c) && d) = false := by cases a <;> simp_all
theorem and4_2 {a b c d : Bool} (h : (!b) = true) : (((a && b) && c) && d) = false := by cases b <;> simp_all
theorem and4_3 {a b c d : Bool} (h : (!c) = true) : (((a && b) && c) && d) = false := by cases c <;> simp_all
theorem and4_4 {a b c d : Bool} (h : (!d) = true) : (((a && b) && c) && d) = false := by cases d <;> simp_all
set_option maxHeartbeats 4000000 in
theorem l5Arc_spec (c : SG) (a : Ar) (hc : SgL c) (hlen : ∀ w, w ∈ c.codes → w.length = c.sigs.length) : ASpec Tryz.prog 207 [sgA c, arA a] [] (Pure1 (aT (arcG c a))) := by
 obtain ⟨f, sg, up, t⟩ := a;have hsg := hc.sg;have hn := hc.n;have hW1 := l1In_spec f 0 ((c.codes.length : Int) - 1);have hW2 := l1In_spec t 0 ((c.codes.length : Int) - 1);have hW3 := l2Label_spec ⟨sg, up⟩ c.sigs.length (by omega);have hR : arcG c ⟨f, sg, up, t⟩ = (((inS c.codes.length f && inS c.codes.length t) && labOk ⟨sg, up⟩ c.sigs.length) && fitS ⟨f, sg, up, t⟩ (cAtS c f.toNat) (cAtS c t.toNat)) := rfl;have hF := fun h : inS c.codes.length f = true => inS_in h
 have hT := fun h : inS c.codes.length t = true => inS_in h
 have hL : labOk ⟨sg, up⟩ c.sigs.length = true → ¬ sg < 0 → sg = ((sg.toNat : Nat) : Int) ∧ sg.toNat < c.sigs.length := fun h hs => by
  unfold labOk at h;simp only [Bool.or_eq_true, Bool.and_eq_true, decide_eq_true_eq] at h;omega
 have hI1 : inS c.codes.length f = (decide (0 ≤ f) && decide (f ≤ (c.codes.length : Int) - 1)) := rfl;have hI2 : inS c.codes.length t = (decide (0 ≤ t) && decide (t ≤ (c.codes.length : Int) - 1)) := rfl;rw [← hI1] at hW1;rw [← hI2] at hW2;clear hI1 hI2;obtain ⟨b1, hb1⟩ : ∃ b, b = inS c.codes.length f := ⟨_, rfl⟩;obtain ⟨b2, hb2⟩ : ∃ b, b = inS c.codes.length t := ⟨_, rfl⟩;obtain ⟨b3, hb3⟩ : ∃ b, b = labOk ⟨sg, up⟩ c.sigs.length := ⟨_, rfl⟩;rw [← hb1] at hW1 hR hF;rw [← hb2] at hW2 hR hT;rw [← hb3] at hW3 hR hL;obtain ⟨R, hRR⟩ : ∃ R, R = arcG c ⟨f, sg, up, t⟩ := ⟨_, rfl⟩;rw [← hRR] at hR ⊢;clear hb1 hb2 hb3 hRR;refine ASpec.of Tryz.func207 rfl rfl fun C hC => ?_
 refine AC.seq (AC.region ?_);refine AL.q (by exact h_boxF rfl rfl) rfl ?_;refine AL.q (by exact h_boxF rfl rfl) rfl ?_;refine za ?_;refine AL.nil (th_n (AC.seq (AC.seq (AC.region ?_))));refine zf ?_;refine zr ?_;refine zf ?_;refine zr ?_;refine AL.p (by exact g_len_view (k := c.codes.length) rfl rfl (tsX_len _)) rfl ?_;refine zA ?_;refine AL.q (by exact h_pure en_l1In rfl rfl (by repeat (first | exact rfl | exact DLead.same | refine ⟨_, _, rfl, ?_, ?_⟩)) hW1 rfl) rfl ?_;refine AL.p (by exact g_not rfl) rfl ?_;refine zm ?_;refine AL.caseGB rfl rfl (fun h0 => ?_) (fun h0 => ?_)
 ·refine zn ?_;refine zn ?_;refine zn ?_;refine zn ?_;refine zn ?_;refine zn ?_;refine zn ?_;refine zn ?_;refine zQ ?_;refine zm ?_;refine zn ?_;refine zn ?_;refine zn ?_;refine zn ?_;refine zn ?_;refine zn ?_;refine zn ?_;refine zn ?_;refine zn ?_;refine zn ?_;refine zQ ?_;refine AL.nil (th_n ?_);refine AC.condT rfl ?_;refine AC.seq (AC.region ?_);refine za ?_;refine AL.nil (th_n (AC.ret (th_r (bq_r ?_))));have e : R = false := by rw [hR]; exact and4_1 ‹(!b1) = true›
  exact ret1 rfl (by rw [e])
 refine zy ?_;refine zf ?_;refine zy ?_;refine zr ?_;refine zy ?_;refine zf ?_;refine zy ?_;refine zr ?_;refine zy ?_;refine AL.p (by exact g_len_view (k := c.codes.length) rfl rfl (tsX_len _)) rfl ?_;refine zy ?_;refine zA ?_;refine zy ?_;refine AL.q (by exact h_pure en_l1In rfl rfl (by repeat (first | exact rfl | exact DLead.same | refine ⟨_, _, rfl, ?_, ?_⟩)) hW2 rfl) rfl ?_;refine zy ?_;refine AL.p (by exact g_not rfl) rfl ?_;refine zP ?_;refine zm ?_;refine AL.caseGB rfl rfl (fun h1 => ?_) (fun h1 => ?_)
 ·refine zn ?_;refine zn ?_;refine zn ?_;refine zn ?_;refine zn ?_;refine zn ?_;refine zn ?_;refine zn ?_;refine zn ?_;refine zn ?_;refine zQ ?_;refine AL.nil (th_n ?_);refine AC.condT rfl ?_;refine AC.seq (AC.region ?_);refine za ?_;refine AL.nil (th_n (AC.ret (th_r (bq_r ?_))));have e : R = false := by rw [hR]; exact and4_2 ‹(!b2) = true›
  exact ret1 rfl (by rw [e])
 refine zy ?_;refine zf ?_;refine zy ?_;refine zr ?_;refine zy ?_;refine zf ?_;refine zy ?_;refine zr ?_;refine zy ?_;refine AL.p (by exact g_build rfl rfl rfl) rfl ?_;refine zy ?_;refine zf ?_;refine zy ?_;refine zr ?_;refine zy ?_;refine AL.p (by exact g_len_view (k := c.sigs.length) rfl rfl (sigsL_len _)) rfl ?_;refine zy ?_;refine AL.q (by exact h_pure en_l2Label rfl rfl (by repeat (first | exact rfl | exact DLead.same | refine ⟨_, _, rfl, ?_, ?_⟩ | refine ⟨_, rfl, ?_⟩)) hW3 rfl) rfl ?_;refine zy ?_;refine AL.p (by exact g_not rfl) rfl ?_;refine zP ?_;refine AL.nil (th_n ?_);refine AC.condB rfl (fun h2 => ?_) (fun h2 => ?_)
 ·refine AC.seq (AC.region ?_);refine za ?_;refine AL.nil (th_n (AC.ret (th_r (bq_r ?_))));have e : R = false := by rw [hR]; exact and4_3 ‹(!b3) = true›
  exact ret1 rfl (by rw [e])
 refine AC.skip (th_n (AC.seq ?_));have hbb : b1 = true ∧ b2 = true ∧ b3 = true := ⟨by simpa using ‹(!b1) = false›, by simpa using ‹(!b2) = false›, by simpa using ‹(!b3) = false›⟩;obtain ⟨hb1, hb2, hb3⟩ := hbb;obtain ⟨hf1, hf2⟩ := hF hb1;obtain ⟨ht1, ht2⟩ := hT hb2;have hL1 := hL hb3;have hgf := cAtS_get hf2;have hgt := cAtS_get ht2;have hlf := hlen _ (cAtS_mem hf2);have hlt := hlen _ (cAtS_mem ht2);rw [hb1, hb2, hb3, Bool.and_self, Bool.and_self, Bool.true_and] at hR;clear hF hT hL hlen hW1 hW2 hW3;obtain ⟨x, hx⟩ : ∃ x, x = cAtS c f.toNat := ⟨_, rfl⟩;obtain ⟨y, hy⟩ : ∃ y, y = cAtS c t.toNat := ⟨_, rfl⟩;rw [← hx] at hgf hlf hR;rw [← hy] at hgt hlt hR;clear hx hy;refine AC.drawn' mixed_ok [[], [0], [], [2], [0,1,2,3], [0,1,2,3,4], [], [6], [], [8], [6,7,8,9], [6,7,8,9,10], [0,1,2,3,4,5], [0,1,2,3,4,5,6,7,8,9,10,11,12]] (by decide) ?_;refine zd 0 [] 14 (by exact g_fa_ref rfl rfl rfl rfl rfl rfl) ?_;refine zd 1 [0] 14 (by exact g_load_ref rfl rfl rfl) ?_;refine zd 2 [] 14 (by exact g_fa_ref rfl rfl rfl rfl rfl rfl) ?_;refine zd 3 [2] 14 (by exact g_load_ref rfl rfl rfl) ?_;refine zd 4 [0,1,2,3] 14 (by exact g_ia_view (i := f.toNat) rfl rfl rfl rfl rfl hf1 hgf) ?_;refine zd 5 [0,1,2,3,4] 14 (by exact g_load_ref rfl rfl rfl) ?_;refine zd 6 [] 14 (by exact g_fa_ref rfl rfl rfl rfl rfl rfl) ?_;refine zd 7 [6] 14 (by exact g_load_ref rfl rfl rfl) ?_;refine zd 8 [] 14 (by exact g_fa_ref rfl rfl rfl rfl rfl rfl) ?_;refine zd 9 [8] 14 (by exact g_load_ref rfl rfl rfl) ?_;refine zd 10 [6,7,8,9] 14 (by exact g_ia_view (i := t.toNat) rfl rfl rfl rfl rfl ht1 hgt) ?_;refine zd 11 [6,7,8,9,10] 14 (by exact g_load_ref rfl rfl rfl) ?_;refine zd 12 [0,1,2,3,4,5] 14 (by exact as1 rfl) ?_;refine zd 13 (List.range 13) 14 (by exact as1 rfl) ?_;refine zj 14 ?_;refine th_n (AC.seq (AC.seq (AC.region ?_)));refine zf ?_;refine zr ?_;refine zc ?_;refine AL.nil (th_n ?_);refine AC.condD rfl (fun h3 => ?_) (fun h3 => ?_)
 ·refine AC.seq (AC.region ?_);refine zm ?_;refine zm ?_;refine AL.p (by exact g_scmp rfl rfl rfl) rfl ?_;refine za ?_;refine AL.nil (th_n (AC.ret (th_r (bq_r ?_))));have hs : sg < 0 := ‹sg < 0›;exact ret1 rfl (by rw [hR]; unfold fitS; rw [if_pos hs])
 refine AC.skip (th_n (AC.seq ?_));have hs : ¬ sg < 0 := ‹¬ sg < 0›;obtain ⟨hs1, hs2⟩ := hL1 hs;have hR2 : R = (decide (bstr x = bstr (y.set sg.toNat (bitLb (!up)))) && decide (bstr y = bstr (x.set sg.toNat (bitLb up)))) := by rw [hR]; unfold fitS; rw [if_neg hs]
 obtain ⟨q, hq⟩ : ∃ q, q = sg.toNat := ⟨_, rfl⟩;rw [← hq] at hR2 hs1 hs2;subst hs1;refine AC.drawn' mixed_ok [[], [], [], [2], [], [4], [4,5], [4,5,6], [1,2,3,4,5,6,7], [0,1,2,3,4,5,6,7,8], [0,1,2,3,4,5,6,7,8,9], [0,1,2,3,4,5,6,7,8,9,10], [0,1,2,3,4,5,6,7,8,9,10], [0,1,2,3,4,5,6,7,8,9,10], [0,1,2,3,4,5,6,7,8,9,10,13], [0,1,2,3,4,5,6,7,8,9,10], [0,1,2,3,4,5,6,7,8,9,10,15], [0,1,2,3,4,5,6,7,8,9,10,15,16], [0,1,2,3,4,5,6,7,8,9,10,12,13,14,15,16,17], [0,1,2,3,4,5,6,7,8,9,10,11,12,13,14,15,16,17,18], [0,1,2,3,4,5,6,7,8,9,10,11,12,13,14,15,16,17,18,19], [0,1,2,3,4,5,6,7,8,9,10,11,12,13,14,15,16,17,18,19,20]] (by decide) ?_;refine zd 0 [] 22 (by exact mv1 rfl) ?_;refine zd 1 [] 22 (by exact mv1 rfl) ?_;refine zd 2 [] 22 (by exact g_fa_ref rfl rfl rfl rfl rfl rfl) ?_;refine zd 3 [2] 22 (by exact g_load_ref rfl rfl rfl) ?_;refine zd 4 [] 22 (by exact g_fa_ref rfl rfl rfl rfl rfl rfl) ?_;refine zd 5 [4] 22 (by exact g_load_ref rfl rfl rfl) ?_;refine zd 6 [4,5] 22 (by exact g_not rfl) ?_;refine zh 7 [4,5,6] 22 (by exact h_pure en_l5Bit rfl rfl (by repeat (first | exact rfl | exact DLead.same | refine ⟨_, _, rfl, ?_, ?_⟩)) (l5Bit_spec (!up)) rfl) ?_;refine zh 8 [1,2,3,4,5,6,7] 22 (by exact h_pure en_l5Set rfl rfl (by repeat (first | exact rfl | exact DLead.same | refine ⟨_, _, rfl, ?_, ?_⟩)) (l5Set_spec y q (bitLb (!up)) (by omega) (by omega)) rfl) ?_;refine zd 9 (List.range 9) 22 (by exact g_scmp rfl rfl rfl) ?_;refine zd 10 (List.range 10) 22 (by exact mv1 rfl) ?_;refine DF.caseD 10 rfl (fun h4 => ?_) (fun h4 => ?_)
 ·refine ze 11 (List.range 11) 22 (by exact mv1 rfl) ?_;refine ze 12 (List.range 11) 22 (by exact mv1 rfl) ?_;refine ze 13 (List.range 11) 22 (by exact g_fa_ref rfl rfl rfl rfl rfl rfl) ?_;refine ze 14 [0,1,2,3,4,5,6,7,8,9,10,13] 22 (by exact g_load_ref rfl rfl rfl) ?_;refine ze 15 (List.range 11) 22 (by exact g_fa_ref rfl rfl rfl rfl rfl rfl) ?_;refine ze 16 [0,1,2,3,4,5,6,7,8,9,10,15] 22 (by exact g_load_ref rfl rfl rfl) ?_;refine zi 17 [0,1,2,3,4,5,6,7,8,9,10,15,16] 22 (by exact h_pure en_l5Bit rfl rfl (by repeat (first | exact rfl | exact DLead.same | refine ⟨_, _, rfl, ?_, ?_⟩)) (l5Bit_spec up) rfl) ?_;refine zi 18 [0,1,2,3,4,5,6,7,8,9,10,12,13,14,15,16,17] 22 (by exact h_pure en_l5Set rfl rfl (by repeat (first | exact rfl | exact DLead.same | refine ⟨_, _, rfl, ?_, ?_⟩)) (l5Set_spec x q (bitLb up) (by omega) (by omega)) rfl) ?_;refine ze 19 (List.range 19) 22 (by exact g_scmp rfl rfl rfl) ?_;refine zd 20 (List.range 20) 22 (by exact g_pickT (r := .d _) rfl rfl) ?_;refine zd 21 (List.range 21) 22 (by exact as1 rfl) ?_;refine zj 22 ?_;refine th_n (AC.ret (bq_r ?_))
  (have qq := ‹bstr x = bstr (y.set q (bitLb (!up)))›; exact ret1 rfl (by rw [hR2, decide_eq_true qq, Bool.true_and]))
 refine zg 11 (List.range 11) 22 ?_;refine zg 12 (List.range 11) 22 ?_;refine zg 13 (List.range 11) 22 ?_;refine zg 14 [0,1,2,3,4,5,6,7,8,9,10,13] 22 ?_;refine zg 15 (List.range 11) 22 ?_;refine zg 16 [0,1,2,3,4,5,6,7,8,9,10,15] 22 ?_;refine zg 17 [0,1,2,3,4,5,6,7,8,9,10,15,16] 22 ?_;refine zg 18 [0,1,2,3,4,5,6,7,8,9,10,12,13,14,15,16,17] 22 ?_;refine zg 19 (List.range 19) 22 ?_;refine zd 20 (List.range 20) 22 (by exact g_pickF (r := .d _) rfl rfl) ?_;refine zd 21 (List.range 21) 22 (by exact as1 rfl) ?_;refine zj 22 ?_;refine th_n (AC.ret (bq_r ?_))
 (have qq := ‹¬ bstr x = bstr (y.set q (bitLb (!up)))›; exact ret1 rfl (by rw [hR2, decide_eq_false qq]; rfl))
theorem en_l5Arc : Enters Tryz.prog 207 := enters_of Tryz.func207 rfl rfl
theorem validC_no {c : SG} : (sigsB c.sigs = false → validC c = false) ∧ ((decide ((1 : Int) ≤ c.codes.length) && decide ((c.codes.length : Int) ≤ 300)) = false → validC c = false) ∧ (¬ c.arcs.length ≤ 4000 → validC c = false) ∧ (∀ k (hk : k < c.codes.length), bitsB c.codes[k] c.sigs.length = false → validC c = false) ∧ (∀ k (hk : k < c.arcs.length), arcG c c.arcs[k] = false → validC c = false) := by
 unfold validC;refine ⟨fun h => ?_, fun h => ?_, fun h => ?_, fun k hk h => ?_, fun k hk h => ?_⟩
 ·rw [h]; rfl
 ·rw [h, Bool.and_false]; rfl
 ·rw [decide_eq_false h, Bool.and_false]; rfl
 ·rw [List.all_eq_false.2 ⟨_, List.getElem_mem hk, by rw [h]; decide⟩, Bool.and_false]; rfl
 rw [List.all_eq_false.2 ⟨_, List.getElem_mem hk, by rw [h]; decide⟩, Bool.and_false]; rfl
theorem validC_yes {c : SG} (h1 : sigsB c.sigs = true) (h2 : (decide ((1 : Int) ≤ c.codes.length) && decide ((c.codes.length : Int) ≤ 300)) = true) (h3 : c.arcs.length ≤ 4000) (h4 : ∀ k (hk : k < c.codes.length), bitsB c.codes[k] c.sigs.length = true) (h5 : ∀ k (hk : k < c.arcs.length), arcG c c.arcs[k] = true) : validC c = allU (distF (arcE c.arcs) c.codes.length 0) c.codes.length := by
 unfold validC;rw [h1, h2, decide_eq_true h3, List.all_eq_true.2 (fun x hx => by obtain ⟨j, hj, rfl⟩ := List.getElem_of_mem hx; exact h4 j hj), List.all_eq_true.2 (fun x hx => by obtain ⟨j, hj, rfl⟩ := List.getElem_of_mem hx; exact h5 j hj)]; rfl
set_option maxHeartbeats 8000000 in
theorem l5Good_spec (c : SG) (hc : SgL c) : ASpec Tryz.prog 146 [sgA c] [] (Pure1 (aT (validC c))) := by
 have hV := l2Signals_spec c.sigs (by have := hc.sg; omega) hc.sn;have hW := l1In_spec c.codes.length 1 300;obtain ⟨hN1, hN2, hN3, hN4, hN5⟩ := validC_no (c := c);have hY := validC_yes (c := c);have hCd := fun (k : Nat) (hk : k < c.codes.length) => l5Code_spec c.codes[k] c.sigs.length (hc.cl _ (List.getElem_mem hk))
 have hAr := l5Arc_spec c;have hAl := l5All_spec c;have hn := hc.n;have hsg := hc.sg;have hal := hc.a;obtain ⟨R, hR⟩ : ∃ R, R = validC c := ⟨_, rfl⟩;rw [← hR] at hN1 hN2 hN3 hN4 hN5 hY ⊢;obtain ⟨b1, hb1⟩ : ∃ b, b = sigsB c.sigs := ⟨_, rfl⟩;rw [← hb1] at hV hN1 hY;have hB2 : (decide ((1 : Int) ≤ c.codes.length) && decide ((c.codes.length : Int) ≤ 300)) = true → 1 ≤ c.codes.length := fun h => by rw [Bool.and_eq_true, decide_eq_true_eq] at h; omega
 obtain ⟨b2, hb2⟩ : ∃ b, b = (decide ((1 : Int) ≤ c.codes.length) && decide ((c.codes.length : Int) ≤ 300)) := ⟨_, rfl⟩;rw [← hb2] at hW hN2 hY hB2;clear hR hb1 hb2;refine ASpec.of Tryz.func146 rfl rfl fun C hC => ?_
 refine AC.seq (AC.region ?_);refine AL.q (by exact h_boxF rfl rfl) rfl ?_;refine za ?_;refine AL.nil (th_n (AC.seq (AC.seq (AC.region ?_))));refine zf ?_;refine zr ?_;refine AL.q (by exact h_pure en_l2Signals rfl rfl (by repeat (first | exact rfl | exact DLead.same | refine ⟨_, _, rfl, ?_, ?_⟩)) hV rfl) rfl ?_;refine AL.p (by exact g_not rfl) rfl ?_;refine zm ?_;refine AL.caseGB rfl rfl (fun h0 => ?_) (fun h0 => ?_)
 ·refine zn ?_;refine zn ?_;refine zn ?_;refine zn ?_;refine zn ?_;refine zQ ?_;refine zm ?_;refine zn ?_;refine zn ?_;refine zn ?_;refine zn ?_;refine zQ ?_;refine AL.nil (th_n ?_);refine AC.condT rfl ?_;refine AC.seq (AC.region ?_);refine za ?_;refine AL.nil (th_n (AC.ret (th_r (bq_r ?_))));have e : R = false := by exact hN1 (by simpa using ‹(!b1) = true›)
  exact ret1 rfl (by rw [e])
 refine zy ?_;refine zf ?_;refine zy ?_;refine zr ?_;refine zy ?_;refine AL.p (by exact g_len_view (k := c.codes.length) rfl rfl (tsX_len _)) rfl ?_;refine zy ?_;refine AL.q (by exact h_pure en_l1In rfl rfl (by repeat (first | exact rfl | exact DLead.same | refine ⟨_, _, rfl, ?_, ?_⟩)) hW rfl) rfl ?_;refine zy ?_;refine AL.p (by exact g_not rfl) rfl ?_;refine zP ?_;refine zm ?_;refine AL.caseGB rfl rfl (fun h1 => ?_) (fun h1 => ?_)
 ·refine zn ?_;refine zn ?_;refine zn ?_;refine zn ?_;refine zQ ?_;refine AL.nil (th_n ?_);refine AC.condT rfl ?_;refine AC.seq (AC.region ?_);refine za ?_;refine AL.nil (th_n (AC.ret (th_r (bq_r ?_))));have e : R = false := by exact hN2 (by simpa using ‹(!b2) = true›)
  exact ret1 rfl (by rw [e])
 refine zy ?_;refine zf ?_;refine zy ?_;refine zr ?_;refine zy ?_;refine AL.p (by exact g_len_view (k := c.arcs.length) rfl rfl (arL_len _)) rfl ?_;refine zy ?_;refine zc ?_;refine zP ?_;refine AL.nil (th_n ?_);refine AC.condD rfl (fun h2 => ?_) (fun h2 => ?_)
 ·refine AC.seq (AC.region ?_);refine za ?_;refine AL.nil (th_n (AC.ret (th_r (bq_r ?_))));have e : R = false := by exact hN3 (by have := ‹(c.arcs.length : Int) > 4000›; omega)
  exact ret1 rfl (by rw [e])
 refine AC.skip (th_n (AC.seq (AC.seq ?_)));have hb1 : b1 = true := by simpa using ‹(!b1) = false›
 have hb2 : b2 = true := by simpa using ‹(!b2) = false›
 have h4000 : c.arcs.length ≤ 4000 := by have := ‹¬ (c.arcs.length : Int) > 4000›; omega
 have hn1 := hB2 hb2;have hY2 := hY hb1 hb2 h4000;clear hY hV hW hN1 hN2 hN3;refine AC.region ?_;refine zf ?_;refine zr ?_;refine AL.p (by exact g_len_view (k := c.codes.length) rfl rfl (tsX_len _)) rfl ?_;refine zm ?_;refine AL.nil (th_n (AC.block ?_));refine AC.loop (ι := Nat) (fun k => ⟨52, 300, [(1, .d (.ref (sgD c))), (25, .d (.view 9 1 (tsX c.codes))), (26, aI c.codes.length), (27, aI k)], []⟩) (fun k => k ≤ c.codes.length ∧ ∀ j (hj : j < c.codes.length), j < k → bitsB c.codes[j] c.sigs.length = true) (fun k => c.codes.length - k) (0) ?_ (⟨Nat.zero_le _, fun j _ hj => absurd hj (Nat.not_lt_zero _)⟩) ?_
 ·exact Weak.ren _ [] hC rfl (by repeat (first | exact True.intro | refine And.intro ?_ ?_ | exact DLead.same)) (by repeat (exact True.intro)) rfl rfl rfl
 rintro k ⟨hk, hall⟩;refine AC.seq (AC.region ?_);refine zc ?_;refine AL.nil (th_n (AC.seq ?_));refine AC.condD rfl (fun h3 => ?_) (fun h3 => ?_)
 ·refine AC.skip (th_n (AC.seq (AC.block (AC.seq ?_))));have hk1 : k < c.codes.length := by omega
  have hget := tsX_get hk1;have hCk := hCd k hk1;have hNk := hN4 k hk1;obtain ⟨b, hb⟩ : ∃ b, b = bitsB c.codes[k] c.sigs.length := ⟨_, rfl⟩;rw [← hb] at hCk hNk;refine AC.region ?_;refine AL.p (by exact g_ia_view rfl rfl rfl rfl rfl (by rfl) (by assumption)) rfl ?_;refine zr ?_;refine za ?_;refine AL.nil (th_n (AC.seq (AC.region ?_)));refine zm ?_;refine zf ?_;refine zr ?_;refine AL.p (by exact g_len_view (k := c.sigs.length) rfl rfl (sigsL_len _)) rfl ?_;refine AL.q (by exact h_pure en_l5Code rfl rfl (by repeat (first | exact rfl | exact DLead.same | refine ⟨_, _, rfl, ?_, ?_⟩)) hCk rfl) rfl ?_;refine AL.p (by exact g_not rfl) rfl ?_;refine AL.nil (th_n ?_);refine AC.condB rfl (fun h4 => ?_) (fun h4 => ?_)
  ·refine AC.seq (AC.region ?_);refine za ?_;refine AL.nil (th_n (AC.ret (ib_r (th_r (th_r (ib_r (th_r (bq_r ?_))))))));exact ret1 rfl (by rw [hNk (by simpa using ‹(!b) = true›)])
  refine AC.skip (ib_n (th_n (AC.region ?_)));refine zA ?_;refine zm ?_;refine AL.nil (th_n ?_);exact ⟨k + 1, ⟨by omega, fun j hj hj2 => by rcases Nat.lt_succ_iff_lt_or_eq.1 hj2 with h | rfl; exact hall j hj h; rw [← hb]; simpa using ‹(!b) = false›⟩, by omega, Weak.ren _ [] hC rfl (by repeat (first | exact True.intro | refine And.intro ?_ ?_ | exact DLead.same)) (by repeat (exact True.intro)) rfl rfl rfl⟩
 refine AC.exit (th_e (th_e (ib_y (th_n (AC.seq (AC.seq ?_))))));have hbits : ∀ j (hj : j < c.codes.length), bitsB c.codes[j] c.sigs.length = true := fun j hj => hall j hj (by omega)
 have hlen : ∀ w, w ∈ c.codes → w.length = c.sigs.length := fun w hw => by obtain ⟨j, hj, rfl⟩ := List.getElem_of_mem hw; have := hbits j hj; rw [bitsB, Bool.and_eq_true, decide_eq_true_eq] at this; omega
 have hY3 := hY2 hbits;clear hall;refine AC.region ?_;refine zf ?_;refine zr ?_;refine AL.p (by exact g_len_view (k := c.arcs.length) rfl rfl (arL_len _)) rfl ?_;refine zm ?_;refine AL.nil (th_n (AC.block ?_));refine AC.loop (ι := Nat) (fun k => ⟨52, 600, [(1, .d (.ref (sgD c))), (39, .d (vArs c.arcs)), (40, aI c.arcs.length), (41, aI k)], []⟩) (fun k => k ≤ c.arcs.length ∧ ∀ j (hj : j < c.arcs.length), j < k → arcG c c.arcs[j] = true) (fun k => c.arcs.length - k) (0) ?_ (⟨Nat.zero_le _, fun j _ hj => absurd hj (Nat.not_lt_zero _)⟩) ?_
 ·exact Weak.ren _ [] hC rfl (by repeat (first | exact True.intro | refine And.intro ?_ ?_ | exact DLead.same)) (by repeat (exact True.intro)) rfl rfl rfl
 rintro k ⟨hk, hall⟩;refine AC.seq (AC.region ?_);refine zc ?_;refine AL.nil (th_n (AC.seq ?_));refine AC.condD rfl (fun h4 => ?_) (fun h4 => ?_)
 ·refine AC.skip (th_n (AC.seq (AC.block (AC.seq ?_))));have hk1 : k < c.arcs.length := by omega
  have hget := arL_get hk1;have hAk := hAr c.arcs[k] hc hlen;have hNk := hN5 k hk1;obtain ⟨b, hb⟩ : ∃ b, b = arcG c c.arcs[k] := ⟨_, rfl⟩;rw [← hb] at hAk hNk;refine AC.region ?_;refine AL.p (by exact g_ia_view rfl rfl rfl rfl rfl (by rfl) (by assumption)) rfl ?_;refine AL.p (by exact g_load_refN rfl rfl rfl rfl) rfl ?_;refine AL.q (by exact h_alloc rfl) rfl ?_;refine zs ?_;refine AL.nil (th_n (AC.seq (AC.region ?_)));refine AL.p (by exact g_load_refN rfl rfl rfl rfl) rfl ?_;refine AL.p (by exact g_load_ptrN rfl rfl rfl rfl rfl) rfl ?_;refine AL.q (by exact h_pure en_l5Arc rfl rfl (by repeat (first | exact rfl | exact DLead.same | refine ⟨_, _, rfl, ?_, ?_⟩ | refine ⟨_, rfl, ?_⟩)) hAk rfl) rfl ?_;refine AL.p (by exact g_not rfl) rfl ?_;refine AL.nil (th_n ?_);refine AC.condB rfl (fun h5 => ?_) (fun h5 => ?_)
  ·refine AC.seq (AC.region ?_);refine za ?_;refine AL.nil (th_n (AC.ret (ib_r (th_r (th_r (ib_r (th_r (bq_r ?_))))))));exact ret1 rfl (by rw [hNk (by simpa using ‹(!b) = true›)])
  refine AC.skip (ib_n (th_n (AC.region ?_)));refine zA ?_;refine zm ?_;refine AL.nil (th_n ?_);exact ⟨k + 1, ⟨by omega, fun j hj hj2 => by rcases Nat.lt_succ_iff_lt_or_eq.1 hj2 with h | rfl; exact hall j hj h; rw [← hb]; simpa using ‹(!b) = false›⟩, by omega, Weak.ren _ [] hC rfl (by repeat (first | exact True.intro | refine And.intro ?_ ?_ | exact DLead.same)) (by repeat (exact True.intro)) rfl rfl rfl⟩
 refine AC.exit (th_e (th_e (ib_y (th_n (AC.seq ?_)))));have harcs : ∀ j (hj : j < c.arcs.length), arcG c c.arcs[j] = true := fun j hj => hall j hj (by omega)
 have hY4 := hY3 harcs;have hAl2 := hAl hn1 hn hal (fun a ha => by obtain ⟨j, hj, rfl⟩ := List.getElem_of_mem ha; exact arcG_in (harcs j hj));rw [← hY4] at hAl2;refine AC.region ?_;refine AL.p (by exact g_load_refN rfl rfl rfl rfl) rfl ?_;refine AL.q (by exact h_pure en_l5All rfl rfl (by repeat (first | exact rfl | exact DLead.same | refine ⟨_, _, rfl, ?_, ?_⟩ | refine ⟨_, rfl, ?_⟩)) hAl2 rfl) rfl ?_;refine za ?_;refine AL.nil (th_n (AC.ret (bq_r ?_)));exact ret1 rfl rfl
theorem en_l5Good : Enters Tryz.prog 146 := enters_of Tryz.func146 rfl rfl
end Go.Proofs.YthafkkgmekgmoaaGreat
