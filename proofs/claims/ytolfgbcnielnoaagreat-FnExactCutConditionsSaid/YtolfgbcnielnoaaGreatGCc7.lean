/- Contracts of the functions of the program and of the reference, each proved by a walk through its code. -/
import Derived.WalkKit
import Derived.WalkSpells
import Derived.WalkLawsBesides
import Derived.Deep.Draws
import Derived.Lib.Hide
import Derived.Maps.AppendAt
import Derived.OwnWalk
import Derived.Deep.MidRow
import Derived.Laws.ResultCell
import Derived.Deep.Upon
import Derived.Great.FillDense
import Derived.Laws.Tables
import Derived.Laws.BytesArg
import Derived.Laws.MakeOwn
import Derived.Great.BuildSlice
import Derived.ArgAppend
import Derived.Deep.AppendSrc
import Derived.Test.YtolfgbcnielnoaaGreatProg
import Derived.KernelRfl
import Derived.Orders
import Derived.Laws.IdiomStrings
import Derived.Lib.AppendZerosOnto
import Derived.ProofKit
import Derived.OpenShut
import Derived.Laws.StructEq
import Derived.ChangeKeysEq
import Derived.Sort.Grow
import Derived.Shelf.Sort.Plain
import Derived.Shelf.Slices.In.SortNone
import Derived.Test.YtolfgbcnielnoaaGreatRows
import Derived.Test.YtolfgbcnielnoaaGreatChecked
import Derived.Test.YtolfgbcnielnoaaGreatGCc6
set_option linter.all false
set_option maxRecDepth 20000
namespace Go.Proofs.YtolfgbcnielnoaaGreat
open Go.RowKit

theorem ints_flat (l : List Int) : ∀ cs, cs ∈ ints l → ∀ d, d ∈ cs → d.flat := by
  intro cs hc d hd
  obtain ⟨x, _, rfl⟩ := List.mem_map.1 hc
  obtain rfl := List.mem_singleton.1 hd
  exact trivial
set_option maxHeartbeats 1000000 in
theorem toIntS_T (l : List Int) (hl : l.length ≤ 1048576) : ASpec Tryz.prog 20 [.d (vI l)] [] (OneT (vI l)) := by
  refine ASpec.of Tryz.func20 rfl rfl fun C hC => ?_
  refine AC.seq ?_
  refine AC.region ?_
  refine AL.p (by first | exact as1 rfl | exact as2 rfl | exact as3 rfl | exact as4 rfl | exact as5 rfl | exact as6 rfl | exact as7 rfl | exact as8 rfl | exact as9 rfl) rfl ?_
  refine AL.nil ?_
  refine th_n ?_
  refine AC.seq ?_
  refine AC.region ?_
  refine AL.p (by first | exact mv1 rfl | exact mv2 rfl | exact mv3 rfl | exact mv4 rfl | exact mv5 rfl | exact mv6 rfl | exact mv7 rfl | exact mv8 rfl | exact mv9 rfl) rfl ?_
  refine AL.p (by first | exact g_len_view rfl rfl (by first | exact List.length_map _ | rfl) | exact g_len_str rfl rfl rfl | exact g_len_nil rfl rfl | exact g_len_own (sz := 1) (els := []) (e' := 0) rfl rfl (by simp only [maxLen]; omega) | exact g_len_tight rfl rfl (by first | exact List.length_map _ | rfl)) rfl ?_
  refine AL.q (by exact h_make (k := l.length) rfl rfl rfl rfl rfl rfl rfl rfl (by show 8 * l.length ≤ _; omega) (by omega)) rfl ?_
  refine AL.p (by first | exact as1 rfl | exact as2 rfl | exact as3 rfl | exact as4 rfl | exact as5 rfl | exact as6 rfl | exact as7 rfl | exact as8 rfl | exact as9 rfl) rfl ?_
  refine AL.nil ?_
  refine th_n ?_
  refine AC.seq ?_
  refine AC.seq ?_
  refine AC.region ?_
  refine AL.p (by first | exact as1 rfl | exact as2 rfl | exact as3 rfl | exact as4 rfl | exact as5 rfl | exact as6 rfl | exact as7 rfl | exact as8 rfl | exact as9 rfl) rfl ?_
  refine AL.nil ?_
  refine th_n ?_
  refine AC.block ?_
  refine AC.loop (ι := Nat) (fun k => ⟨22, 108, [(0, .d (vI l)), (3, .own 100 l.length), (4, aI k)], [(100, some (.arr 3 1 (fillR (ints l) [dI 0] k)))]⟩) (fun k => k ≤ l.length) (fun k => l.length - k) (0) ?_ (Nat.zero_le _) ?_
  · exact Weak.ren _ [(100, _)] hC rfl (by repeat (first | exact True.intro | refine And.intro ?_ ?_ | exact DLead.same | exact DLead.eqI (by omega) | exact DLead.nil | exact rfl | refine ⟨_, _, rfl, rfl, ?_⟩ | refine ⟨_, rfl, ?_⟩ | refine ⟨_, _, rfl, ?_, ?_⟩)) (by rw [fill_zero, ints_len]; repeat (first | exact True.intro | refine And.intro ?_ ?_ | exact DLead.same | exact DLead.eqI (by omega) | exact DLead.nil | exact rfl | refine ⟨_, _, rfl, rfl, ?_⟩ | refine ⟨_, rfl, ?_⟩ | refine ⟨_, _, rfl, ?_, ?_⟩)) rfl rfl rfl
  · intro k hk
    refine AC.seq ?_
    refine AC.seq ?_
    refine AC.region ?_
    refine AL.p (by first | exact mv1 rfl | exact mv2 rfl | exact mv3 rfl | exact mv4 rfl | exact mv5 rfl | exact mv6 rfl | exact mv7 rfl | exact mv8 rfl | exact mv9 rfl) rfl ?_
    refine AL.p (by first | exact mv1 rfl | exact mv2 rfl | exact mv3 rfl | exact mv4 rfl | exact mv5 rfl | exact mv6 rfl | exact mv7 rfl | exact mv8 rfl | exact mv9 rfl) rfl ?_
    refine AL.p (by first | exact g_len_view rfl rfl (by first | exact List.length_map _ | rfl) | exact g_len_str rfl rfl rfl | exact g_len_nil rfl rfl | exact g_len_own (sz := 1) (els := []) (e' := 0) rfl rfl (by simp only [maxLen]; omega) | exact g_len_tight rfl rfl (by first | exact List.length_map _ | rfl)) rfl ?_
    refine AL.p (by first | exact g_cmp rfl rfl rfl | exact g_scmp rfl rfl rfl | exact g_eqB rfl rfl rfl | exact g_neB rfl rfl rfl) rfl ?_
    refine AL.nil ?_
    refine th_n ?_
    first | refine AC.condD rfl (fun h0 => ?_) (fun h0 => ?_) | refine AC.condND rfl (fun h0 => ?_) (fun h0 => ?_) | refine AC.condB rfl (fun h0 => ?_) (fun h0 => ?_) | refine AC.condNB rfl (fun h0 => ?_) (fun h0 => ?_)
    · refine AC.skip ?_
      refine th_n ?_
      refine AC.seq ?_
      refine AC.block ?_
      have hk1 : k < l.length := by omega
      have hget := ints_at hk1
      have hfl := fill_len (ints l) [dI 0] (k := k) (by rw [ints_len]; omega)
      rw [ints_len] at hfl
      have hgf := fill_get (R := ints l) (z := [dI 0]) (k := k) (by rw [ints_len]; omega)
      have hst := fill_set (R := ints l) (z := [dI 0]) (k := k) (by rw [ints_len]; omega) hget
      refine AC.region ?_
      refine AL.p (by first | exact mv1 rfl | exact mv2 rfl | exact mv3 rfl | exact mv4 rfl | exact mv5 rfl | exact mv6 rfl | exact mv7 rfl | exact mv8 rfl | exact mv9 rfl) rfl ?_
      refine AL.p (by first | exact mv1 rfl | exact mv2 rfl | exact mv3 rfl | exact mv4 rfl | exact mv5 rfl | exact mv6 rfl | exact mv7 rfl | exact mv8 rfl | exact mv9 rfl) rfl ?_
      refine AL.p (by first | exact mv1 rfl | exact mv2 rfl | exact mv3 rfl | exact mv4 rfl | exact mv5 rfl | exact mv6 rfl | exact mv7 rfl | exact mv8 rfl | exact mv9 rfl) rfl ?_
      refine AL.p (by first | exact mv1 rfl | exact mv2 rfl | exact mv3 rfl | exact mv4 rfl | exact mv5 rfl | exact mv6 rfl | exact mv7 rfl | exact mv8 rfl | exact mv9 rfl) rfl ?_
      refine AL.p (by first | exact g_ia_view rfl rfl rfl rfl rfl (by first | rfl | assumption) (by first | assumption | rfl) | exact g_ia_own rfl rfl rfl rfl rfl (by first | rfl | assumption) (by omega) (by first | exact Nat.mul_one _ | rfl | omega)) rfl ?_
      refine AL.p (by first | exact g_load_ref rfl rfl rfl | exact g_load_ptr rfl rfl rfl rfl rfl | exact g_load_refN rfl rfl rfl rfl | exact g_load_ptrN rfl rfl rfl rfl rfl | exact g_load_arr1 rfl rfl rfl rfl (by assumption) | exact g_load_arr rfl rfl rfl rfl (by first | rfl | omega) (by first | assumption | rfl) (by first | assumption | rfl)) rfl ?_
      refine AL.p (by first | exact g_ia_view rfl rfl rfl rfl rfl (by first | rfl | assumption) (by first | assumption | rfl) | exact g_ia_own rfl rfl rfl rfl rfl (by first | rfl | assumption) (by omega) (by first | exact Nat.mul_one _ | rfl | omega)) rfl ?_
      refine AL.q (by first | exact h_store rfl rfl rfl rfl rfl rfl | exact h_store_arr1 rfl rfl rfl rfl (by first | exact .same | exact .nil) (by assumption) | exact h_store_arr rfl rfl rfl rfl (by first | exact .same | exact .nil) (by first | rfl | omega) (by first | assumption | rfl) (by omega)) rfl ?_
      refine AL.nil ?_
      refine ib_n ?_
      refine th_n ?_
      refine AC.region ?_
      refine AL.p (by first | exact mv1 rfl | exact mv2 rfl | exact mv3 rfl | exact mv4 rfl | exact mv5 rfl | exact mv6 rfl | exact mv7 rfl | exact mv8 rfl | exact mv9 rfl) rfl ?_
      refine AL.p (by first | exact g_arith rfl rfl rfl (by first | exact wrap_i64 (by omega) | exact wrap_u8 (by omega) | exact wrap_u64 (by omega) | rfl) | exact g_sadd rfl rfl (by first | assumption | omega | (simp only [ByteArray.size_append, bstr_size, List.length_take, List.length_drop, List.length_cons, List.length_nil]; omega))) rfl ?_
      refine AL.p (by first | exact as1 rfl | exact as2 rfl | exact as3 rfl | exact as4 rfl | exact as5 rfl | exact as6 rfl | exact as7 rfl | exact as8 rfl | exact as9 rfl) rfl ?_
      refine AL.nil ?_
      refine th_n ?_
      exact ⟨k + 1, by omega, by omega, Weak.ren _ [(100, _)] hC rfl (by repeat (first | exact True.intro | refine And.intro ?_ ?_ | exact DLead.same | exact DLead.eqI (by omega) | exact DLead.nil | exact rfl | refine ⟨_, _, rfl, rfl, ?_⟩ | refine ⟨_, rfl, ?_⟩ | refine ⟨_, _, rfl, ?_, ?_⟩)) (by rw [← hst]; repeat (first | exact True.intro | refine And.intro ?_ ?_ | exact DLead.same | exact DLead.eqI (by omega) | exact DLead.nil | exact rfl | refine ⟨_, _, rfl, rfl, ?_⟩ | refine ⟨_, rfl, ?_⟩ | refine ⟨_, _, rfl, ?_, ?_⟩)) rfl rfl rfl⟩
    · refine AC.exit ?_
      refine th_e ?_
      refine th_e ?_
      refine ib_y ?_
      refine th_n ?_
      refine AC.seq ?_
      have hkk : k = l.length := by omega
      have hfa := fill_all (ints l) [dI 0]
      rw [ints_len] at hfa
      rw [hkk, hfa]
      refine AC.weakR (WeakR.raw (id := 100) 3 rfl rfl (Nat.le_of_eq (ints_len _).symm) (ints_all _) (ints_flat _)) ?_
      rintro _ ⟨v, S, rfl⟩
      refine AC.region ?_
      refine AL.p (by first | exact mv1 rfl | exact mv2 rfl | exact mv3 rfl | exact mv4 rfl | exact mv5 rfl | exact mv6 rfl | exact mv7 rfl | exact mv8 rfl | exact mv9 rfl) rfl ?_
      refine AL.p (by first | exact as1 rfl | exact as2 rfl | exact as3 rfl | exact as4 rfl | exact as5 rfl | exact as6 rfl | exact as7 rfl | exact as8 rfl | exact as9 rfl) rfl ?_
      refine AL.nil ?_
      refine th_n ?_
      refine AC.ret ?_
      refine bq_r ?_
      exact retX [(0, 108)] rfl ⟨v, S, rfl, rfl⟩ (by repeat (first | exact True.intro | refine And.intro ?_ ?_ | exact DLead.same | exact DLead.eqI (by omega) | exact DLead.nil | exact rfl | refine ⟨_, _, rfl, rfl, ?_⟩ | refine ⟨_, rfl, ?_⟩ | refine ⟨_, _, rfl, ?_, ?_⟩)) (by repeat (first | exact True.intro | refine And.intro ?_ ?_ | exact DLead.same | exact DLead.eqI (by omega) | exact DLead.nil | exact rfl | refine ⟨_, _, rfl, rfl, ?_⟩ | refine ⟨_, rfl, ?_⟩ | refine ⟨_, _, rfl, ?_, ?_⟩)) rfl rfl
set_option maxHeartbeats 1000000 in
theorem toTn_T (t : Tn) (h1 : t.pre.length ≤ 1048576) (h2 : t.post.length ≤ 1048576) : ASpec Tryz.prog 64 [tnA t] [] (TwoT (vI t.pre) (vI t.post)) := by
  refine ASpec.of Tryz.func64 rfl rfl fun C hC => ?_
  refine AC.seq ?_
  refine AC.region ?_
  refine AL.q (by exact h_boxF rfl rfl) rfl ?_
  refine AL.q (by exact h_alloc rfl) rfl ?_
  refine AL.nil ?_
  refine th_n ?_
  refine AC.seq ?_
  refine AC.region ?_
  refine AL.q (by exact h_alloc rfl) rfl ?_
  refine AL.nil ?_
  refine th_n ?_
  refine AC.seq ?_
  refine AC.region ?_
  refine AL.p (by first | exact g_fa_ref rfl rfl rfl rfl rfl rfl | exact g_fa_ptr rfl rfl rfl rfl rfl) rfl ?_
  refine AL.p (by first | exact g_load_ref rfl rfl rfl | exact g_load_ptr rfl rfl rfl rfl rfl | exact g_load_refN rfl rfl rfl rfl | exact g_load_ptrN rfl rfl rfl rfl rfl | exact g_load_arr1 rfl rfl rfl rfl (by assumption) | exact g_load_arr rfl rfl rfl rfl (by first | rfl | omega) (by first | assumption | rfl) (by first | assumption | rfl)) rfl ?_
  refine AL.r (by exact h_funR (cs := []) en_toIntS rfl rfl (by repeat (first | exact rfl | exact DLead.same | exact DLead.nil | refine ⟨_, _, rfl, ?_, ?_⟩ | refine ⟨_, rfl, ?_⟩)) (by repeat (first | exact True.intro | refine And.intro ?_ ?_ | exact DLead.same | exact DLead.eqI (by omega) | exact DLead.nil | exact rfl | refine ⟨_, _, rfl, rfl, ?_⟩ | refine ⟨_, rfl, ?_⟩ | refine ⟨_, _, rfl, ?_, ?_⟩)) (toIntS_T _ h1) rfl rfl rfl) rfl ?_
  rintro _ ⟨_, _, ⟨v1, S1, rfl, rfl⟩, rfl⟩
  refine AL.p (by first | exact g_fa_ref rfl rfl rfl rfl rfl rfl | exact g_fa_ptr rfl rfl rfl rfl rfl) rfl ?_
  refine AL.q (by first | exact h_store rfl rfl rfl rfl rfl rfl | exact h_store_arr1 rfl rfl rfl rfl (by first | exact .same | exact .nil) (by assumption) | exact h_store_arr rfl rfl rfl rfl (by first | exact .same | exact .nil) (by first | rfl | omega) (by first | assumption | rfl) (by omega)) rfl ?_
  refine AL.nil ?_
  refine th_n ?_
  refine AC.seq ?_
  refine AC.region ?_
  refine AL.p (by first | exact g_fa_ref rfl rfl rfl rfl rfl rfl | exact g_fa_ptr rfl rfl rfl rfl rfl) rfl ?_
  refine AL.p (by first | exact g_load_ref rfl rfl rfl | exact g_load_ptr rfl rfl rfl rfl rfl | exact g_load_refN rfl rfl rfl rfl | exact g_load_ptrN rfl rfl rfl rfl rfl | exact g_load_arr1 rfl rfl rfl rfl (by assumption) | exact g_load_arr rfl rfl rfl rfl (by first | rfl | omega) (by first | assumption | rfl) (by first | assumption | rfl)) rfl ?_
  refine AL.r (by exact h_funR (cs := []) en_toIntS rfl rfl (by repeat (first | exact rfl | exact DLead.same | exact DLead.nil | refine ⟨_, _, rfl, ?_, ?_⟩ | refine ⟨_, rfl, ?_⟩)) (by repeat (first | exact True.intro | refine And.intro ?_ ?_ | exact DLead.same | exact DLead.eqI (by omega) | exact DLead.nil | exact rfl | refine ⟨_, _, rfl, rfl, ?_⟩ | refine ⟨_, rfl, ?_⟩ | refine ⟨_, _, rfl, ?_, ?_⟩)) (toIntS_T _ h2) rfl rfl rfl) rfl ?_
  rintro _ ⟨_, _, ⟨v2, S2, rfl, rfl⟩, rfl⟩
  refine AL.p (by first | exact g_fa_ref rfl rfl rfl rfl rfl rfl | exact g_fa_ptr rfl rfl rfl rfl rfl) rfl ?_
  refine AL.q (by first | exact h_store rfl rfl rfl rfl rfl rfl | exact h_store_arr1 rfl rfl rfl rfl (by first | exact .same | exact .nil) (by assumption) | exact h_store_arr rfl rfl rfl rfl (by first | exact .same | exact .nil) (by first | rfl | omega) (by first | assumption | rfl) (by omega)) rfl ?_
  refine AL.nil ?_
  refine th_n ?_
  refine AC.seq ?_
  refine AC.weak (Weak.appT 24 40 rfl (fun w h => TL.one h) rfl (fun w h => TL.one h) rfl) ?_
  refine AC.region ?_
  refine AL.p (by first | exact g_load_ref rfl rfl rfl | exact g_load_ptr rfl rfl rfl rfl rfl | exact g_load_refN rfl rfl rfl rfl | exact g_load_ptrN rfl rfl rfl rfl rfl | exact g_load_arr1 rfl rfl rfl rfl (by assumption) | exact g_load_arr rfl rfl rfl rfl (by first | rfl | omega) (by first | assumption | rfl) (by first | assumption | rfl)) rfl ?_
  refine AL.q (by first | exact h_store rfl rfl rfl rfl rfl rfl | exact h_store_arr1 rfl rfl rfl rfl (by first | exact .same | exact .nil) (by assumption) | exact h_store_arr rfl rfl rfl rfl (by first | exact .same | exact .nil) (by first | rfl | omega) (by first | assumption | rfl) (by omega)) rfl ?_
  refine AL.nil ?_
  refine th_n ?_
  refine AC.ret ?_
  refine bq_r ?_
  exact retX [(0, 24)] rfl ⟨v1, v2, _, rfl, rfl⟩ (by repeat (first | exact True.intro | refine And.intro ?_ ?_ | exact DLead.same | exact DLead.eqI (by omega) | exact DLead.nil | exact rfl | refine ⟨_, _, rfl, rfl, ?_⟩ | refine ⟨_, rfl, ?_⟩ | refine ⟨_, _, rfl, ?_, ?_⟩)) (by repeat (first | exact True.intro | refine And.intro ?_ ?_ | exact DLead.same | exact DLead.eqI (by omega) | exact DLead.nil | exact rfl | refine ⟨_, _, rfl, rfl, ?_⟩ | refine ⟨_, rfl, ?_⟩ | refine ⟨_, _, rfl, ?_, ?_⟩)) rfl rfl
theorem takeR_flat {R : List (List DV)} {k : Nat} {r : List DV} (h : R[k]? = some r) : (R.take (k + 1)).flatten = (R.take k).flatten ++ r := by
  rw [List.take_add_one, h, List.flatten_append]; simp
theorem tsL_row (ts : List Tn) : ∀ cs, cs ∈ tsL ts → cs.length = 2 := by
  intro cs hc
  obtain ⟨x, _, rfl⟩ := List.mem_map.1 hc
  rfl
theorem evsL_row (es : List Ev) : ∀ cs, cs ∈ evsL es → cs.length = 2 := by
  intro cs hc
  obtain ⟨x, _, rfl⟩ := List.mem_map.1 hc
  rfl
theorem condsL_flat (l : List Cond) : ∀ cs, cs ∈ condsL l → ∀ d, d ∈ cs → d.flat := by
  intro cs hc d hd
  obtain ⟨x, _, rfl⟩ := List.mem_map.1 hc
  rcases List.mem_cons.1 hd with rfl | hd
  · exact trivial
  · obtain rfl := List.mem_singleton.1 hd
    exact trivial
set_option maxHeartbeats 2000000 in
theorem toTnS_T (ts : List Tn) (hl : ts.length ≤ 1048576) (hb : ∀ t, t ∈ ts → t.pre.length ≤ 1048576 ∧ t.post.length ≤ 1048576) : ASpec Tryz.prog 35 [.d (vLTs ts)] [] (OneT (vTs ts)) := by
  have hrl : (tsL ts).length = ts.length := List.length_map _
  refine ASpec.of Tryz.func35 rfl rfl fun C hC => ?_
  refine AC.seq ?_
  refine AC.region ?_
  refine AL.p (by first | exact as1 rfl | exact as2 rfl | exact as3 rfl | exact as4 rfl | exact as5 rfl | exact as6 rfl | exact as7 rfl | exact as8 rfl | exact as9 rfl) rfl ?_
  refine AL.nil ?_
  refine th_n ?_
  refine AC.seq ?_
  refine AC.region ?_
  refine AL.p (by first | exact mv1 rfl | exact mv2 rfl | exact mv3 rfl | exact mv4 rfl | exact mv5 rfl | exact mv6 rfl | exact mv7 rfl | exact mv8 rfl | exact mv9 rfl) rfl ?_
  refine AL.p (by first | exact g_len_view rfl rfl (by first | exact List.length_map _ | rfl) | exact g_len_str rfl rfl rfl | exact g_len_nil rfl rfl | exact g_len_own (sz := 1) (els := []) (e' := 0) rfl rfl (by simp only [maxLen]; omega) | exact g_len_tight rfl rfl (by first | exact List.length_map _ | rfl)) rfl ?_
  refine AL.q (by exact h_make (k := ts.length) rfl rfl rfl rfl rfl rfl rfl rfl (by show 48 * ts.length ≤ _; omega) (by omega)) rfl ?_
  refine AL.p (by first | exact as1 rfl | exact as2 rfl | exact as3 rfl | exact as4 rfl | exact as5 rfl | exact as6 rfl | exact as7 rfl | exact as8 rfl | exact as9 rfl) rfl ?_
  refine AL.nil ?_
  refine th_n ?_
  refine AC.seq ?_
  refine AC.seq ?_
  refine AC.region ?_
  refine AL.p (by first | exact as1 rfl | exact as2 rfl | exact as3 rfl | exact as4 rfl | exact as5 rfl | exact as6 rfl | exact as7 rfl | exact as8 rfl | exact as9 rfl) rfl ?_
  refine AL.nil ?_
  refine th_n ?_
  refine AC.block ?_
  refine AC.loop (ι := Nat × List Value × (Nat → Prop)) (fun x => ⟨23, 108, [(0, .d (vLTs ts)), (3, .own 100 ts.length), (4, aI x.1)], [(100, some (.arr 105 2 (fillV 2 ts.length x.1 [DV.val (.slice none 0 0), DV.val (.slice none 0 0)] x.2.1))), (101, some (.pred x.2.2 fun w => TL w x.2.2 ((tsL ts).take x.1).flatten x.2.1))]⟩) (fun x => x.1 ≤ ts.length ∧ x.2.1.length = x.1 * 2) (fun x => ts.length - x.1) ((0, [], fun _ => False)) ?_ (⟨Nat.zero_le _, rfl⟩) ?_
  · exact Weak.trans Weak.emptyT (Weak.ren _ [(100, 0), (101, 8)] hC rfl (by repeat (first | exact True.intro | refine And.intro ?_ ?_ | exact DLead.same | exact DLead.eqI (by omega) | exact DLead.nil | exact rfl | refine ⟨_, _, rfl, rfl, ?_⟩ | refine ⟨_, rfl, ?_⟩ | refine ⟨_, _, rfl, ?_, ?_⟩)) (by dsimp only; rw [fillV_zero]; repeat (first | exact True.intro | refine And.intro ?_ ?_ | exact DLead.same | exact DLead.eqI (by omega) | exact DLead.nil | exact rfl | refine ⟨_, _, rfl, rfl, ?_⟩ | refine ⟨_, rfl, ?_⟩ | refine ⟨_, _, rfl, ?_, ?_⟩)) rfl rfl rfl)
  · rintro ⟨k, V, S⟩ ⟨hk, hV⟩
    refine AC.seq ?_
    refine AC.seq ?_
    refine AC.region ?_
    refine AL.p (by first | exact mv1 rfl | exact mv2 rfl | exact mv3 rfl | exact mv4 rfl | exact mv5 rfl | exact mv6 rfl | exact mv7 rfl | exact mv8 rfl | exact mv9 rfl) rfl ?_
    refine AL.p (by first | exact mv1 rfl | exact mv2 rfl | exact mv3 rfl | exact mv4 rfl | exact mv5 rfl | exact mv6 rfl | exact mv7 rfl | exact mv8 rfl | exact mv9 rfl) rfl ?_
    refine AL.p (by first | exact g_len_view rfl rfl (by first | exact List.length_map _ | rfl) | exact g_len_str rfl rfl rfl | exact g_len_nil rfl rfl | exact g_len_own (sz := 1) (els := []) (e' := 0) rfl rfl (by simp only [maxLen]; omega) | exact g_len_tight rfl rfl (by first | exact List.length_map _ | rfl)) rfl ?_
    refine AL.p (by first | exact g_cmp rfl rfl rfl | exact g_scmp rfl rfl rfl | exact g_eqB rfl rfl rfl | exact g_neB rfl rfl rfl) rfl ?_
    refine AL.nil ?_
    refine th_n ?_
    first | refine AC.condD rfl (fun h0 => ?_) (fun h0 => ?_) | refine AC.condND rfl (fun h0 => ?_) (fun h0 => ?_) | refine AC.condB rfl (fun h0 => ?_) (fun h0 => ?_) | refine AC.condNB rfl (fun h0 => ?_) (fun h0 => ?_)
    · refine AC.skip ?_
      refine th_n ?_
      refine AC.seq ?_
      refine AC.block ?_
      dsimp only at hk hV
      have hk1 : k < ts.length := by omega
      have hget := tsL_get hk1
      have hb1 := (hb _ (List.getElem_mem hk1)).1
      have hb2 := (hb _ (List.getElem_mem hk1)).2
      have hfl := fillV_len (sz := 2) (z := [DV.val (.slice none 0 0), DV.val (.slice none 0 0)]) (V := V) hk
      refine AC.region ?_
      refine AL.p (by first | exact mv1 rfl | exact mv2 rfl | exact mv3 rfl | exact mv4 rfl | exact mv5 rfl | exact mv6 rfl | exact mv7 rfl | exact mv8 rfl | exact mv9 rfl) rfl ?_
      refine AL.p (by first | exact mv1 rfl | exact mv2 rfl | exact mv3 rfl | exact mv4 rfl | exact mv5 rfl | exact mv6 rfl | exact mv7 rfl | exact mv8 rfl | exact mv9 rfl) rfl ?_
      refine AL.p (by first | exact mv1 rfl | exact mv2 rfl | exact mv3 rfl | exact mv4 rfl | exact mv5 rfl | exact mv6 rfl | exact mv7 rfl | exact mv8 rfl | exact mv9 rfl) rfl ?_
      refine AL.p (by first | exact mv1 rfl | exact mv2 rfl | exact mv3 rfl | exact mv4 rfl | exact mv5 rfl | exact mv6 rfl | exact mv7 rfl | exact mv8 rfl | exact mv9 rfl) rfl ?_
      refine AL.p (by first | exact g_ia_view rfl rfl rfl rfl rfl (by first | rfl | assumption) (by first | assumption | rfl) | exact g_ia_own rfl rfl rfl rfl rfl (by first | rfl | assumption) (by omega) (by first | exact Nat.mul_one _ | rfl | omega)) rfl ?_
      refine AL.p (by first | exact g_load_ref rfl rfl rfl | exact g_load_ptr rfl rfl rfl rfl rfl | exact g_load_refN rfl rfl rfl rfl | exact g_load_ptrN rfl rfl rfl rfl rfl | exact g_load_arr1 rfl rfl rfl rfl (by assumption) | exact g_load_arr rfl rfl rfl rfl (by first | rfl | omega) (by first | assumption | rfl) (by first | assumption | rfl)) rfl ?_
      refine AL.r (by exact h_funR (cs := []) en_toTn rfl rfl (by repeat (first | exact rfl | exact DLead.same | exact DLead.nil | refine ⟨_, _, rfl, ?_, ?_⟩ | refine ⟨_, rfl, ?_⟩)) (by repeat (first | exact True.intro | refine And.intro ?_ ?_ | exact DLead.same | exact DLead.eqI (by omega) | exact DLead.nil | exact rfl | refine ⟨_, _, rfl, rfl, ?_⟩ | refine ⟨_, rfl, ?_⟩ | refine ⟨_, _, rfl, ?_, ?_⟩)) (toTn_T _ hb1 hb2) rfl rfl rfl) rfl ?_
      rintro _ ⟨_, _, ⟨v1, v2, S1, rfl, rfl⟩, rfl⟩
      have hst := fillV_set (z := [DV.val (.slice none 0 0), DV.val (.slice none 0 0)]) (vs := [v1, v2]) hk1 hV rfl
      refine AL.p (by first | exact g_ia_view rfl rfl rfl rfl rfl (by first | rfl | assumption) (by first | assumption | rfl) | exact g_ia_own rfl rfl rfl rfl rfl (by first | rfl | assumption) (by omega) (by first | exact Nat.mul_one _ | rfl | omega)) rfl ?_
      refine AL.q (by exact h_store_row (i := k) (ds := [.val v1, .val v2]) rfl rfl rfl rfl rfl rfl rfl (by dsimp only; omega)) rfl ?_
      refine AL.nil ?_
      refine ib_n ?_
      refine th_n ?_
      refine AC.region ?_
      refine AL.p (by first | exact mv1 rfl | exact mv2 rfl | exact mv3 rfl | exact mv4 rfl | exact mv5 rfl | exact mv6 rfl | exact mv7 rfl | exact mv8 rfl | exact mv9 rfl) rfl ?_
      refine AL.p (by first | exact g_arith rfl rfl rfl (by first | exact wrap_i64 (by omega) | exact wrap_u8 (by omega) | exact wrap_u64 (by omega) | rfl) | exact g_sadd rfl rfl (by first | assumption | omega | (simp only [ByteArray.size_append, bstr_size, List.length_take, List.length_drop, List.length_cons, List.length_nil]; omega))) rfl ?_
      refine AL.p (by first | exact as1 rfl | exact as2 rfl | exact as3 rfl | exact as4 rfl | exact as5 rfl | exact as6 rfl | exact as7 rfl | exact as8 rfl | exact as9 rfl) rfl ?_
      refine AL.nil ?_
      refine th_n ?_
      refine ⟨(k + 1, V ++ [v1, v2], fun q => S q ∨ S1 q), ⟨hk1, by simp; omega⟩, by dsimp only; omega, Weak.trans (Weak.appT 101 108 rfl (fun w h => h) rfl (fun w h => h) rfl) (Weak.ren _ [(100, 100), (101, 101)] hC rfl (by repeat (first | exact True.intro | refine And.intro ?_ ?_ | exact DLead.same | exact DLead.eqI (by omega) | exact DLead.nil | exact rfl | refine ⟨_, _, rfl, rfl, ?_⟩ | refine ⟨_, rfl, ?_⟩ | refine ⟨_, _, rfl, ?_, ?_⟩)) ?_ rfl rfl rfl)⟩
      dsimp only
      rw [takeR_flat hget]
      rw [← hst]
      repeat (first | exact True.intro | refine And.intro ?_ ?_ | exact DLead.same | exact DLead.eqI (by omega) | exact DLead.nil | exact rfl | refine ⟨_, _, rfl, rfl, ?_⟩ | refine ⟨_, rfl, ?_⟩ | refine ⟨_, _, rfl, ?_, ?_⟩)
    · refine AC.exit ?_
      refine th_e ?_
      refine th_e ?_
      refine ib_y ?_
      refine th_n ?_
      refine AC.seq ?_
      dsimp only at hk hV
      obtain rfl : k = ts.length := by omega
      refine AC.weakR (WeakR.closeN (els := tsL ts) (V := V) 3 101 100 rfl hrl.symm rfl (fun w h => by rw [List.take_of_length_le (by omega)] at h; exact h) rfl (by rw [hrl]; exact fillV_all _ _ _ _) (tsL_row ts) rfl) ?_
      rintro _ ⟨v, S', rfl⟩
      refine AC.region ?_
      refine AL.p (by first | exact mv1 rfl | exact mv2 rfl | exact mv3 rfl | exact mv4 rfl | exact mv5 rfl | exact mv6 rfl | exact mv7 rfl | exact mv8 rfl | exact mv9 rfl) rfl ?_
      refine AL.p (by first | exact as1 rfl | exact as2 rfl | exact as3 rfl | exact as4 rfl | exact as5 rfl | exact as6 rfl | exact as7 rfl | exact as8 rfl | exact as9 rfl) rfl ?_
      refine AL.nil ?_
      refine th_n ?_
      refine AC.ret ?_
      refine bq_r ?_
      exact retX [(0, 101)] rfl ⟨v, S', rfl, rfl⟩ (by repeat (first | exact True.intro | refine And.intro ?_ ?_ | exact DLead.same | exact DLead.eqI (by omega) | exact DLead.nil | exact rfl | refine ⟨_, _, rfl, rfl, ?_⟩ | refine ⟨_, rfl, ?_⟩ | refine ⟨_, _, rfl, ?_, ?_⟩)) (by repeat (first | exact True.intro | refine And.intro ?_ ?_ | exact DLead.same | exact DLead.eqI (by omega) | exact DLead.nil | exact rfl | refine ⟨_, _, rfl, rfl, ?_⟩ | refine ⟨_, rfl, ?_⟩ | refine ⟨_, _, rfl, ?_, ?_⟩)) rfl rfl
set_option maxHeartbeats 1000000 in
theorem toNet_T (n : Net) (hl : n.ts.length ≤ 1048576) (hb : ∀ t, t ∈ n.ts → t.pre.length ≤ 1048576 ∧ t.post.length ≤ 1048576) : ASpec Tryz.prog 9 [lnetA n] [] (TwoT (dI n.places) (vTs n.ts)) := by
  refine ASpec.of Tryz.func9 rfl rfl fun C hC => ?_
  refine AC.seq ?_
  refine AC.region ?_
  refine AL.q (by exact h_boxF rfl rfl) rfl ?_
  refine AL.q (by exact h_alloc rfl) rfl ?_
  refine AL.nil ?_
  refine th_n ?_
  refine AC.seq ?_
  refine AC.region ?_
  refine AL.q (by exact h_alloc rfl) rfl ?_
  refine AL.nil ?_
  refine th_n ?_
  refine AC.seq ?_
  refine AC.region ?_
  refine AL.p (by first | exact g_fa_ref rfl rfl rfl rfl rfl rfl | exact g_fa_ptr rfl rfl rfl rfl rfl) rfl ?_
  refine AL.p (by first | exact g_load_ref rfl rfl rfl | exact g_load_ptr rfl rfl rfl rfl rfl | exact g_load_refN rfl rfl rfl rfl | exact g_load_ptrN rfl rfl rfl rfl rfl | exact g_load_arr1 rfl rfl rfl rfl (by assumption) | exact g_load_arr rfl rfl rfl rfl (by first | rfl | omega) (by first | assumption | rfl) (by first | assumption | rfl)) rfl ?_
  refine AL.p (by first | exact g_fa_ref rfl rfl rfl rfl rfl rfl | exact g_fa_ptr rfl rfl rfl rfl rfl) rfl ?_
  refine AL.q (by first | exact h_store rfl rfl rfl rfl rfl rfl | exact h_store_arr1 rfl rfl rfl rfl (by first | exact .same | exact .nil) (by assumption) | exact h_store_arr rfl rfl rfl rfl (by first | exact .same | exact .nil) (by first | rfl | omega) (by first | assumption | rfl) (by omega)) rfl ?_
  refine AL.nil ?_
  refine th_n ?_
  refine AC.seq ?_
  refine AC.region ?_
  refine AL.p (by first | exact g_fa_ref rfl rfl rfl rfl rfl rfl | exact g_fa_ptr rfl rfl rfl rfl rfl) rfl ?_
  refine AL.p (by first | exact g_load_ref rfl rfl rfl | exact g_load_ptr rfl rfl rfl rfl rfl | exact g_load_refN rfl rfl rfl rfl | exact g_load_ptrN rfl rfl rfl rfl rfl | exact g_load_arr1 rfl rfl rfl rfl (by assumption) | exact g_load_arr rfl rfl rfl rfl (by first | rfl | omega) (by first | assumption | rfl) (by first | assumption | rfl)) rfl ?_
  refine AL.r (by exact h_funR (cs := []) en_toTnS rfl rfl (by repeat (first | exact rfl | exact DLead.same | exact DLead.nil | refine ⟨_, _, rfl, ?_, ?_⟩ | refine ⟨_, rfl, ?_⟩)) (by repeat (first | exact True.intro | refine And.intro ?_ ?_ | exact DLead.same | exact DLead.eqI (by omega) | exact DLead.nil | exact rfl | refine ⟨_, _, rfl, rfl, ?_⟩ | refine ⟨_, rfl, ?_⟩ | refine ⟨_, _, rfl, ?_, ?_⟩)) (toTnS_T _ hl hb) rfl rfl rfl) rfl ?_
  rintro _ ⟨_, _, ⟨v1, S1, rfl, rfl⟩, rfl⟩
  refine AL.p (by first | exact g_fa_ref rfl rfl rfl rfl rfl rfl | exact g_fa_ptr rfl rfl rfl rfl rfl) rfl ?_
  refine AL.q (by first | exact h_store rfl rfl rfl rfl rfl rfl | exact h_store_arr1 rfl rfl rfl rfl (by first | exact .same | exact .nil) (by assumption) | exact h_store_arr rfl rfl rfl rfl (by first | exact .same | exact .nil) (by first | rfl | omega) (by first | assumption | rfl) (by omega)) rfl ?_
  refine AL.nil ?_
  refine th_n ?_
  refine AC.seq ?_
  refine AC.weakR (WeakR.okI (k := .i64) (x := n.places) 5 rfl) ?_
  rintro _ ⟨hok, rfl⟩
  refine AC.weak (Weak.cons 32 (fun w => TL w S1 [dI n.places, vTs n.ts] [.int .i64 n.places, v1]) rfl (fun w h => TL.consFlat hok (TL.one h)) (fun w w' hk h => h.turn hk)) ?_
  refine AC.region ?_
  refine AL.p (by first | exact g_load_ref rfl rfl rfl | exact g_load_ptr rfl rfl rfl rfl rfl | exact g_load_refN rfl rfl rfl rfl | exact g_load_ptrN rfl rfl rfl rfl rfl | exact g_load_arr1 rfl rfl rfl rfl (by assumption) | exact g_load_arr rfl rfl rfl rfl (by first | rfl | omega) (by first | assumption | rfl) (by first | assumption | rfl)) rfl ?_
  refine AL.q (by first | exact h_store rfl rfl rfl rfl rfl rfl | exact h_store_arr1 rfl rfl rfl rfl (by first | exact .same | exact .nil) (by assumption) | exact h_store_arr rfl rfl rfl rfl (by first | exact .same | exact .nil) (by first | rfl | omega) (by first | assumption | rfl) (by omega)) rfl ?_
  refine AL.nil ?_
  refine th_n ?_
  refine AC.ret ?_
  refine bq_r ?_
  exact retX [(0, 32)] rfl ⟨_, v1, S1, rfl, rfl⟩ (by repeat (first | exact True.intro | refine And.intro ?_ ?_ | exact DLead.same | exact DLead.eqI (by omega) | exact DLead.nil | exact rfl | refine ⟨_, _, rfl, rfl, ?_⟩ | refine ⟨_, rfl, ?_⟩ | refine ⟨_, _, rfl, ?_, ?_⟩)) (by repeat (first | exact True.intro | refine And.intro ?_ ?_ | exact DLead.same | exact DLead.eqI (by omega) | exact DLead.nil | exact rfl | refine ⟨_, _, rfl, rfl, ?_⟩ | refine ⟨_, rfl, ?_⟩ | refine ⟨_, _, rfl, ?_, ?_⟩)) rfl rfl
set_option maxHeartbeats 2000000 in
theorem toCondS_T (cs : List Cond) (hl : cs.length ≤ 1048576) : ASpec Tryz.prog 36 [.d (vLCs cs)] [] (OneT (vCs cs)) := by
  have hrl : (condsL cs).length = cs.length := List.length_map _
  refine ASpec.of Tryz.func36 rfl rfl fun C hC => ?_
  refine AC.seq ?_
  refine AC.region ?_
  refine AL.p (by first | exact as1 rfl | exact as2 rfl | exact as3 rfl | exact as4 rfl | exact as5 rfl | exact as6 rfl | exact as7 rfl | exact as8 rfl | exact as9 rfl) rfl ?_
  refine AL.nil ?_
  refine th_n ?_
  refine AC.seq ?_
  refine AC.region ?_
  refine AL.p (by first | exact mv1 rfl | exact mv2 rfl | exact mv3 rfl | exact mv4 rfl | exact mv5 rfl | exact mv6 rfl | exact mv7 rfl | exact mv8 rfl | exact mv9 rfl) rfl ?_
  refine AL.p (by first | exact g_len_view rfl rfl (by first | exact List.length_map _ | rfl) | exact g_len_str rfl rfl rfl | exact g_len_nil rfl rfl | exact g_len_own (sz := 1) (els := []) (e' := 0) rfl rfl (by simp only [maxLen]; omega) | exact g_len_tight rfl rfl (by first | exact List.length_map _ | rfl)) rfl ?_
  refine AL.q (by exact h_make (k := cs.length) rfl rfl rfl rfl rfl rfl rfl rfl (by show 16 * cs.length ≤ _; omega) (by omega)) rfl ?_
  refine AL.p (by first | exact as1 rfl | exact as2 rfl | exact as3 rfl | exact as4 rfl | exact as5 rfl | exact as6 rfl | exact as7 rfl | exact as8 rfl | exact as9 rfl) rfl ?_
  refine AL.nil ?_
  refine th_n ?_
  refine AC.seq ?_
  refine AC.seq ?_
  refine AC.region ?_
  refine AL.p (by first | exact as1 rfl | exact as2 rfl | exact as3 rfl | exact as4 rfl | exact as5 rfl | exact as6 rfl | exact as7 rfl | exact as8 rfl | exact as9 rfl) rfl ?_
  refine AL.nil ?_
  refine th_n ?_
  refine AC.block ?_
  refine AC.loop (ι := Nat) (fun k => ⟨23, 108, [(0, .d (vLCs cs)), (3, .own 100 cs.length), (4, aI k)], [(100, some (.arr 103 2 (fillR (condsL cs) [dI 0, dI 0] k)))]⟩) (fun k => k ≤ cs.length) (fun k => cs.length - k) (0) ?_ (Nat.zero_le _) ?_
  · exact Weak.ren _ [(100, _)] hC rfl (by repeat (first | exact True.intro | refine And.intro ?_ ?_ | exact DLead.same | exact DLead.eqI (by omega) | exact DLead.nil | exact rfl | refine ⟨_, _, rfl, rfl, ?_⟩ | refine ⟨_, rfl, ?_⟩ | refine ⟨_, _, rfl, ?_, ?_⟩)) (by rw [fill_zero, hrl]; repeat (first | exact True.intro | refine And.intro ?_ ?_ | exact DLead.same | exact DLead.eqI (by omega) | exact DLead.nil | exact rfl | refine ⟨_, _, rfl, rfl, ?_⟩ | refine ⟨_, rfl, ?_⟩ | refine ⟨_, _, rfl, ?_, ?_⟩)) rfl rfl rfl
  · intro k hk
    refine AC.seq ?_
    refine AC.seq ?_
    refine AC.region ?_
    refine AL.p (by first | exact mv1 rfl | exact mv2 rfl | exact mv3 rfl | exact mv4 rfl | exact mv5 rfl | exact mv6 rfl | exact mv7 rfl | exact mv8 rfl | exact mv9 rfl) rfl ?_
    refine AL.p (by first | exact mv1 rfl | exact mv2 rfl | exact mv3 rfl | exact mv4 rfl | exact mv5 rfl | exact mv6 rfl | exact mv7 rfl | exact mv8 rfl | exact mv9 rfl) rfl ?_
    refine AL.p (by first | exact g_len_view rfl rfl (by first | exact List.length_map _ | rfl) | exact g_len_str rfl rfl rfl | exact g_len_nil rfl rfl | exact g_len_own (sz := 1) (els := []) (e' := 0) rfl rfl (by simp only [maxLen]; omega) | exact g_len_tight rfl rfl (by first | exact List.length_map _ | rfl)) rfl ?_
    refine AL.p (by first | exact g_cmp rfl rfl rfl | exact g_scmp rfl rfl rfl | exact g_eqB rfl rfl rfl | exact g_neB rfl rfl rfl) rfl ?_
    refine AL.nil ?_
    refine th_n ?_
    first | refine AC.condD rfl (fun h0 => ?_) (fun h0 => ?_) | refine AC.condND rfl (fun h0 => ?_) (fun h0 => ?_) | refine AC.condB rfl (fun h0 => ?_) (fun h0 => ?_) | refine AC.condNB rfl (fun h0 => ?_) (fun h0 => ?_)
    · refine AC.skip ?_
      refine th_n ?_
      refine AC.seq ?_
      refine AC.block ?_
      have hk1 : k < cs.length := by omega
      have hget := condsL_get hk1
      have hfl := fill_len (condsL cs) [dI 0, dI 0] (k := k) (by omega)
      have hst := fill_set (R := condsL cs) (z := [dI 0, dI 0]) (k := k) (by omega) hget
      refine AC.region ?_
      refine AL.p (by first | exact mv1 rfl | exact mv2 rfl | exact mv3 rfl | exact mv4 rfl | exact mv5 rfl | exact mv6 rfl | exact mv7 rfl | exact mv8 rfl | exact mv9 rfl) rfl ?_
      refine AL.p (by first | exact mv1 rfl | exact mv2 rfl | exact mv3 rfl | exact mv4 rfl | exact mv5 rfl | exact mv6 rfl | exact mv7 rfl | exact mv8 rfl | exact mv9 rfl) rfl ?_
      refine AL.p (by first | exact mv1 rfl | exact mv2 rfl | exact mv3 rfl | exact mv4 rfl | exact mv5 rfl | exact mv6 rfl | exact mv7 rfl | exact mv8 rfl | exact mv9 rfl) rfl ?_
      refine AL.p (by first | exact mv1 rfl | exact mv2 rfl | exact mv3 rfl | exact mv4 rfl | exact mv5 rfl | exact mv6 rfl | exact mv7 rfl | exact mv8 rfl | exact mv9 rfl) rfl ?_
      refine AL.p (by first | exact g_ia_view rfl rfl rfl rfl rfl (by first | rfl | assumption) (by first | assumption | rfl) | exact g_ia_own rfl rfl rfl rfl rfl (by first | rfl | assumption) (by omega) (by first | exact Nat.mul_one _ | rfl | omega)) rfl ?_
      refine AL.p (by first | exact g_load_ref rfl rfl rfl | exact g_load_ptr rfl rfl rfl rfl rfl | exact g_load_refN rfl rfl rfl rfl | exact g_load_ptrN rfl rfl rfl rfl rfl | exact g_load_arr1 rfl rfl rfl rfl (by assumption) | exact g_load_arr rfl rfl rfl rfl (by first | rfl | omega) (by first | assumption | rfl) (by first | assumption | rfl)) rfl ?_
      refine AL.q (by exact h_pure en_toCond rfl rfl (by repeat (first | exact rfl | exact DLead.same | exact DLead.nil | refine ⟨_, _, rfl, ?_, ?_⟩ | refine ⟨_, rfl, ?_⟩ | exact ⟨_, rfl, rfl⟩)) (toCond_spec _) rfl) rfl ?_
      refine AL.p (by first | exact g_ia_view rfl rfl rfl rfl rfl (by first | rfl | assumption) (by first | assumption | rfl) | exact g_ia_own rfl rfl rfl rfl rfl (by first | rfl | assumption) (by omega) (by first | exact Nat.mul_one _ | rfl | omega)) rfl ?_
      refine AL.q (by exact h_store_row (i := k) (ds := condD cs[k]) rfl rfl rfl rfl rfl rfl rfl (by omega)) rfl ?_
      refine AL.nil ?_
      refine ib_n ?_
      refine th_n ?_
      refine AC.region ?_
      refine AL.p (by first | exact mv1 rfl | exact mv2 rfl | exact mv3 rfl | exact mv4 rfl | exact mv5 rfl | exact mv6 rfl | exact mv7 rfl | exact mv8 rfl | exact mv9 rfl) rfl ?_
      refine AL.p (by first | exact g_arith rfl rfl rfl (by first | exact wrap_i64 (by omega) | exact wrap_u8 (by omega) | exact wrap_u64 (by omega) | rfl) | exact g_sadd rfl rfl (by first | assumption | omega | (simp only [ByteArray.size_append, bstr_size, List.length_take, List.length_drop, List.length_cons, List.length_nil]; omega))) rfl ?_
      refine AL.p (by first | exact as1 rfl | exact as2 rfl | exact as3 rfl | exact as4 rfl | exact as5 rfl | exact as6 rfl | exact as7 rfl | exact as8 rfl | exact as9 rfl) rfl ?_
      refine AL.nil ?_
      refine th_n ?_
      exact ⟨k + 1, by omega, by omega, Weak.ren _ [(100, _)] hC rfl (by repeat (first | exact True.intro | refine And.intro ?_ ?_ | exact DLead.same | exact DLead.eqI (by omega) | exact DLead.nil | exact rfl | refine ⟨_, _, rfl, rfl, ?_⟩ | refine ⟨_, rfl, ?_⟩ | refine ⟨_, _, rfl, ?_, ?_⟩)) (by rw [← hst]; repeat (first | exact True.intro | refine And.intro ?_ ?_ | exact DLead.same | exact DLead.eqI (by omega) | exact DLead.nil | exact rfl | refine ⟨_, _, rfl, rfl, ?_⟩ | refine ⟨_, rfl, ?_⟩ | refine ⟨_, _, rfl, ?_, ?_⟩)) rfl rfl rfl⟩
    · refine AC.exit ?_
      refine th_e ?_
      refine th_e ?_
      refine ib_y ?_
      refine th_n ?_
      refine AC.seq ?_
      have hkk : k = cs.length := by omega
      have hfa := fill_all (condsL cs) [dI 0, dI 0]
      rw [hrl] at hfa
      rw [hkk, hfa]
      refine AC.weakR (WeakR.raw (id := 100) (els' := condsL cs) 3 rfl rfl (by omega) (List.take_of_length_le (by omega)) (condsL_flat _)) ?_
      rintro _ ⟨v, S, rfl⟩
      refine AC.region ?_
      refine AL.p (by first | exact mv1 rfl | exact mv2 rfl | exact mv3 rfl | exact mv4 rfl | exact mv5 rfl | exact mv6 rfl | exact mv7 rfl | exact mv8 rfl | exact mv9 rfl) rfl ?_
      refine AL.p (by first | exact as1 rfl | exact as2 rfl | exact as3 rfl | exact as4 rfl | exact as5 rfl | exact as6 rfl | exact as7 rfl | exact as8 rfl | exact as9 rfl) rfl ?_
      refine AL.nil ?_
      refine th_n ?_
      refine AC.ret ?_
      refine bq_r ?_
      exact retX [(0, 108)] rfl ⟨v, S, rfl, rfl⟩ (by repeat (first | exact True.intro | refine And.intro ?_ ?_ | exact DLead.same | exact DLead.eqI (by omega) | exact DLead.nil | exact rfl | refine ⟨_, _, rfl, rfl, ?_⟩ | refine ⟨_, rfl, ?_⟩ | refine ⟨_, _, rfl, ?_, ?_⟩)) (by repeat (first | exact True.intro | refine And.intro ?_ ?_ | exact DLead.same | exact DLead.eqI (by omega) | exact DLead.nil | exact rfl | refine ⟨_, _, rfl, rfl, ?_⟩ | refine ⟨_, rfl, ?_⟩ | refine ⟨_, _, rfl, ?_, ?_⟩)) rfl rfl
set_option maxHeartbeats 1000000 in
theorem toEv_T (e : Ev) (h1 : e.pre.length ≤ 1048576) : ASpec Tryz.prog 24 [evA e] [] (TwoT (dI e.t) (vI e.pre)) := by
  refine ASpec.of Tryz.func24 rfl rfl fun C hC => ?_
  refine AC.seq ?_
  refine AC.region ?_
  refine AL.q (by exact h_boxF rfl rfl) rfl ?_
  refine AL.q (by exact h_alloc rfl) rfl ?_
  refine AL.nil ?_
  refine th_n ?_
  refine AC.seq ?_
  refine AC.region ?_
  refine AL.q (by exact h_alloc rfl) rfl ?_
  refine AL.nil ?_
  refine th_n ?_
  refine AC.seq ?_
  refine AC.region ?_
  refine AL.p (by first | exact g_fa_ref rfl rfl rfl rfl rfl rfl | exact g_fa_ptr rfl rfl rfl rfl rfl) rfl ?_
  refine AL.p (by first | exact g_load_ref rfl rfl rfl | exact g_load_ptr rfl rfl rfl rfl rfl | exact g_load_refN rfl rfl rfl rfl | exact g_load_ptrN rfl rfl rfl rfl rfl | exact g_load_arr1 rfl rfl rfl rfl (by assumption) | exact g_load_arr rfl rfl rfl rfl (by first | rfl | omega) (by first | assumption | rfl) (by first | assumption | rfl)) rfl ?_
  refine AL.p (by first | exact g_fa_ref rfl rfl rfl rfl rfl rfl | exact g_fa_ptr rfl rfl rfl rfl rfl) rfl ?_
  refine AL.q (by first | exact h_store rfl rfl rfl rfl rfl rfl | exact h_store_arr1 rfl rfl rfl rfl (by first | exact .same | exact .nil) (by assumption) | exact h_store_arr rfl rfl rfl rfl (by first | exact .same | exact .nil) (by first | rfl | omega) (by first | assumption | rfl) (by omega)) rfl ?_
  refine AL.nil ?_
  refine th_n ?_
  refine AC.seq ?_
  refine AC.region ?_
  refine AL.p (by first | exact g_fa_ref rfl rfl rfl rfl rfl rfl | exact g_fa_ptr rfl rfl rfl rfl rfl) rfl ?_
  refine AL.p (by first | exact g_load_ref rfl rfl rfl | exact g_load_ptr rfl rfl rfl rfl rfl | exact g_load_refN rfl rfl rfl rfl | exact g_load_ptrN rfl rfl rfl rfl rfl | exact g_load_arr1 rfl rfl rfl rfl (by assumption) | exact g_load_arr rfl rfl rfl rfl (by first | rfl | omega) (by first | assumption | rfl) (by first | assumption | rfl)) rfl ?_
  refine AL.r (by exact h_funR (cs := []) en_toIntS rfl rfl (by repeat (first | exact rfl | exact DLead.same | exact DLead.nil | refine ⟨_, _, rfl, ?_, ?_⟩ | refine ⟨_, rfl, ?_⟩)) (by repeat (first | exact True.intro | refine And.intro ?_ ?_ | exact DLead.same | exact DLead.eqI (by omega) | exact DLead.nil | exact rfl | refine ⟨_, _, rfl, rfl, ?_⟩ | refine ⟨_, rfl, ?_⟩ | refine ⟨_, _, rfl, ?_, ?_⟩)) (toIntS_T _ h1) rfl rfl rfl) rfl ?_
  rintro _ ⟨_, _, ⟨v1, S1, rfl, rfl⟩, rfl⟩
  refine AL.p (by first | exact g_fa_ref rfl rfl rfl rfl rfl rfl | exact g_fa_ptr rfl rfl rfl rfl rfl) rfl ?_
  refine AL.q (by first | exact h_store rfl rfl rfl rfl rfl rfl | exact h_store_arr1 rfl rfl rfl rfl (by first | exact .same | exact .nil) (by assumption) | exact h_store_arr rfl rfl rfl rfl (by first | exact .same | exact .nil) (by first | rfl | omega) (by first | assumption | rfl) (by omega)) rfl ?_
  refine AL.nil ?_
  refine th_n ?_
  refine AC.seq ?_
  refine AC.weakR (WeakR.okI (k := .i64) (x := e.t) 5 rfl) ?_
  rintro _ ⟨hok, rfl⟩
  refine AC.weak (Weak.cons 32 (fun w => TL w S1 [dI e.t, vI e.pre] [.int .i64 e.t, v1]) rfl (fun w h => TL.consFlat hok (TL.one h)) (fun w w' hk h => h.turn hk)) ?_
  refine AC.region ?_
  refine AL.p (by first | exact g_load_ref rfl rfl rfl | exact g_load_ptr rfl rfl rfl rfl rfl | exact g_load_refN rfl rfl rfl rfl | exact g_load_ptrN rfl rfl rfl rfl rfl | exact g_load_arr1 rfl rfl rfl rfl (by assumption) | exact g_load_arr rfl rfl rfl rfl (by first | rfl | omega) (by first | assumption | rfl) (by first | assumption | rfl)) rfl ?_
  refine AL.q (by first | exact h_store rfl rfl rfl rfl rfl rfl | exact h_store_arr1 rfl rfl rfl rfl (by first | exact .same | exact .nil) (by assumption) | exact h_store_arr rfl rfl rfl rfl (by first | exact .same | exact .nil) (by first | rfl | omega) (by first | assumption | rfl) (by omega)) rfl ?_
  refine AL.nil ?_
  refine th_n ?_
  refine AC.ret ?_
  refine bq_r ?_
  exact retX [(0, 32)] rfl ⟨_, v1, S1, rfl, rfl⟩ (by repeat (first | exact True.intro | refine And.intro ?_ ?_ | exact DLead.same | exact DLead.eqI (by omega) | exact DLead.nil | exact rfl | refine ⟨_, _, rfl, rfl, ?_⟩ | refine ⟨_, rfl, ?_⟩ | refine ⟨_, _, rfl, ?_, ?_⟩)) (by repeat (first | exact True.intro | refine And.intro ?_ ?_ | exact DLead.same | exact DLead.eqI (by omega) | exact DLead.nil | exact rfl | refine ⟨_, _, rfl, rfl, ?_⟩ | refine ⟨_, rfl, ?_⟩ | refine ⟨_, _, rfl, ?_, ?_⟩)) rfl rfl
set_option maxHeartbeats 2000000 in
theorem toEvS_T (es : List Ev) (hl : es.length ≤ 1048576) (hb : ∀ t, t ∈ es → t.pre.length ≤ 1048576) : ASpec Tryz.prog 37 [.d (vLEs es)] [] (OneT (vEs es)) := by
  have hrl : (evsL es).length = es.length := List.length_map _
  refine ASpec.of Tryz.func37 rfl rfl fun C hC => ?_
  refine AC.seq ?_
  refine AC.region ?_
  refine AL.p (by first | exact as1 rfl | exact as2 rfl | exact as3 rfl | exact as4 rfl | exact as5 rfl | exact as6 rfl | exact as7 rfl | exact as8 rfl | exact as9 rfl) rfl ?_
  refine AL.nil ?_
  refine th_n ?_
  refine AC.seq ?_
  refine AC.region ?_
  refine AL.p (by first | exact mv1 rfl | exact mv2 rfl | exact mv3 rfl | exact mv4 rfl | exact mv5 rfl | exact mv6 rfl | exact mv7 rfl | exact mv8 rfl | exact mv9 rfl) rfl ?_
  refine AL.p (by first | exact g_len_view rfl rfl (by first | exact List.length_map _ | rfl) | exact g_len_str rfl rfl rfl | exact g_len_nil rfl rfl | exact g_len_own (sz := 1) (els := []) (e' := 0) rfl rfl (by simp only [maxLen]; omega) | exact g_len_tight rfl rfl (by first | exact List.length_map _ | rfl)) rfl ?_
  refine AL.q (by exact h_make (k := es.length) rfl rfl rfl rfl rfl rfl rfl rfl (by show 32 * es.length ≤ _; omega) (by omega)) rfl ?_
  refine AL.p (by first | exact as1 rfl | exact as2 rfl | exact as3 rfl | exact as4 rfl | exact as5 rfl | exact as6 rfl | exact as7 rfl | exact as8 rfl | exact as9 rfl) rfl ?_
  refine AL.nil ?_
  refine th_n ?_
  refine AC.seq ?_
  refine AC.seq ?_
  refine AC.region ?_
  refine AL.p (by first | exact as1 rfl | exact as2 rfl | exact as3 rfl | exact as4 rfl | exact as5 rfl | exact as6 rfl | exact as7 rfl | exact as8 rfl | exact as9 rfl) rfl ?_
  refine AL.nil ?_
  refine th_n ?_
  refine AC.block ?_
  refine AC.loop (ι := Nat × List Value × (Nat → Prop)) (fun x => ⟨23, 108, [(0, .d (vLEs es)), (3, .own 100 es.length), (4, aI x.1)], [(100, some (.arr 58 2 (fillV 2 es.length x.1 [dI 0, DV.val (.slice none 0 0)] x.2.1))), (101, some (.pred x.2.2 fun w => TL w x.2.2 ((evsL es).take x.1).flatten x.2.1))]⟩) (fun x => x.1 ≤ es.length ∧ x.2.1.length = x.1 * 2) (fun x => es.length - x.1) ((0, [], fun _ => False)) ?_ (⟨Nat.zero_le _, rfl⟩) ?_
  · exact Weak.trans Weak.emptyT (Weak.ren _ [(100, 0), (101, 8)] hC rfl (by repeat (first | exact True.intro | refine And.intro ?_ ?_ | exact DLead.same | exact DLead.eqI (by omega) | exact DLead.nil | exact rfl | refine ⟨_, _, rfl, rfl, ?_⟩ | refine ⟨_, rfl, ?_⟩ | refine ⟨_, _, rfl, ?_, ?_⟩)) (by dsimp only; rw [fillV_zero]; repeat (first | exact True.intro | refine And.intro ?_ ?_ | exact DLead.same | exact DLead.eqI (by omega) | exact DLead.nil | exact rfl | refine ⟨_, _, rfl, rfl, ?_⟩ | refine ⟨_, rfl, ?_⟩ | refine ⟨_, _, rfl, ?_, ?_⟩)) rfl rfl rfl)
  · rintro ⟨k, V, S⟩ ⟨hk, hV⟩
    refine AC.seq ?_
    refine AC.seq ?_
    refine AC.region ?_
    refine AL.p (by first | exact mv1 rfl | exact mv2 rfl | exact mv3 rfl | exact mv4 rfl | exact mv5 rfl | exact mv6 rfl | exact mv7 rfl | exact mv8 rfl | exact mv9 rfl) rfl ?_
    refine AL.p (by first | exact mv1 rfl | exact mv2 rfl | exact mv3 rfl | exact mv4 rfl | exact mv5 rfl | exact mv6 rfl | exact mv7 rfl | exact mv8 rfl | exact mv9 rfl) rfl ?_
    refine AL.p (by first | exact g_len_view rfl rfl (by first | exact List.length_map _ | rfl) | exact g_len_str rfl rfl rfl | exact g_len_nil rfl rfl | exact g_len_own (sz := 1) (els := []) (e' := 0) rfl rfl (by simp only [maxLen]; omega) | exact g_len_tight rfl rfl (by first | exact List.length_map _ | rfl)) rfl ?_
    refine AL.p (by first | exact g_cmp rfl rfl rfl | exact g_scmp rfl rfl rfl | exact g_eqB rfl rfl rfl | exact g_neB rfl rfl rfl) rfl ?_
    refine AL.nil ?_
    refine th_n ?_
    first | refine AC.condD rfl (fun h0 => ?_) (fun h0 => ?_) | refine AC.condND rfl (fun h0 => ?_) (fun h0 => ?_) | refine AC.condB rfl (fun h0 => ?_) (fun h0 => ?_) | refine AC.condNB rfl (fun h0 => ?_) (fun h0 => ?_)
    · refine AC.skip ?_
      refine th_n ?_
      refine AC.seq ?_
      refine AC.block ?_
      dsimp only at hk hV
      have hk1 : k < es.length := by omega
      have hget := evsL_get hk1
      have hb1 := hb _ (List.getElem_mem hk1)
      have hfl := fillV_len (sz := 2) (z := [dI 0, DV.val (.slice none 0 0)]) (V := V) hk
      refine AC.region ?_
      refine AL.p (by first | exact mv1 rfl | exact mv2 rfl | exact mv3 rfl | exact mv4 rfl | exact mv5 rfl | exact mv6 rfl | exact mv7 rfl | exact mv8 rfl | exact mv9 rfl) rfl ?_
      refine AL.p (by first | exact mv1 rfl | exact mv2 rfl | exact mv3 rfl | exact mv4 rfl | exact mv5 rfl | exact mv6 rfl | exact mv7 rfl | exact mv8 rfl | exact mv9 rfl) rfl ?_
      refine AL.p (by first | exact mv1 rfl | exact mv2 rfl | exact mv3 rfl | exact mv4 rfl | exact mv5 rfl | exact mv6 rfl | exact mv7 rfl | exact mv8 rfl | exact mv9 rfl) rfl ?_
      refine AL.p (by first | exact mv1 rfl | exact mv2 rfl | exact mv3 rfl | exact mv4 rfl | exact mv5 rfl | exact mv6 rfl | exact mv7 rfl | exact mv8 rfl | exact mv9 rfl) rfl ?_
      refine AL.p (by first | exact g_ia_view rfl rfl rfl rfl rfl (by first | rfl | assumption) (by first | assumption | rfl) | exact g_ia_own rfl rfl rfl rfl rfl (by first | rfl | assumption) (by omega) (by first | exact Nat.mul_one _ | rfl | omega)) rfl ?_
      refine AL.p (by first | exact g_load_ref rfl rfl rfl | exact g_load_ptr rfl rfl rfl rfl rfl | exact g_load_refN rfl rfl rfl rfl | exact g_load_ptrN rfl rfl rfl rfl rfl | exact g_load_arr1 rfl rfl rfl rfl (by assumption) | exact g_load_arr rfl rfl rfl rfl (by first | rfl | omega) (by first | assumption | rfl) (by first | assumption | rfl)) rfl ?_
      refine AL.r (by exact h_funR (cs := []) en_toEv rfl rfl (by repeat (first | exact rfl | exact DLead.same | exact DLead.nil | refine ⟨_, _, rfl, ?_, ?_⟩ | refine ⟨_, rfl, ?_⟩)) (by repeat (first | exact True.intro | refine And.intro ?_ ?_ | exact DLead.same | exact DLead.eqI (by omega) | exact DLead.nil | exact rfl | refine ⟨_, _, rfl, rfl, ?_⟩ | refine ⟨_, rfl, ?_⟩ | refine ⟨_, _, rfl, ?_, ?_⟩)) (toEv_T _ hb1) rfl rfl rfl) rfl ?_
      rintro _ ⟨_, _, ⟨v1, v2, S1, rfl, rfl⟩, rfl⟩
      have hst := fillV_set (z := [dI 0, DV.val (.slice none 0 0)]) (vs := [v1, v2]) hk1 hV rfl
      refine AL.p (by first | exact g_ia_view rfl rfl rfl rfl rfl (by first | rfl | assumption) (by first | assumption | rfl) | exact g_ia_own rfl rfl rfl rfl rfl (by first | rfl | assumption) (by omega) (by first | exact Nat.mul_one _ | rfl | omega)) rfl ?_
      refine AL.q (by exact h_store_row (i := k) (ds := [.val v1, .val v2]) rfl rfl rfl rfl rfl rfl rfl (by dsimp only; omega)) rfl ?_
      refine AL.nil ?_
      refine ib_n ?_
      refine th_n ?_
      refine AC.region ?_
      refine AL.p (by first | exact mv1 rfl | exact mv2 rfl | exact mv3 rfl | exact mv4 rfl | exact mv5 rfl | exact mv6 rfl | exact mv7 rfl | exact mv8 rfl | exact mv9 rfl) rfl ?_
      refine AL.p (by first | exact g_arith rfl rfl rfl (by first | exact wrap_i64 (by omega) | exact wrap_u8 (by omega) | exact wrap_u64 (by omega) | rfl) | exact g_sadd rfl rfl (by first | assumption | omega | (simp only [ByteArray.size_append, bstr_size, List.length_take, List.length_drop, List.length_cons, List.length_nil]; omega))) rfl ?_
      refine AL.p (by first | exact as1 rfl | exact as2 rfl | exact as3 rfl | exact as4 rfl | exact as5 rfl | exact as6 rfl | exact as7 rfl | exact as8 rfl | exact as9 rfl) rfl ?_
      refine AL.nil ?_
      refine th_n ?_
      refine ⟨(k + 1, V ++ [v1, v2], fun q => S q ∨ S1 q), ⟨hk1, by simp; omega⟩, by dsimp only; omega, Weak.trans (Weak.appT 101 108 rfl (fun w h => h) rfl (fun w h => h) rfl) (Weak.ren _ [(100, 100), (101, 101)] hC rfl (by repeat (first | exact True.intro | refine And.intro ?_ ?_ | exact DLead.same | exact DLead.eqI (by omega) | exact DLead.nil | exact rfl | refine ⟨_, _, rfl, rfl, ?_⟩ | refine ⟨_, rfl, ?_⟩ | refine ⟨_, _, rfl, ?_, ?_⟩)) ?_ rfl rfl rfl)⟩
      dsimp only
      rw [takeR_flat hget]
      rw [← hst]
      repeat (first | exact True.intro | refine And.intro ?_ ?_ | exact DLead.same | exact DLead.eqI (by omega) | exact DLead.nil | exact rfl | refine ⟨_, _, rfl, rfl, ?_⟩ | refine ⟨_, rfl, ?_⟩ | refine ⟨_, _, rfl, ?_, ?_⟩)
    · refine AC.exit ?_
      refine th_e ?_
      refine th_e ?_
      refine ib_y ?_
      refine th_n ?_
      refine AC.seq ?_
      dsimp only at hk hV
      obtain rfl : k = es.length := by omega
      refine AC.weakR (WeakR.closeN (els := evsL es) (V := V) 3 101 100 rfl hrl.symm rfl (fun w h => by rw [List.take_of_length_le (by omega)] at h; exact h) rfl (by rw [hrl]; exact fillV_all _ _ _ _) (evsL_row es) rfl) ?_
      rintro _ ⟨v, S', rfl⟩
      refine AC.region ?_
      refine AL.p (by first | exact mv1 rfl | exact mv2 rfl | exact mv3 rfl | exact mv4 rfl | exact mv5 rfl | exact mv6 rfl | exact mv7 rfl | exact mv8 rfl | exact mv9 rfl) rfl ?_
      refine AL.p (by first | exact as1 rfl | exact as2 rfl | exact as3 rfl | exact as4 rfl | exact as5 rfl | exact as6 rfl | exact as7 rfl | exact as8 rfl | exact as9 rfl) rfl ?_
      refine AL.nil ?_
      refine th_n ?_
      refine AC.ret ?_
      refine bq_r ?_
      exact retX [(0, 101)] rfl ⟨v, S', rfl, rfl⟩ (by repeat (first | exact True.intro | refine And.intro ?_ ?_ | exact DLead.same | exact DLead.eqI (by omega) | exact DLead.nil | exact rfl | refine ⟨_, _, rfl, rfl, ?_⟩ | refine ⟨_, rfl, ?_⟩ | refine ⟨_, _, rfl, ?_, ?_⟩)) (by repeat (first | exact True.intro | refine And.intro ?_ ?_ | exact DLead.same | exact DLead.eqI (by omega) | exact DLead.nil | exact rfl | refine ⟨_, _, rfl, rfl, ?_⟩ | refine ⟨_, rfl, ?_⟩ | refine ⟨_, _, rfl, ?_, ?_⟩)) rfl rfl
set_option maxHeartbeats 1000000 in
theorem toUnf_T (u : Unf) (hc : u.cs.length ≤ 1048576) (hl : u.es.length ≤ 1048576) (hb : ∀ t, t ∈ u.es → t.pre.length ≤ 1048576) : ASpec Tryz.prog 10 [lunfA u] [] (TwoT (vCs u.cs) (vEs u.es)) := by
  refine ASpec.of Tryz.func10 rfl rfl fun C hC => ?_
  refine AC.seq ?_
  refine AC.region ?_
  refine AL.q (by exact h_boxF rfl rfl) rfl ?_
  refine AL.q (by exact h_alloc rfl) rfl ?_
  refine AL.nil ?_
  refine th_n ?_
  refine AC.seq ?_
  refine AC.region ?_
  refine AL.q (by exact h_alloc rfl) rfl ?_
  refine AL.nil ?_
  refine th_n ?_
  refine AC.seq ?_
  refine AC.region ?_
  refine AL.p (by first | exact g_fa_ref rfl rfl rfl rfl rfl rfl | exact g_fa_ptr rfl rfl rfl rfl rfl) rfl ?_
  refine AL.p (by first | exact g_load_ref rfl rfl rfl | exact g_load_ptr rfl rfl rfl rfl rfl | exact g_load_refN rfl rfl rfl rfl | exact g_load_ptrN rfl rfl rfl rfl rfl | exact g_load_arr1 rfl rfl rfl rfl (by assumption) | exact g_load_arr rfl rfl rfl rfl (by first | rfl | omega) (by first | assumption | rfl) (by first | assumption | rfl)) rfl ?_
  refine AL.r (by exact h_funR (cs := []) en_toCondS rfl rfl (by repeat (first | exact rfl | exact DLead.same | exact DLead.nil | refine ⟨_, _, rfl, ?_, ?_⟩ | refine ⟨_, rfl, ?_⟩)) (by repeat (first | exact True.intro | refine And.intro ?_ ?_ | exact DLead.same | exact DLead.eqI (by omega) | exact DLead.nil | exact rfl | refine ⟨_, _, rfl, rfl, ?_⟩ | refine ⟨_, rfl, ?_⟩ | refine ⟨_, _, rfl, ?_, ?_⟩)) (toCondS_T _ hc) rfl rfl rfl) rfl ?_
  rintro _ ⟨_, _, ⟨v1, S1, rfl, rfl⟩, rfl⟩
  refine AL.p (by first | exact g_fa_ref rfl rfl rfl rfl rfl rfl | exact g_fa_ptr rfl rfl rfl rfl rfl) rfl ?_
  refine AL.q (by first | exact h_store rfl rfl rfl rfl rfl rfl | exact h_store_arr1 rfl rfl rfl rfl (by first | exact .same | exact .nil) (by assumption) | exact h_store_arr rfl rfl rfl rfl (by first | exact .same | exact .nil) (by first | rfl | omega) (by first | assumption | rfl) (by omega)) rfl ?_
  refine AL.nil ?_
  refine th_n ?_
  refine AC.seq ?_
  refine AC.region ?_
  refine AL.p (by first | exact g_fa_ref rfl rfl rfl rfl rfl rfl | exact g_fa_ptr rfl rfl rfl rfl rfl) rfl ?_
  refine AL.p (by first | exact g_load_ref rfl rfl rfl | exact g_load_ptr rfl rfl rfl rfl rfl | exact g_load_refN rfl rfl rfl rfl | exact g_load_ptrN rfl rfl rfl rfl rfl | exact g_load_arr1 rfl rfl rfl rfl (by assumption) | exact g_load_arr rfl rfl rfl rfl (by first | rfl | omega) (by first | assumption | rfl) (by first | assumption | rfl)) rfl ?_
  refine AL.r (by exact h_funR (cs := []) en_toEvS rfl rfl (by repeat (first | exact rfl | exact DLead.same | exact DLead.nil | refine ⟨_, _, rfl, ?_, ?_⟩ | refine ⟨_, rfl, ?_⟩)) (by repeat (first | exact True.intro | refine And.intro ?_ ?_ | exact DLead.same | exact DLead.eqI (by omega) | exact DLead.nil | exact rfl | refine ⟨_, _, rfl, rfl, ?_⟩ | refine ⟨_, rfl, ?_⟩ | refine ⟨_, _, rfl, ?_, ?_⟩)) (toEvS_T _ hl hb) rfl rfl rfl) rfl ?_
  rintro _ ⟨_, _, ⟨v2, S2, rfl, rfl⟩, rfl⟩
  refine AL.p (by first | exact g_fa_ref rfl rfl rfl rfl rfl rfl | exact g_fa_ptr rfl rfl rfl rfl rfl) rfl ?_
  refine AL.q (by first | exact h_store rfl rfl rfl rfl rfl rfl | exact h_store_arr1 rfl rfl rfl rfl (by first | exact .same | exact .nil) (by assumption) | exact h_store_arr rfl rfl rfl rfl (by first | exact .same | exact .nil) (by first | rfl | omega) (by first | assumption | rfl) (by omega)) rfl ?_
  refine AL.nil ?_
  refine th_n ?_
  refine AC.seq ?_
  refine AC.weak (Weak.appT 24 40 rfl (fun w h => TL.one h) rfl (fun w h => TL.one h) rfl) ?_
  refine AC.region ?_
  refine AL.p (by first | exact g_load_ref rfl rfl rfl | exact g_load_ptr rfl rfl rfl rfl rfl | exact g_load_refN rfl rfl rfl rfl | exact g_load_ptrN rfl rfl rfl rfl rfl | exact g_load_arr1 rfl rfl rfl rfl (by assumption) | exact g_load_arr rfl rfl rfl rfl (by first | rfl | omega) (by first | assumption | rfl) (by first | assumption | rfl)) rfl ?_
  refine AL.q (by first | exact h_store rfl rfl rfl rfl rfl rfl | exact h_store_arr1 rfl rfl rfl rfl (by first | exact .same | exact .nil) (by assumption) | exact h_store_arr rfl rfl rfl rfl (by first | exact .same | exact .nil) (by first | rfl | omega) (by first | assumption | rfl) (by omega)) rfl ?_
  refine AL.nil ?_
  refine th_n ?_
  refine AC.ret ?_
  refine bq_r ?_
  exact retX [(0, 24)] rfl ⟨v1, v2, _, rfl, rfl⟩ (by repeat (first | exact True.intro | refine And.intro ?_ ?_ | exact DLead.same | exact DLead.eqI (by omega) | exact DLead.nil | exact rfl | refine ⟨_, _, rfl, rfl, ?_⟩ | refine ⟨_, rfl, ?_⟩ | refine ⟨_, _, rfl, ?_, ?_⟩)) (by repeat (first | exact True.intro | refine And.intro ?_ ?_ | exact DLead.same | exact DLead.eqI (by omega) | exact DLead.nil | exact rfl | refine ⟨_, _, rfl, rfl, ?_⟩ | refine ⟨_, rfl, ?_⟩ | refine ⟨_, _, rfl, ?_, ?_⟩)) rfl rfl

set_option linter.all false
set_option maxRecDepth 20000
end Go.Proofs.YtolfgbcnielnoaaGreat
namespace Go.Proofs.YtolfgbcnielnoaaGreat
open Go.RowKit

theorem TL.flatNew {w : World} {S : Nat → Prop} {L : List DV} {V : List Value} (h : TL w S L V) (hL : ∀ d, d ∈ L → d.flat) {Vn : List Value} (hV : ∀ v, v ∈ Vn → okV v) : TL w S (Vn.map .val) Vn := by
  obtain ⟨Ts, h1, h2, h3, h4⟩ := h
  have hS : ∀ k, ¬ S k := by
    intro k hk
    obtain ⟨i, hi, hk'⟩ := (h4 k).1 hk
    have hd := List.getElem?_eq_getElem hi
    have hf := hL _ (List.getElem_mem hi)
    have hv := List.getElem?_eq_getElem (show i < V.length by omega)
    have hT := h2 i _ _ hd hv
    generalize L[i] = d at hf hT
    generalize V[i] = u at hT
    cases hT with
    | val h _ => exact h k hk'
    | _ => exact hf.elim
  refine ⟨fun _ _ => False, by simp, fun i d v hd hv => ?_, fun _ _ _ h => h.elim, fun k => ⟨fun h => absurd h (hS k), fun ⟨_, _, h⟩ => h.elim⟩⟩
  rw [List.getElem?_map, hv] at hd
  simp only [Option.map_some, Option.some.injEq] at hd
  subst hd
  exact .val (fun _ h => h) (hV v (List.mem_of_getElem? hv))
def seqI (k : Int) (n : Nat) : List Int := (List.range n).map fun i => k + (i : Nat)
theorem seqI_len (k : Int) (n : Nat) : (seqI k n).length = n := by simp [seqI]
def mkI (k : Int) (i : Nat) (l : List Int) : List Int := seqI k i ++ l.drop i
theorem mkI_zero (k : Int) (l : List Int) : mkI k 0 l = l := by simp [mkI, seqI]
theorem mkI_len {k : Int} {i : Nat} {l : List Int} (h : i ≤ l.length) : (mkI k i l).length = l.length := by simp [mkI, seqI]; omega
theorem mkI_all (k : Int) (l : List Int) : mkI k l.length l = seqI k l.length := by simp [mkI]
theorem mkI_set {k : Int} {i : Nat} {l : List Int} (h : i < l.length) : (ints (mkI k i l)).set i [dI (k + i)] = ints (mkI k (i + 1) l) := by
  unfold mkI ints seqI
  rw [List.map_append, List.set_append_right _ _ (by simp), List.range_succ]
  simp only [List.map_append, List.map_cons, List.map_nil, List.append_assoc, List.length_map, List.length_range, Nat.sub_self]
  congr 1
  rw [List.drop_eq_getElem_cons h]
  rfl
theorem rowsV_ints {l : List Int} {V : List Value} (h1 : V.length = l.length) (h : ∀ (c : Nat) x, (ints l).flatten[c]? = some (.val x) → V[c]? = some x) : rowsV 1 l.length V = ints l := by
  have hfl : ∀ l : List Int, (ints l).flatten = l.map dI := by
    intro l
    induction l with
    | nil => rfl
    | cons x l ih => simp only [ints, List.map_cons, List.flatten_cons] at ih ⊢; rw [ih]; rfl
  apply List.ext_getElem?
  intro i
  by_cases hi : i < l.length
  · rw [rowsV_get hi]
    have := h i (.int .i64 l[i]) (by rw [hfl]; simp [hi, dI])
    simp [ints, hi, this, dI]
  · rw [List.getElem?_eq_none (by rw [rowsV_len]; omega), List.getElem?_eq_none (by rw [ints_len]; omega)]
theorem ints_flatten (l : List Int) : (ints l).flatten = (l.map fun x => Value.int .i64 x).map .val := by
  induction l with
  | nil => rfl
  | cons x l ih => simp only [ints, List.map_cons, List.flatten_cons] at ih ⊢; rw [ih]; rfl
theorem rowsV_seq (l : List Int) : rowsV 1 l.length (l.map fun x => Value.int .i64 x) = ints l := by
  refine rowsV_ints (by simp) fun c x hc => ?_
  rw [ints_flatten, List.getElem?_map, Option.map_eq_some_iff] at hc
  obtain ⟨y, hy, he⟩ := hc
  cases he; exact hy
theorem ints_flat2 (l : List Int) : ∀ d, d ∈ (ints l).flatten → d.flat := by
  intro d hd
  obtain ⟨cs, h1, h2⟩ := List.mem_flatten.1 hd
  exact ints_flat l cs h1 d h2
theorem ints_row (l : List Int) : ∀ cs, cs ∈ ints l → cs.length = 1 := by
  intro cs hc
  obtain ⟨x, _, rfl⟩ := List.mem_map.1 hc
  rfl
theorem seqI_ok {k : Int} {n : Nat} (hk : 0 ≤ k ∧ k ≤ 1073741824) (hn : n ≤ 1048576) : ∀ v, v ∈ (seqI k n).map (fun x => Value.int .i64 x) → okV v := by
  intro v hv
  obtain ⟨x, hx, rfl⟩ := List.mem_map.1 hv
  obtain ⟨i, hi, rfl⟩ := List.mem_map.1 hx
  rw [List.mem_range] at hi
  exact wrap_i64 (by omega)
set_option maxHeartbeats 2000000 in
theorem markIntS_T (l : List Int) (k : Int) (hl : l.length ≤ 1048576) (hk : 0 ≤ k ∧ k ≤ 1073741824) (v : Value) (S : Nat → Prop) : ASpec Tryz.prog 17 [.d (.val v), aI k] [(0, .pred S fun w => TRep w S (vI l) v)] (Fun1 (aI (k + l.length)) [(0, .pred S fun w => TRep w S (vI (seqI k l.length)) v)]) := by
  refine ASpec.of Tryz.func17 rfl rfl fun C hC => ?_
  refine AC.seq ?_
  refine AC.weakR (WeakR.openT 0 0 rfl rfl (fun w h => h) rfl rfl) ?_
  rintro _ ⟨p, V, S', ⟨hv, hp, hV, hrow, hS, hx⟩, rfl⟩
  rw [ints_len] at *
  rw [rowsV_ints (by omega) hx]
  refine AC.region ?_
  refine AL.p (by first | exact as1 rfl | exact as2 rfl | exact as3 rfl | exact as4 rfl | exact as5 rfl | exact as6 rfl | exact as7 rfl | exact as8 rfl | exact as9 rfl) rfl ?_
  refine AL.nil ?_
  refine th_n ?_
  refine AC.seq ?_
  refine AC.seq ?_
  refine AC.region ?_
  refine AL.p (by first | exact as1 rfl | exact as2 rfl | exact as3 rfl | exact as4 rfl | exact as5 rfl | exact as6 rfl | exact as7 rfl | exact as8 rfl | exact as9 rfl) rfl ?_
  refine AL.nil ?_
  refine th_n ?_
  refine AC.block ?_
  refine AC.loop (ι := Nat) (fun i => ⟨19, 108, [(0, .own 100 l.length), (1, aI (k + i)), (5, aI i)], [(100, some (.arr 3 1 (ints (mkI k i l)))), (101, some (.lock 100 p)), (0, some (.pred S' fun w => TL w S' (ints l).flatten V))]⟩) (fun i => i ≤ l.length) (fun i => l.length - i) (0) ?_ (Nat.zero_le _) ?_
  · exact Weak.ren _ [(100, 1), (101, 2)] hC rfl (by repeat (first | exact True.intro | refine And.intro ?_ ?_ | exact DLead.same | exact DLead.eqI (by omega) | exact DLead.nil | exact rfl | refine ⟨_, _, rfl, rfl, ?_⟩ | refine ⟨_, rfl, ?_⟩ | refine ⟨_, _, rfl, ?_, ?_⟩)) (by rw [mkI_zero]; repeat (first | exact True.intro | refine And.intro ?_ ?_ | exact DLead.same | exact DLead.eqI (by omega) | exact DLead.nil | exact rfl | refine ⟨_, _, rfl, rfl, ?_⟩ | refine ⟨_, rfl, ?_⟩ | refine ⟨_, _, rfl, ?_, ?_⟩)) rfl rfl rfl
  · intro i hi
    refine AC.seq ?_
    refine AC.seq ?_
    refine AC.region ?_
    refine AL.p (by first | exact mv1 rfl | exact mv2 rfl | exact mv3 rfl | exact mv4 rfl | exact mv5 rfl | exact mv6 rfl | exact mv7 rfl | exact mv8 rfl | exact mv9 rfl) rfl ?_
    refine AL.p (by first | exact mv1 rfl | exact mv2 rfl | exact mv3 rfl | exact mv4 rfl | exact mv5 rfl | exact mv6 rfl | exact mv7 rfl | exact mv8 rfl | exact mv9 rfl) rfl ?_
    refine AL.p (by first | exact g_len_view rfl rfl (by first | exact List.length_map _ | rfl) | exact g_len_str rfl rfl rfl | exact g_len_nil rfl rfl | exact g_len_own (sz := 1) (els := []) (e' := 0) rfl rfl (by simp only [maxLen]; omega) | exact g_len_tight rfl rfl (by first | exact List.length_map _ | rfl)) rfl ?_
    refine AL.p (by first | exact g_cmp rfl rfl rfl | exact g_scmp rfl rfl rfl | exact g_eqB rfl rfl rfl | exact g_neB rfl rfl rfl) rfl ?_
    refine AL.nil ?_
    refine th_n ?_
    first | refine AC.condD rfl (fun h0 => ?_) (fun h0 => ?_) | refine AC.condND rfl (fun h0 => ?_) (fun h0 => ?_) | refine AC.condB rfl (fun h0 => ?_) (fun h0 => ?_) | refine AC.condNB rfl (fun h0 => ?_) (fun h0 => ?_)
    · refine AC.skip ?_
      refine th_n ?_
      refine AC.seq ?_
      refine AC.block ?_
      refine AC.seq ?_
      have hi1 : i < l.length := by omega
      have hlen := ints_len (mkI k i l)
      rw [mkI_len hi] at hlen
      have hgf : (ints (mkI k i l))[i]? = some [dI ((mkI k i l)[i]'(by rw [mkI_len hi]; exact hi1))] := ints_at _
      have hst := mkI_set (k := k) hi1
      refine AC.region ?_
      refine AL.p (by first | exact mv1 rfl | exact mv2 rfl | exact mv3 rfl | exact mv4 rfl | exact mv5 rfl | exact mv6 rfl | exact mv7 rfl | exact mv8 rfl | exact mv9 rfl) rfl ?_
      refine AL.p (by first | exact mv1 rfl | exact mv2 rfl | exact mv3 rfl | exact mv4 rfl | exact mv5 rfl | exact mv6 rfl | exact mv7 rfl | exact mv8 rfl | exact mv9 rfl) rfl ?_
      refine AL.p (by first | exact mv1 rfl | exact mv2 rfl | exact mv3 rfl | exact mv4 rfl | exact mv5 rfl | exact mv6 rfl | exact mv7 rfl | exact mv8 rfl | exact mv9 rfl) rfl ?_
      refine AL.p (by first | exact g_ia_view rfl rfl rfl rfl rfl (by first | rfl | assumption) (by first | assumption | rfl) | exact g_ia_own rfl rfl rfl rfl rfl (by first | rfl | assumption) (by omega) (by first | exact Nat.mul_one _ | rfl | omega)) rfl ?_
      refine AL.q (by first | exact h_store rfl rfl rfl rfl rfl rfl | exact h_store_arr1 rfl rfl rfl rfl (by first | exact .same | exact .nil) (by assumption) | exact h_store_arr rfl rfl rfl rfl (by first | exact .same | exact .nil) (by first | rfl | omega) (by first | assumption | rfl) (by omega)) rfl ?_
      refine AL.nil ?_
      refine th_n ?_
      refine AC.region ?_
      refine AL.p (by first | exact mv1 rfl | exact mv2 rfl | exact mv3 rfl | exact mv4 rfl | exact mv5 rfl | exact mv6 rfl | exact mv7 rfl | exact mv8 rfl | exact mv9 rfl) rfl ?_
      refine AL.p (by first | exact g_arith rfl rfl rfl (by first | exact wrap_i64 (by omega) | exact wrap_u8 (by omega) | exact wrap_u64 (by omega) | rfl) | exact g_sadd rfl rfl (by first | assumption | omega | (simp only [ByteArray.size_append, bstr_size, List.length_take, List.length_drop, List.length_cons, List.length_nil]; omega))) rfl ?_
      refine AL.p (by first | exact as1 rfl | exact as2 rfl | exact as3 rfl | exact as4 rfl | exact as5 rfl | exact as6 rfl | exact as7 rfl | exact as8 rfl | exact as9 rfl) rfl ?_
      refine AL.nil ?_
      refine ib_n ?_
      refine th_n ?_
      refine AC.region ?_
      refine AL.p (by first | exact mv1 rfl | exact mv2 rfl | exact mv3 rfl | exact mv4 rfl | exact mv5 rfl | exact mv6 rfl | exact mv7 rfl | exact mv8 rfl | exact mv9 rfl) rfl ?_
      refine AL.p (by first | exact g_arith rfl rfl rfl (by first | exact wrap_i64 (by omega) | exact wrap_u8 (by omega) | exact wrap_u64 (by omega) | rfl) | exact g_sadd rfl rfl (by first | assumption | omega | (simp only [ByteArray.size_append, bstr_size, List.length_take, List.length_drop, List.length_cons, List.length_nil]; omega))) rfl ?_
      refine AL.p (by first | exact as1 rfl | exact as2 rfl | exact as3 rfl | exact as4 rfl | exact as5 rfl | exact as6 rfl | exact as7 rfl | exact as8 rfl | exact as9 rfl) rfl ?_
      refine AL.nil ?_
      refine th_n ?_
      exact ⟨i + 1, by omega, by omega, Weak.ren _ [(100, 100), (101, 101)] hC rfl (by repeat (first | exact True.intro | refine And.intro ?_ ?_ | exact DLead.same | exact DLead.eqI (by omega) | exact DLead.nil | exact rfl | refine ⟨_, _, rfl, rfl, ?_⟩ | refine ⟨_, rfl, ?_⟩ | refine ⟨_, _, rfl, ?_, ?_⟩)) (by rw [← hst]; repeat (first | exact True.intro | refine And.intro ?_ ?_ | exact DLead.same | exact DLead.eqI (by omega) | exact DLead.nil | exact rfl | refine ⟨_, _, rfl, rfl, ?_⟩ | refine ⟨_, rfl, ?_⟩ | refine ⟨_, _, rfl, ?_, ?_⟩)) rfl rfl rfl⟩
    · refine AC.exit ?_
      refine th_e ?_
      refine th_e ?_
      refine ib_y ?_
      refine th_n ?_
      refine AC.seq ?_
      obtain rfl : i = l.length := by omega
      rw [mkI_all]
      refine AC.weak (Weak.closeT (els := ints (seqI k l.length)) (V := (seqI k l.length).map fun x => Value.int .i64 x) (n := 0) (v := v) (S := S) (S' := S') (p := p) 0 0 100 101 (by rw [ints_len, seqI_len] <;> rfl) rfl (fun w h => by rw [ints_flatten]; exact h.flatNew (ints_flat2 l) (seqI_ok hk hl)) (by rw [ints_len, rowsV_seq]; rfl) rfl (by rw [ints_len, seqI_len]; exact hv) (by rw [ints_len, seqI_len]; exact hp) (ints_row _) hS rfl rfl) ?_
      refine AC.region ?_
      refine AL.p (by first | exact mv1 rfl | exact mv2 rfl | exact mv3 rfl | exact mv4 rfl | exact mv5 rfl | exact mv6 rfl | exact mv7 rfl | exact mv8 rfl | exact mv9 rfl) rfl ?_
      refine AL.p (by first | exact as1 rfl | exact as2 rfl | exact as3 rfl | exact as4 rfl | exact as5 rfl | exact as6 rfl | exact as7 rfl | exact as8 rfl | exact as9 rfl) rfl ?_
      refine AL.nil ?_
      refine th_n ?_
      refine AC.ret ?_
      refine bq_r ?_
      exact retX [] rfl ⟨rfl, rfl⟩ (by repeat (first | exact True.intro | refine And.intro ?_ ?_ | exact DLead.same | exact DLead.eqI (by omega) | exact DLead.nil | exact rfl | refine ⟨_, _, rfl, rfl, ?_⟩ | refine ⟨_, rfl, ?_⟩ | refine ⟨_, _, rfl, ?_, ?_⟩)) (by repeat (first | exact True.intro | refine And.intro ?_ ?_ | exact DLead.same | exact DLead.eqI (by omega) | exact DLead.nil | exact rfl | refine ⟨_, _, rfl, rfl, ?_⟩ | refine ⟨_, rfl, ?_⟩ | refine ⟨_, _, rfl, ?_, ?_⟩)) rfl rfl
theorem en_markIntS : Enters Tryz.prog 17 := enters_of Tryz.func17 rfl rfl

set_option linter.all false
set_option maxRecDepth 20000
end Go.Proofs.YtolfgbcnielnoaaGreat
namespace Go.Proofs.YtolfgbcnielnoaaGreat
open Go.RowKit

/-- Parts turned one after another, each by a number that runs on. -/
def mkL {α : Type} (wt : α → Nat) (mk : Int → α → α) : Int → List α → List α
  | _, [] => []
  | k, x :: l => mk k x :: mkL wt mk (k + (wt x : Nat)) l
def sumL {α : Type} (wt : α → Nat) : List α → Nat
  | [] => 0
  | x :: l => wt x + sumL wt l
theorem mkL_len {α : Type} (wt : α → Nat) (mk : Int → α → α) : ∀ (l : List α) (k : Int), (mkL wt mk k l).length = l.length
  | [], _ => rfl
  | x :: l, k => by simp [mkL, mkL_len wt mk l]
theorem mkL_app {α : Type} (wt : α → Nat) (mk : Int → α → α) : ∀ (l m : List α) (k : Int), mkL wt mk k (l ++ m) = mkL wt mk k l ++ mkL wt mk (k + (sumL wt l : Nat)) m
  | [], m, k => by simp [mkL, sumL]
  | x :: l, m, k => by
    simp only [List.cons_append, mkL, mkL_app wt mk l m, sumL, Int.natCast_add, Int.add_assoc]
theorem sumL_app {α : Type} (wt : α → Nat) : ∀ (l m : List α), sumL wt (l ++ m) = sumL wt l + sumL wt m
  | [], m => by simp [sumL]
  | x :: l, m => by simp only [List.cons_append, sumL, sumL_app wt l m]; omega
theorem sumL_take {α : Type} {wt : α → Nat} {l : List α} {i : Nat} (h : i < l.length) : sumL wt (l.take (i + 1)) = sumL wt (l.take i) + wt l[i] := by
  rw [List.take_add_one, List.getElem?_eq_getElem h, sumL_app]; simp [sumL]
theorem sumL_le {α : Type} (wt : α → Nat) (l : List α) (i : Nat) : sumL wt (l.take i) ≤ sumL wt l := by
  have := sumL_app wt (l.take i) (l.drop i)
  rw [List.take_append_drop] at this
  omega
def mkM {α : Type} (wt : α → Nat) (mk : Int → α → α) (k : Int) (i : Nat) (l : List α) : List α := mkL wt mk k (l.take i) ++ l.drop i
theorem mkM_zero {α : Type} (wt : α → Nat) (mk : Int → α → α) (k : Int) (l : List α) : mkM wt mk k 0 l = l := by simp [mkM, mkL]
theorem mkM_all {α : Type} (wt : α → Nat) (mk : Int → α → α) (k : Int) (l : List α) : mkM wt mk k l.length l = mkL wt mk k l := by simp [mkM]
theorem mkM_len {α : Type} {wt : α → Nat} {mk : Int → α → α} {k : Int} {i : Nat} {l : List α} (h : i ≤ l.length) : (mkM wt mk k i l).length = l.length := by simp [mkM, mkL_len]; omega
theorem mkM_get {α : Type} {wt : α → Nat} {mk : Int → α → α} {k : Int} {i : Nat} {l : List α} (h : i < l.length) : (mkM wt mk k i l)[i]? = some l[i] := by
  unfold mkM
  have : (mkL wt mk k (l.take i)).length = i := by rw [mkL_len, List.length_take]; omega
  rw [List.getElem?_append_right (by omega), this, Nat.sub_self, List.getElem?_drop, Nat.add_zero, List.getElem?_eq_getElem h]
theorem mkM_set {α : Type} {wt : α → Nat} {mk : Int → α → α} {k : Int} {i : Nat} {l : List α} (h : i < l.length) : (mkM wt mk k i l).set i (mk (k + (sumL wt (l.take i) : Nat)) l[i]) = mkM wt mk k (i + 1) l := by
  unfold mkM
  have : (mkL wt mk k (l.take i)).length = i := by rw [mkL_len, List.length_take]; omega
  rw [List.set_append_right _ _ (by omega), this, Nat.sub_self, List.take_add_one, List.getElem?_eq_getElem h, mkL_app, List.append_assoc, List.drop_eq_getElem_cons h]
  rfl
theorem set_flat : ∀ {els : List (List DV)} {sz : Nat} (_ : ∀ cs, cs ∈ els → cs.length = sz) {i j : Nat} {cs : List DV} {d : DV}, els[i]? = some cs → j < sz → els.flatten.set (i * sz + j) d = (els.set i (cs.set j d)).flatten
  | [], sz, _, i, j, cs, d, hi, _ => by simp at hi
  | c :: els, sz, h, i, j, cs, d, hi, hj => by
    have hc := h c (by simp)
    cases i with
    | zero =>
      simp at hi; subst hi
      rw [List.flatten_cons, Nat.zero_mul, Nat.zero_add, List.set_append_left _ _ (by omega), List.set_cons_zero, List.flatten_cons]
    | succ i =>
      rw [List.getElem?_cons_succ] at hi
      rw [List.flatten_cons, List.set_append_right _ _ (by rw [hc, Nat.succ_mul]; omega), hc, show (i + 1) * sz + j - sz = i * sz + j by rw [Nat.succ_mul]; omega, set_flat (fun cs hc => h cs (List.mem_cons_of_mem _ hc)) hi hj, List.set_cons_succ, List.flatten_cons]
theorem rowsV2_get {n i : Nat} {V : List Value} {v1 v2 : Value} (hi : i < n) (h1 : V[i * 2]? = some v1) (h2 : V[i * 2 + 1]? = some v2) : (rowsV 2 n V)[i]? = some [.val v1, .val v2] := by
  rw [rowsV_get hi]
  simp [List.range_succ, h1, h2]
def wT (t : Tn) : Nat := t.pre.length + t.post.length
def mkT (k : Int) (t : Tn) : Tn := ⟨seqI k t.pre.length, seqI (k + t.pre.length) t.post.length⟩
set_option maxHeartbeats 2000000 in
theorem markTnS_T (ts : List Tn) (k : Int) (hl : ts.length ≤ 1048576) (hb : ∀ t, t ∈ ts → t.pre.length ≤ 1048576 ∧ t.post.length ≤ 1048576) (hk : 0 ≤ k ∧ k + (sumL wT ts : Nat) ≤ 1073741824) (v : Value) (S : Nat → Prop) : ASpec Tryz.prog 44 [.d (.val v), aI k] [(0, .pred S fun w => TRep w S (vTs ts) v)] (Fun1 (aI (k + (sumL wT ts : Nat))) [(0, .pred S fun w => TRep w S (vTs (mkL wT mkT k ts)) v)]) := by
  refine ASpec.of Tryz.func44 rfl rfl fun C hC => ?_
  refine AC.seq ?_
  refine AC.weakR (WeakR.openT (els := tsL ts) 0 0 rfl rfl (fun w h => h) rfl rfl) ?_
  rintro _ ⟨p, V, S', ⟨hv, hp, hV, hrow, hS, hx⟩, rfl⟩
  rw [tsL_len] at *
  refine AC.region ?_
  refine AL.p (by first | exact as1 rfl | exact as2 rfl | exact as3 rfl | exact as4 rfl | exact as5 rfl | exact as6 rfl | exact as7 rfl | exact as8 rfl | exact as9 rfl) rfl ?_
  refine AL.nil ?_
  refine th_n ?_
  refine AC.seq ?_
  refine AC.seq ?_
  refine AC.region ?_
  refine AL.p (by first | exact as1 rfl | exact as2 rfl | exact as3 rfl | exact as4 rfl | exact as5 rfl | exact as6 rfl | exact as7 rfl | exact as8 rfl | exact as9 rfl) rfl ?_
  refine AL.nil ?_
  refine th_n ?_
  refine AC.block ?_
  refine AC.loop (ι := Nat) (fun i => ⟨27, 108, [(0, .own 100 ts.length), (1, aI (k + (sumL wT (ts.take i) : Nat))), (5, aI i)], [(100, some (.arr 105 2 (rowsV 2 ts.length V))), (101, some (.lock 100 p)), (0, some (.pred S' fun w => TL w S' (tsL (mkM wT mkT k i ts)).flatten V))]⟩) (fun i => i ≤ ts.length) (fun i => ts.length - i) (0) ?_ (Nat.zero_le _) ?_
  · have hs0 : sumL wT (ts.take 0) = 0 := rfl
    exact Weak.ren _ [(100, 1), (101, 2)] hC rfl (by repeat (first | exact True.intro | refine And.intro ?_ ?_ | exact DLead.same | exact DLead.eqI (by omega) | exact DLead.nil | exact rfl | refine ⟨_, _, rfl, rfl, ?_⟩ | refine ⟨_, rfl, ?_⟩ | refine ⟨_, _, rfl, ?_, ?_⟩)) (by rw [mkM_zero]; repeat (first | exact True.intro | refine And.intro ?_ ?_ | exact DLead.same | exact DLead.eqI (by omega) | exact DLead.nil | exact rfl | refine ⟨_, _, rfl, rfl, ?_⟩ | refine ⟨_, rfl, ?_⟩ | refine ⟨_, _, rfl, ?_, ?_⟩)) rfl rfl rfl
  · intro i hi
    refine AC.seq ?_
    refine AC.seq ?_
    refine AC.region ?_
    refine AL.p (by first | exact mv1 rfl | exact mv2 rfl | exact mv3 rfl | exact mv4 rfl | exact mv5 rfl | exact mv6 rfl | exact mv7 rfl | exact mv8 rfl | exact mv9 rfl) rfl ?_
    refine AL.p (by first | exact mv1 rfl | exact mv2 rfl | exact mv3 rfl | exact mv4 rfl | exact mv5 rfl | exact mv6 rfl | exact mv7 rfl | exact mv8 rfl | exact mv9 rfl) rfl ?_
    refine AL.p (by first | exact g_len_view rfl rfl (by first | exact List.length_map _ | rfl) | exact g_len_str rfl rfl rfl | exact g_len_nil rfl rfl | exact g_len_own (sz := 1) (els := []) (e' := 0) rfl rfl (by simp only [maxLen]; omega) | exact g_len_tight rfl rfl (by first | exact List.length_map _ | rfl)) rfl ?_
    refine AL.p (by first | exact g_cmp rfl rfl rfl | exact g_scmp rfl rfl rfl | exact g_eqB rfl rfl rfl | exact g_neB rfl rfl rfl) rfl ?_
    refine AL.nil ?_
    refine th_n ?_
    first | refine AC.condD rfl (fun h0 => ?_) (fun h0 => ?_) | refine AC.condND rfl (fun h0 => ?_) (fun h0 => ?_) | refine AC.condB rfl (fun h0 => ?_) (fun h0 => ?_) | refine AC.condNB rfl (fun h0 => ?_) (fun h0 => ?_)
    · refine AC.skip ?_
      refine th_n ?_
      refine AC.seq ?_
      refine AC.block ?_
      refine AC.seq ?_
      have hi1 : i < ts.length := by omega
      have hlr := rowsV_len 2 ts.length V
      obtain ⟨v1, hv1⟩ : ∃ v, V[i * 2]? = some v := ⟨_, List.getElem?_eq_getElem (by omega)⟩
      obtain ⟨v2, hv2⟩ : ∃ v, V[i * 2 + 1]? = some v := ⟨_, List.getElem?_eq_getElem (by omega)⟩
      have hget := rowsV2_get hi1 hv1 hv2
      have hb1 := (hb _ (List.getElem_mem hi1)).1
      have hb2 := (hb _ (List.getElem_mem hi1)).2
      have hM : (tsL (mkM wT mkT k i ts))[i]? = some [vI ts[i].pre, vI ts[i].post] := by unfold tsL; rw [List.getElem?_map, mkM_get hi1]; rfl
      have hrM := tsL_row (mkM wT mkT k i ts)
      have hL1 := flat_get hrM hM (j := 0) rfl
      have hL2 := flat_get hrM hM (j := 1) rfl
      have hs1 := sumL_take (wt := wT) hi1
      have hs2 := sumL_le wT ts (i + 1)
      have hw : wT ts[i] = ts[i].pre.length + ts[i].post.length := rfl
      have hLl := (List.getElem?_eq_some_iff.1 hL2).1
      refine AC.region ?_
      refine AL.p (by first | exact mv1 rfl | exact mv2 rfl | exact mv3 rfl | exact mv4 rfl | exact mv5 rfl | exact mv6 rfl | exact mv7 rfl | exact mv8 rfl | exact mv9 rfl) rfl ?_
      refine AL.p (by first | exact mv1 rfl | exact mv2 rfl | exact mv3 rfl | exact mv4 rfl | exact mv5 rfl | exact mv6 rfl | exact mv7 rfl | exact mv8 rfl | exact mv9 rfl) rfl ?_
      refine AL.p (by first | exact g_ia_view rfl rfl rfl rfl rfl (by first | rfl | assumption) (by first | assumption | rfl) | exact g_ia_own rfl rfl rfl rfl rfl (by first | rfl | assumption) (by omega) (by first | exact Nat.mul_one _ | rfl | omega)) rfl ?_
      refine AL.p (by first | exact g_fa_ref rfl rfl rfl rfl rfl rfl | exact g_fa_ptr rfl rfl rfl rfl rfl) rfl ?_
      refine AL.p (by first | exact g_load_ref rfl rfl rfl | exact g_load_ptr rfl rfl rfl rfl rfl | exact g_load_refN rfl rfl rfl rfl | exact g_load_ptrN rfl rfl rfl rfl rfl | exact g_load_arr1 rfl rfl rfl rfl (by assumption) | exact g_load_arr rfl rfl rfl rfl (by first | rfl | omega) (by first | assumption | rfl) (by first | assumption | rfl)) rfl ?_
      refine AL.p (by first | exact mv1 rfl | exact mv2 rfl | exact mv3 rfl | exact mv4 rfl | exact mv5 rfl | exact mv6 rfl | exact mv7 rfl | exact mv8 rfl | exact mv9 rfl) rfl ?_
      refine AL.weakR (WeakR.splitT 0 (i * 2) (d := vI ts[i].pre) (v := v1) rfl (fun w h => h) hL1 hv1 rfl) ?_
      rintro _ ⟨S1, S2, hSS, rfl⟩
      refine AL.q (by exact h_fun (cs := [108]) en_markIntS rfl rfl (by repeat (first | exact rfl | exact DLead.same | exact DLead.nil | refine ⟨_, _, rfl, ?_, ?_⟩ | refine ⟨_, rfl, ?_⟩)) (by repeat (first | exact True.intro | refine And.intro ?_ ?_ | exact DLead.same | exact DLead.eqI (by omega) | exact DLead.nil | exact rfl | refine ⟨_, _, rfl, rfl, ?_⟩ | refine ⟨_, rfl, ?_⟩ | refine ⟨_, _, rfl, ?_, ?_⟩)) (markIntS_T _ _ hb1 (by omega) v1 S1) rfl rfl rfl rfl) rfl ?_
      refine AL.weak (Weak.joinT (S := S') (d := vI (seqI (k + (sumL wT (ts.take i) : Nat)) ts[i].pre.length)) (v := v1) 0 108 (i * 2) rfl rfl (fun w h => h) hSS (by omega) hv1 rfl) ?_
      refine AL.p (by first | exact as1 rfl | exact as2 rfl | exact as3 rfl | exact as4 rfl | exact as5 rfl | exact as6 rfl | exact as7 rfl | exact as8 rfl | exact as9 rfl) rfl ?_
      refine AL.nil ?_
      refine th_n ?_
      refine AC.region ?_
      refine AL.p (by first | exact mv1 rfl | exact mv2 rfl | exact mv3 rfl | exact mv4 rfl | exact mv5 rfl | exact mv6 rfl | exact mv7 rfl | exact mv8 rfl | exact mv9 rfl) rfl ?_
      refine AL.p (by first | exact mv1 rfl | exact mv2 rfl | exact mv3 rfl | exact mv4 rfl | exact mv5 rfl | exact mv6 rfl | exact mv7 rfl | exact mv8 rfl | exact mv9 rfl) rfl ?_
      refine AL.p (by first | exact g_ia_view rfl rfl rfl rfl rfl (by first | rfl | assumption) (by first | assumption | rfl) | exact g_ia_own rfl rfl rfl rfl rfl (by first | rfl | assumption) (by omega) (by first | exact Nat.mul_one _ | rfl | omega)) rfl ?_
      refine AL.p (by first | exact g_fa_ref rfl rfl rfl rfl rfl rfl | exact g_fa_ptr rfl rfl rfl rfl rfl) rfl ?_
      refine AL.p (by first | exact g_load_ref rfl rfl rfl | exact g_load_ptr rfl rfl rfl rfl rfl | exact g_load_refN rfl rfl rfl rfl | exact g_load_ptrN rfl rfl rfl rfl rfl | exact g_load_arr1 rfl rfl rfl rfl (by assumption) | exact g_load_arr rfl rfl rfl rfl (by first | rfl | omega) (by first | assumption | rfl) (by first | assumption | rfl)) rfl ?_
      refine AL.p (by first | exact mv1 rfl | exact mv2 rfl | exact mv3 rfl | exact mv4 rfl | exact mv5 rfl | exact mv6 rfl | exact mv7 rfl | exact mv8 rfl | exact mv9 rfl) rfl ?_
      refine AL.weakR (WeakR.splitT 0 (i * 2 + 1) (d := vI ts[i].post) (v := v2) rfl (fun w h => h) (by rw [List.getElem?_set_ne (by omega)]; exact hL2) hv2 rfl) ?_
      rintro _ ⟨S3, S4, hSS2, rfl⟩
      refine AL.q (by exact h_fun (cs := [124]) en_markIntS rfl rfl (by repeat (first | exact rfl | exact DLead.same | exact DLead.nil | refine ⟨_, _, rfl, ?_, ?_⟩ | refine ⟨_, rfl, ?_⟩)) (by repeat (first | exact True.intro | refine And.intro ?_ ?_ | exact DLead.same | exact DLead.eqI (by omega) | exact DLead.nil | exact rfl | refine ⟨_, _, rfl, rfl, ?_⟩ | refine ⟨_, rfl, ?_⟩ | refine ⟨_, _, rfl, ?_, ?_⟩)) (markIntS_T _ _ hb2 (by omega) v2 S3) rfl rfl rfl rfl) rfl ?_
      refine AL.weak (Weak.joinT (S := S') (d := vI (seqI (k + (sumL wT (ts.take i) : Nat) + ts[i].pre.length) ts[i].post.length)) (v := v2) 0 124 (i * 2 + 1) rfl rfl (fun w h => h) hSS2 (by rw [List.length_set]; omega) hv2 rfl) ?_
      refine AL.p (by first | exact as1 rfl | exact as2 rfl | exact as3 rfl | exact as4 rfl | exact as5 rfl | exact as6 rfl | exact as7 rfl | exact as8 rfl | exact as9 rfl) rfl ?_
      refine AL.nil ?_
      refine ib_n ?_
      refine th_n ?_
      refine AC.region ?_
      refine AL.p (by first | exact mv1 rfl | exact mv2 rfl | exact mv3 rfl | exact mv4 rfl | exact mv5 rfl | exact mv6 rfl | exact mv7 rfl | exact mv8 rfl | exact mv9 rfl) rfl ?_
      refine AL.p (by first | exact g_arith rfl rfl rfl (by first | exact wrap_i64 (by omega) | exact wrap_u8 (by omega) | exact wrap_u64 (by omega) | rfl) | exact g_sadd rfl rfl (by first | assumption | omega | (simp only [ByteArray.size_append, bstr_size, List.length_take, List.length_drop, List.length_cons, List.length_nil]; omega))) rfl ?_
      refine AL.p (by first | exact as1 rfl | exact as2 rfl | exact as3 rfl | exact as4 rfl | exact as5 rfl | exact as6 rfl | exact as7 rfl | exact as8 rfl | exact as9 rfl) rfl ?_
      refine AL.nil ?_
      refine th_n ?_
      refine ⟨i + 1, hi1, by omega, Weak.ren _ [(100, 100), (101, 101)] hC rfl (by repeat (first | exact True.intro | refine And.intro ?_ ?_ | exact DLead.same | exact DLead.eqI (by omega) | exact DLead.nil | exact rfl | refine ⟨_, _, rfl, rfl, ?_⟩ | refine ⟨_, rfl, ?_⟩ | refine ⟨_, _, rfl, ?_, ?_⟩)) ?_ rfl rfl rfl⟩
      rw [← mkM_set hi1]
      have e1 := set_flat hrM hM (j := 0) (d := vI (seqI (k + (sumL wT (ts.take i) : Nat)) ts[i].pre.length)) (by omega)
      have e2 : (tsL ((mkM wT mkT k i ts).set i (mkT (k + (sumL wT (ts.take i) : Nat)) ts[i]))).flatten = ((tsL (mkM wT mkT k i ts)).flatten.set (i * 2) (vI (seqI (k + (sumL wT (ts.take i) : Nat)) ts[i].pre.length))).set (i * 2 + 1) (vI (seqI (k + (sumL wT (ts.take i) : Nat) + ts[i].pre.length) ts[i].post.length)) := by rw [Nat.add_zero] at e1; rw [e1, set_flat (cs := [vI (seqI (k + (sumL wT (ts.take i) : Nat)) ts[i].pre.length), vI ts[i].post]) (sz := 2) (fun cs hc => (List.mem_or_eq_of_mem_set hc).elim (hrM cs) (fun e => by rw [e]; rfl)) (by rw [List.getElem?_set_self (List.getElem?_eq_some_iff.1 hM).1]; rfl) (by omega), List.set_set]; unfold tsL; rw [List.map_set]; rfl
      rw [e2]
      repeat (first | exact True.intro | refine And.intro ?_ ?_ | exact DLead.same | exact DLead.eqI (by omega) | exact DLead.nil | exact rfl | refine ⟨_, _, rfl, rfl, ?_⟩ | refine ⟨_, rfl, ?_⟩ | refine ⟨_, _, rfl, ?_, ?_⟩)
    · refine AC.exit ?_
      refine th_e ?_
      refine th_e ?_
      refine ib_y ?_
      refine th_n ?_
      refine AC.seq ?_
      obtain rfl : i = ts.length := by omega
      rw [mkM_all, List.take_length]
      refine AC.weak (Weak.closeT (n := 0) (els := tsL (mkL wT mkT k ts)) (V := V) (v := v) (S := S) (S' := S') (p := p) 0 0 100 101 (by rw [tsL_len, mkL_len]; rfl) rfl (fun w h => h) (by rw [tsL_len, mkL_len]; rfl) rfl (by rw [tsL_len, mkL_len]; exact hv) (by rw [tsL_len, mkL_len]; exact hp) (tsL_row _) hS rfl rfl) ?_
      refine AC.region ?_
      refine AL.p (by first | exact mv1 rfl | exact mv2 rfl | exact mv3 rfl | exact mv4 rfl | exact mv5 rfl | exact mv6 rfl | exact mv7 rfl | exact mv8 rfl | exact mv9 rfl) rfl ?_
      refine AL.p (by first | exact as1 rfl | exact as2 rfl | exact as3 rfl | exact as4 rfl | exact as5 rfl | exact as6 rfl | exact as7 rfl | exact as8 rfl | exact as9 rfl) rfl ?_
      refine AL.nil ?_
      refine th_n ?_
      refine AC.ret ?_
      refine bq_r ?_
      exact retX [] rfl ⟨rfl, rfl⟩ (by repeat (first | exact True.intro | refine And.intro ?_ ?_ | exact DLead.same | exact DLead.eqI (by omega) | exact DLead.nil | exact rfl | refine ⟨_, _, rfl, rfl, ?_⟩ | refine ⟨_, rfl, ?_⟩ | refine ⟨_, _, rfl, ?_, ?_⟩)) (by repeat (first | exact True.intro | refine And.intro ?_ ?_ | exact DLead.same | exact DLead.eqI (by omega) | exact DLead.nil | exact rfl | refine ⟨_, _, rfl, rfl, ?_⟩ | refine ⟨_, rfl, ?_⟩ | refine ⟨_, _, rfl, ?_, ?_⟩)) rfl rfl
theorem en_markTnS : Enters Tryz.prog 44 := enters_of Tryz.func44 rfl rfl

set_option linter.all false
set_option maxRecDepth 20000
end Go.Proofs.YtolfgbcnielnoaaGreat
namespace Go.Proofs.YtolfgbcnielnoaaGreat
open Go.RowKit

def unval : DV → Value
  | .val v => v
  | _ => undef
theorem flat_unval : ∀ {L : List DV}, (∀ d, d ∈ L → d.flat) → (L.map unval).map .val = L
  | [], _ => rfl
  | d :: L, h => by
    have hd := h d (by simp)
    simp only [List.map_cons, flat_unval (fun d hd => h d (List.mem_cons_of_mem _ hd))]
    cases d with
    | val v => rfl
    | _ => exact hd.elim
theorem flat_flat {els : List (List DV)} (h : ∀ cs, cs ∈ els → ∀ d, d ∈ cs → d.flat) : ∀ d, d ∈ els.flatten → d.flat := by
  intro d hd
  obtain ⟨cs, h1, h2⟩ := List.mem_flatten.1 hd
  exact h cs h1 d h2
theorem rowsV_eq {els : List (List DV)} {sz : Nat} {V : List Value} (hrow : ∀ cs, cs ∈ els → cs.length = sz) (hx : ∀ (c : Nat) x, els.flatten[c]? = some (.val x) → V[c]? = some x) (hfl : ∀ cs, cs ∈ els → ∀ d, d ∈ cs → d.flat) : rowsV sz els.length V = els := by
  apply List.ext_getElem?
  intro i
  by_cases hi : i < els.length
  · rw [rowsV_get hi, List.getElem?_eq_getElem hi]
    have hl := hrow _ (List.getElem_mem hi)
    congr 1
    apply List.ext_getElem?
    intro j
    by_cases hj : j < sz
    · have hj' : j < els[i].length := by omega
      have hg := flat_get hrow (List.getElem?_eq_getElem hi) (List.getElem?_eq_getElem hj')
      have hf := hfl _ (List.getElem_mem hi) _ (List.getElem_mem hj')
      rw [List.getElem?_map, List.getElem?_eq_getElem (show j < (List.range sz).length by simpa using hj), List.getElem?_eq_getElem hj']
      generalize els[i][j] = d at hg hf
      cases d with
      | val x => simp [hx _ x hg]
      | _ => exact hf.elim
    · rw [List.getElem?_eq_none (by simpa using hj), List.getElem?_eq_none (by omega)]
  · rw [List.getElem?_eq_none (by rw [rowsV_len]; omega), List.getElem?_eq_none (by omega)]
theorem rowsV_unval {els : List (List DV)} {sz : Nat} (hrow : ∀ cs, cs ∈ els → cs.length = sz) (hfl : ∀ cs, cs ∈ els → ∀ d, d ∈ cs → d.flat) : rowsV sz els.length (els.flatten.map unval) = els := by
  refine rowsV_eq hrow (fun c x hc => ?_) hfl
  rw [List.getElem?_map, hc]; rfl
theorem rowsV2_set0 {n i : Nat} {V : List Value} {v1 v2 y : Value} (hi : i < n) (hV : V.length = n * 2) (h2 : V[i * 2 + 1]? = some v2) : (rowsV 2 n V).set i (([.val v1, .val v2] : List DV).set 0 (.val y)) = rowsV 2 n (V.set (i * 2) y) := by
  apply List.ext_getElem?
  intro q
  by_cases hq : q < n
  · rw [rowsV_get hq]
    by_cases hiq : i = q
    · subst hiq
      rw [List.getElem?_set_self (by rw [rowsV_len]; exact hi)]
      simp only [List.range_succ, List.range_zero, List.nil_append, List.map_append, List.map_cons, List.map_nil, Nat.add_zero, List.cons_append]
      rw [List.getElem?_set_self (by omega), List.getElem?_set_ne (by omega), h2]; rfl
    · rw [List.getElem?_set_ne hiq, rowsV_get hq]
      simp only [List.range_succ, List.range_zero, List.nil_append, List.map_append, List.map_cons, List.map_nil, Nat.add_zero, List.cons_append]
      rw [List.getElem?_set_ne (by omega), List.getElem?_set_ne (by omega)]
  · rw [List.getElem?_eq_none (by rw [List.length_set, rowsV_len]; omega), List.getElem?_eq_none (by rw [rowsV_len]; omega)]
set_option maxHeartbeats 2000000 in
theorem markNet_T (ts : List Tn) (k : Int) (x1 : DV) (hl : ts.length ≤ 1048576) (hb : ∀ t, t ∈ ts → t.pre.length ≤ 1048576 ∧ t.post.length ≤ 1048576) (hk : 0 ≤ k ∧ k + (sumL wT ts : Nat) ≤ 1073741824) (v1 v2 : Value) (S : Nat → Prop) : ASpec Tryz.prog 15 [.agg [.d (.val v1), .d (.val v2)], aI k] [(0, .pred S fun w => TL w S [x1, vTs ts] [v1, v2])] (Fun1 (aI (k + (sumL wT ts : Nat))) [(0, .pred S fun w => TL w S [x1, vTs (mkL wT mkT k ts)] [v1, v2])]) := by
  refine ASpec.of Tryz.func15 rfl rfl fun C hC => ?_
  refine AC.seq ?_
  refine AC.region ?_
  refine AL.q (by exact h_boxF rfl rfl) rfl ?_
  refine AL.p (by first | exact as1 rfl | exact as2 rfl | exact as3 rfl | exact as4 rfl | exact as5 rfl | exact as6 rfl | exact as7 rfl | exact as8 rfl | exact as9 rfl) rfl ?_
  refine AL.nil ?_
  refine th_n ?_
  refine AC.seq ?_
  refine AC.region ?_
  refine AL.p (by first | exact g_fa_ref rfl rfl rfl rfl rfl rfl | exact g_fa_ptr rfl rfl rfl rfl rfl) rfl ?_
  refine AL.p (by first | exact g_load_ref rfl rfl rfl | exact g_load_ptr rfl rfl rfl rfl rfl | exact g_load_refN rfl rfl rfl rfl | exact g_load_ptrN rfl rfl rfl rfl rfl | exact g_load_arr1 rfl rfl rfl rfl (by assumption) | exact g_load_arr rfl rfl rfl rfl (by first | rfl | omega) (by first | assumption | rfl) (by first | assumption | rfl)) rfl ?_
  refine AL.p (by first | exact mv1 rfl | exact mv2 rfl | exact mv3 rfl | exact mv4 rfl | exact mv5 rfl | exact mv6 rfl | exact mv7 rfl | exact mv8 rfl | exact mv9 rfl) rfl ?_
  refine AL.weakR (WeakR.splitT 0 1 (d := vTs ts) (v := v2) rfl (fun w h => h) rfl rfl rfl) ?_
  rintro _ ⟨S1, S2, hSS, rfl⟩
  refine AL.q (by exact h_fun (cs := [9]) en_markTnS rfl rfl (by repeat (first | exact rfl | exact DLead.same | exact DLead.nil | refine ⟨_, _, rfl, ?_, ?_⟩ | refine ⟨_, rfl, ?_⟩)) (by repeat (first | exact True.intro | refine And.intro ?_ ?_ | exact DLead.same | exact DLead.eqI (by omega) | exact DLead.nil | exact rfl | refine ⟨_, _, rfl, rfl, ?_⟩ | refine ⟨_, rfl, ?_⟩ | refine ⟨_, _, rfl, ?_, ?_⟩)) (markTnS_T ts k hl hb hk v2 S1) rfl rfl rfl rfl) rfl ?_
  refine AL.weak (Weak.joinT (S := S) (d := vTs (mkL wT mkT k ts)) (v := v2) 0 9 1 rfl rfl (fun w h => h) hSS (by simp) rfl rfl) ?_
  refine AL.p (by first | exact as1 rfl | exact as2 rfl | exact as3 rfl | exact as4 rfl | exact as5 rfl | exact as6 rfl | exact as7 rfl | exact as8 rfl | exact as9 rfl) rfl ?_
  refine AL.nil ?_
  refine th_n ?_
  refine AC.seq ?_
  refine AC.region ?_
  refine AL.p (by first | exact mv1 rfl | exact mv2 rfl | exact mv3 rfl | exact mv4 rfl | exact mv5 rfl | exact mv6 rfl | exact mv7 rfl | exact mv8 rfl | exact mv9 rfl) rfl ?_
  refine AL.p (by first | exact as1 rfl | exact as2 rfl | exact as3 rfl | exact as4 rfl | exact as5 rfl | exact as6 rfl | exact as7 rfl | exact as8 rfl | exact as9 rfl) rfl ?_
  refine AL.nil ?_
  refine th_n ?_
  refine AC.ret ?_
  refine bq_r ?_
  exact retX [] rfl ⟨rfl, rfl⟩ (by repeat (first | exact True.intro | refine And.intro ?_ ?_ | exact DLead.same | exact DLead.eqI (by omega) | exact DLead.nil | exact rfl | refine ⟨_, _, rfl, rfl, ?_⟩ | refine ⟨_, rfl, ?_⟩ | refine ⟨_, _, rfl, ?_, ?_⟩)) (by repeat (first | exact True.intro | refine And.intro ?_ ?_ | exact DLead.same | exact DLead.eqI (by omega) | exact DLead.nil | exact rfl | refine ⟨_, _, rfl, rfl, ?_⟩ | refine ⟨_, rfl, ?_⟩ | refine ⟨_, _, rfl, ?_, ?_⟩)) rfl rfl
theorem en_markNet : Enters Tryz.prog 15 := enters_of Tryz.func15 rfl rfl
def wC (_ : Cond) : Nat := 2
def mkC (k : Int) (_ : Cond) : Cond := ⟨k, k + 1⟩
theorem condsL_row (l : List Cond) : ∀ cs, cs ∈ condsL l → cs.length = 2 := by
  intro cs hc
  obtain ⟨x, _, rfl⟩ := List.mem_map.1 hc
  rfl
theorem mkC_ok : ∀ (l : List Cond) (k : Int), 0 ≤ k → k + (sumL wC l : Nat) ≤ 1073741824 → ∀ v, v ∈ (condsL (mkL wC mkC k l)).flatten.map unval → okV v
  | [], k, _, _, v, hv => by simp [condsL, mkL] at hv
  | c :: l, k, h1, h2, v, hv => by
    simp only [sumL, wC] at h2
    simp only [condsL, mkL, List.map_cons, List.flatten_cons, List.map_append, List.mem_append] at hv
    rcases hv with hv | hv
    · simp only [List.map_cons, List.map_nil, List.mem_cons, List.not_mem_nil, or_false] at hv
      rcases hv with rfl | rfl
      · exact wrap_i64 (by show _ ≤ k ∧ k ≤ _; omega)
      · exact wrap_i64 (by show _ ≤ k + 1 ∧ k + 1 ≤ _; omega)
    · exact mkC_ok l (k + (wC c : Nat)) (by simp only [wC]; omega) (by simp only [wC]; omega) v hv
set_option maxHeartbeats 2000000 in
theorem markCondS_T (ts : List Cond) (k : Int) (hl : ts.length ≤ 1048576) (hk : 0 ≤ k ∧ k + (sumL wC ts : Nat) ≤ 1073741824) (v : Value) (S : Nat → Prop) : ASpec Tryz.prog 45 [.d (.val v), aI k] [(0, .pred S fun w => TRep w S (vCs ts) v)] (Fun1 (aI (k + (sumL wC ts : Nat))) [(0, .pred S fun w => TRep w S (vCs (mkL wC mkC k ts)) v)]) := by
  refine ASpec.of Tryz.func45 rfl rfl fun C hC => ?_
  refine AC.seq ?_
  refine AC.weakR (WeakR.openT (els := condsL ts) 0 0 rfl rfl (fun w h => h) rfl rfl) ?_
  rintro _ ⟨p, V, S', ⟨hv, hp, hV, hrow, hS, hx⟩, rfl⟩
  rw [rowsV_eq hrow hx (condsL_flat _)]
  rw [condsL_len] at *
  refine AC.region ?_
  refine AL.p (by first | exact as1 rfl | exact as2 rfl | exact as3 rfl | exact as4 rfl | exact as5 rfl | exact as6 rfl | exact as7 rfl | exact as8 rfl | exact as9 rfl) rfl ?_
  refine AL.nil ?_
  refine th_n ?_
  refine AC.seq ?_
  refine AC.seq ?_
  refine AC.region ?_
  refine AL.p (by first | exact as1 rfl | exact as2 rfl | exact as3 rfl | exact as4 rfl | exact as5 rfl | exact as6 rfl | exact as7 rfl | exact as8 rfl | exact as9 rfl) rfl ?_
  refine AL.nil ?_
  refine th_n ?_
  refine AC.block ?_
  refine AC.loop (ι := Nat) (fun i => ⟨27, 108, [(0, .own 100 ts.length), (1, aI (k + (sumL wC (ts.take i) : Nat))), (5, aI i)], [(100, some (.arr 103 2 (condsL (mkM wC mkC k i ts)))), (101, some (.lock 100 p)), (0, some (.pred S' fun w => TL w S' (condsL ts).flatten V))]⟩) (fun i => i ≤ ts.length) (fun i => ts.length - i) (0) ?_ (Nat.zero_le _) ?_
  · have hs0 : sumL wC (ts.take 0) = 0 := rfl
    exact Weak.ren _ [(100, 1), (101, 2)] hC rfl (by repeat (first | exact True.intro | refine And.intro ?_ ?_ | exact DLead.same | exact DLead.eqI (by omega) | exact DLead.nil | exact rfl | refine ⟨_, _, rfl, rfl, ?_⟩ | refine ⟨_, rfl, ?_⟩ | refine ⟨_, _, rfl, ?_, ?_⟩)) (by rw [mkM_zero]; repeat (first | exact True.intro | refine And.intro ?_ ?_ | exact DLead.same | exact DLead.eqI (by omega) | exact DLead.nil | exact rfl | refine ⟨_, _, rfl, rfl, ?_⟩ | refine ⟨_, rfl, ?_⟩ | refine ⟨_, _, rfl, ?_, ?_⟩)) rfl rfl rfl
  · intro i hi
    refine AC.seq ?_
    refine AC.seq ?_
    refine AC.region ?_
    refine AL.p (by first | exact mv1 rfl | exact mv2 rfl | exact mv3 rfl | exact mv4 rfl | exact mv5 rfl | exact mv6 rfl | exact mv7 rfl | exact mv8 rfl | exact mv9 rfl) rfl ?_
    refine AL.p (by first | exact mv1 rfl | exact mv2 rfl | exact mv3 rfl | exact mv4 rfl | exact mv5 rfl | exact mv6 rfl | exact mv7 rfl | exact mv8 rfl | exact mv9 rfl) rfl ?_
    refine AL.p (by first | exact g_len_view rfl rfl (by first | exact List.length_map _ | rfl) | exact g_len_str rfl rfl rfl | exact g_len_nil rfl rfl | exact g_len_own (sz := 1) (els := []) (e' := 0) rfl rfl (by simp only [maxLen]; omega) | exact g_len_tight rfl rfl (by first | exact List.length_map _ | rfl)) rfl ?_
    refine AL.p (by first | exact g_cmp rfl rfl rfl | exact g_scmp rfl rfl rfl | exact g_eqB rfl rfl rfl | exact g_neB rfl rfl rfl) rfl ?_
    refine AL.nil ?_
    refine th_n ?_
    first | refine AC.condD rfl (fun h0 => ?_) (fun h0 => ?_) | refine AC.condND rfl (fun h0 => ?_) (fun h0 => ?_) | refine AC.condB rfl (fun h0 => ?_) (fun h0 => ?_) | refine AC.condNB rfl (fun h0 => ?_) (fun h0 => ?_)
    · refine AC.skip ?_
      refine th_n ?_
      refine AC.seq ?_
      refine AC.block ?_
      refine AC.seq ?_
      have hi1 : i < ts.length := by omega
      have hlr := condsL_len (mkM wC mkC k i ts)
      rw [mkM_len hi] at hlr
      have hget : (condsL (mkM wC mkC k i ts))[i]? = some [dI ts[i].place, dI ts[i].by_] := by unfold condsL; rw [List.getElem?_map, mkM_get hi1]; rfl
      have hs1 := sumL_take (wt := wC) hi1
      have hs2 := sumL_le wC ts (i + 1)
      have hw : wC ts[i] = 2 := rfl
      have hget2 : ((condsL (mkM wC mkC k i ts)).set i (([dI ts[i].place, dI ts[i].by_] : List DV).set 0 (dI (k + (sumL wC (ts.take i) : Nat)))))[i]? = some [dI (k + (sumL wC (ts.take i) : Nat)), dI ts[i].by_] := by rw [List.getElem?_set_self (by omega)]; rfl
      have hl2 : ((condsL (mkM wC mkC k i ts)).set i (([dI ts[i].place, dI ts[i].by_] : List DV).set 0 (dI (k + (sumL wC (ts.take i) : Nat))))).length = ts.length := by rw [List.length_set]; exact hlr
      refine AC.region ?_
      refine AL.p (by first | exact mv1 rfl | exact mv2 rfl | exact mv3 rfl | exact mv4 rfl | exact mv5 rfl | exact mv6 rfl | exact mv7 rfl | exact mv8 rfl | exact mv9 rfl) rfl ?_
      refine AL.p (by first | exact mv1 rfl | exact mv2 rfl | exact mv3 rfl | exact mv4 rfl | exact mv5 rfl | exact mv6 rfl | exact mv7 rfl | exact mv8 rfl | exact mv9 rfl) rfl ?_
      refine AL.p (by first | exact mv1 rfl | exact mv2 rfl | exact mv3 rfl | exact mv4 rfl | exact mv5 rfl | exact mv6 rfl | exact mv7 rfl | exact mv8 rfl | exact mv9 rfl) rfl ?_
      refine AL.p (by first | exact g_ia_view rfl rfl rfl rfl rfl (by first | rfl | assumption) (by first | assumption | rfl) | exact g_ia_own rfl rfl rfl rfl rfl (by first | rfl | assumption) (by omega) (by first | exact Nat.mul_one _ | rfl | omega)) rfl ?_
      refine AL.p (by first | exact g_fa_ref rfl rfl rfl rfl rfl rfl | exact g_fa_ptr rfl rfl rfl rfl rfl) rfl ?_
      refine AL.q (by exact h_store_arr (i := i) (j := 0) (cs := [dI ts[i].place, dI ts[i].by_]) (d := dI (k + (sumL wC (ts.take i) : Nat))) rfl rfl rfl rfl .same rfl hget (by simp)) rfl ?_
      refine AL.nil ?_
      refine th_n ?_
      refine AC.seq ?_
      refine AC.region ?_
      refine AL.p (by first | exact mv1 rfl | exact mv2 rfl | exact mv3 rfl | exact mv4 rfl | exact mv5 rfl | exact mv6 rfl | exact mv7 rfl | exact mv8 rfl | exact mv9 rfl) rfl ?_
      refine AL.p (by first | exact g_arith rfl rfl rfl (by first | exact wrap_i64 (by omega) | exact wrap_u8 (by omega) | exact wrap_u64 (by omega) | rfl) | exact g_sadd rfl rfl (by first | assumption | omega | (simp only [ByteArray.size_append, bstr_size, List.length_take, List.length_drop, List.length_cons, List.length_nil]; omega))) rfl ?_
      refine AL.p (by first | exact as1 rfl | exact as2 rfl | exact as3 rfl | exact as4 rfl | exact as5 rfl | exact as6 rfl | exact as7 rfl | exact as8 rfl | exact as9 rfl) rfl ?_
      refine AL.nil ?_
      refine th_n ?_
      refine AC.seq ?_
      refine AC.region ?_
      refine AL.p (by first | exact mv1 rfl | exact mv2 rfl | exact mv3 rfl | exact mv4 rfl | exact mv5 rfl | exact mv6 rfl | exact mv7 rfl | exact mv8 rfl | exact mv9 rfl) rfl ?_
      refine AL.p (by first | exact mv1 rfl | exact mv2 rfl | exact mv3 rfl | exact mv4 rfl | exact mv5 rfl | exact mv6 rfl | exact mv7 rfl | exact mv8 rfl | exact mv9 rfl) rfl ?_
      refine AL.p (by first | exact mv1 rfl | exact mv2 rfl | exact mv3 rfl | exact mv4 rfl | exact mv5 rfl | exact mv6 rfl | exact mv7 rfl | exact mv8 rfl | exact mv9 rfl) rfl ?_
      refine AL.p (by first | exact g_ia_view rfl rfl rfl rfl rfl (by first | rfl | assumption) (by first | assumption | rfl) | exact g_ia_own rfl rfl rfl rfl rfl (by first | rfl | assumption) (by omega) (by first | exact Nat.mul_one _ | rfl | omega)) rfl ?_
      refine AL.p (by first | exact g_fa_ref rfl rfl rfl rfl rfl rfl | exact g_fa_ptr rfl rfl rfl rfl rfl) rfl ?_
      refine AL.q (by exact h_store_arr (i := i) (j := 1) (cs := [dI (k + (sumL wC (ts.take i) : Nat)), dI ts[i].by_]) (d := dI (k + (sumL wC (ts.take i) : Nat) + 1)) rfl rfl rfl rfl .same rfl hget2 (by simp)) rfl ?_
      refine AL.nil ?_
      refine th_n ?_
      refine AC.region ?_
      refine AL.p (by first | exact mv1 rfl | exact mv2 rfl | exact mv3 rfl | exact mv4 rfl | exact mv5 rfl | exact mv6 rfl | exact mv7 rfl | exact mv8 rfl | exact mv9 rfl) rfl ?_
      refine AL.p (by first | exact g_arith rfl rfl rfl (by first | exact wrap_i64 (by omega) | exact wrap_u8 (by omega) | exact wrap_u64 (by omega) | rfl) | exact g_sadd rfl rfl (by first | assumption | omega | (simp only [ByteArray.size_append, bstr_size, List.length_take, List.length_drop, List.length_cons, List.length_nil]; omega))) rfl ?_
      refine AL.p (by first | exact as1 rfl | exact as2 rfl | exact as3 rfl | exact as4 rfl | exact as5 rfl | exact as6 rfl | exact as7 rfl | exact as8 rfl | exact as9 rfl) rfl ?_
      refine AL.nil ?_
      refine ib_n ?_
      refine th_n ?_
      refine AC.region ?_
      refine AL.p (by first | exact mv1 rfl | exact mv2 rfl | exact mv3 rfl | exact mv4 rfl | exact mv5 rfl | exact mv6 rfl | exact mv7 rfl | exact mv8 rfl | exact mv9 rfl) rfl ?_
      refine AL.p (by first | exact g_arith rfl rfl rfl (by first | exact wrap_i64 (by omega) | exact wrap_u8 (by omega) | exact wrap_u64 (by omega) | rfl) | exact g_sadd rfl rfl (by first | assumption | omega | (simp only [ByteArray.size_append, bstr_size, List.length_take, List.length_drop, List.length_cons, List.length_nil]; omega))) rfl ?_
      refine AL.p (by first | exact as1 rfl | exact as2 rfl | exact as3 rfl | exact as4 rfl | exact as5 rfl | exact as6 rfl | exact as7 rfl | exact as8 rfl | exact as9 rfl) rfl ?_
      refine AL.nil ?_
      refine th_n ?_
      refine ⟨i + 1, hi1, by omega, Weak.ren _ [(100, 100), (101, 101)] hC rfl (by repeat (first | exact True.intro | refine And.intro ?_ ?_ | exact DLead.same | exact DLead.eqI (by omega) | exact DLead.nil | exact rfl | refine ⟨_, _, rfl, rfl, ?_⟩ | refine ⟨_, rfl, ?_⟩ | refine ⟨_, _, rfl, ?_, ?_⟩)) ?_ rfl rfl rfl⟩
      have e2 : condsL (mkM wC mkC k (i + 1) ts) = ((condsL (mkM wC mkC k i ts)).set i (([dI ts[i].place, dI ts[i].by_] : List DV).set 0 (dI (k + (sumL wC (ts.take i) : Nat))))).set i (([dI (k + (sumL wC (ts.take i) : Nat)), dI ts[i].by_] : List DV).set 1 (dI (k + (sumL wC (ts.take i) : Nat) + 1))) := by rw [← mkM_set hi1, List.set_set]; unfold condsL; rw [List.map_set]; rfl
      rw [e2]
      repeat (first | exact True.intro | refine And.intro ?_ ?_ | exact DLead.same | exact DLead.eqI (by omega) | exact DLead.nil | exact rfl | refine ⟨_, _, rfl, rfl, ?_⟩ | refine ⟨_, rfl, ?_⟩ | refine ⟨_, _, rfl, ?_, ?_⟩)
    · refine AC.exit ?_
      refine th_e ?_
      refine th_e ?_
      refine ib_y ?_
      refine th_n ?_
      refine AC.seq ?_
      obtain rfl : i = ts.length := by omega
      rw [mkM_all, List.take_length]
      refine AC.weak (Weak.closeT (n := 0) (els := condsL (mkL wC mkC k ts)) (V := (condsL (mkL wC mkC k ts)).flatten.map unval) (v := v) (S := S) (S' := S') (p := p) 0 0 100 101 (by rw [condsL_len, mkL_len]; rfl) rfl (fun w h => by have := h.flatNew (flat_flat (condsL_flat ts)) (mkC_ok ts k hk.1 hk.2); rwa [flat_unval (flat_flat (condsL_flat _))] at this) (by rw [rowsV_unval (condsL_row _) (condsL_flat _)]; rfl) rfl (by rw [condsL_len, mkL_len]; exact hv) (by rw [condsL_len, mkL_len]; exact hp) (condsL_row _) hS rfl rfl) ?_
      refine AC.region ?_
      refine AL.p (by first | exact mv1 rfl | exact mv2 rfl | exact mv3 rfl | exact mv4 rfl | exact mv5 rfl | exact mv6 rfl | exact mv7 rfl | exact mv8 rfl | exact mv9 rfl) rfl ?_
      refine AL.p (by first | exact as1 rfl | exact as2 rfl | exact as3 rfl | exact as4 rfl | exact as5 rfl | exact as6 rfl | exact as7 rfl | exact as8 rfl | exact as9 rfl) rfl ?_
      refine AL.nil ?_
      refine th_n ?_
      refine AC.ret ?_
      refine bq_r ?_
      exact retX [] rfl ⟨rfl, rfl⟩ (by repeat (first | exact True.intro | refine And.intro ?_ ?_ | exact DLead.same | exact DLead.eqI (by omega) | exact DLead.nil | exact rfl | refine ⟨_, _, rfl, rfl, ?_⟩ | refine ⟨_, rfl, ?_⟩ | refine ⟨_, _, rfl, ?_, ?_⟩)) (by repeat (first | exact True.intro | refine And.intro ?_ ?_ | exact DLead.same | exact DLead.eqI (by omega) | exact DLead.nil | exact rfl | refine ⟨_, _, rfl, rfl, ?_⟩ | refine ⟨_, rfl, ?_⟩ | refine ⟨_, _, rfl, ?_, ?_⟩)) rfl rfl
theorem en_markCondS : Enters Tryz.prog 45 := enters_of Tryz.func45 rfl rfl

set_option linter.all false
set_option maxRecDepth 20000
end Go.Proofs.YtolfgbcnielnoaaGreat
namespace Go.Proofs.YtolfgbcnielnoaaGreat
open Go.RowKit

def wE (e : Ev) : Nat := 1 + e.pre.length
def mkE (k : Int) (e : Ev) : Ev := ⟨k, seqI (k + 1) e.pre.length⟩
set_option maxHeartbeats 2000000 in
theorem markEvS_T (ts : List Ev) (k : Int) (hl : ts.length ≤ 1048576) (hb : ∀ t, t ∈ ts → t.pre.length ≤ 1048576) (hk : 0 ≤ k ∧ k + (sumL wE ts : Nat) ≤ 1073741824) (v : Value) (S : Nat → Prop) : ASpec Tryz.prog 46 [.d (.val v), aI k] [(0, .pred S fun w => TRep w S (vEs ts) v)] (Fun1 (aI (k + (sumL wE ts : Nat))) [(0, .pred S fun w => TRep w S (vEs (mkL wE mkE k ts)) v)]) := by
  refine ASpec.of Tryz.func46 rfl rfl fun C hC => ?_
  refine AC.seq ?_
  refine AC.weakR (WeakR.openT (els := evsL ts) 0 0 rfl rfl (fun w h => h) rfl rfl) ?_
  rintro _ ⟨p, V0, S', ⟨hv, hp, hV0, hrow, hS, hx⟩, rfl⟩
  rw [evsL_len] at *
  refine AC.region ?_
  refine AL.p (by first | exact as1 rfl | exact as2 rfl | exact as3 rfl | exact as4 rfl | exact as5 rfl | exact as6 rfl | exact as7 rfl | exact as8 rfl | exact as9 rfl) rfl ?_
  refine AL.nil ?_
  refine th_n ?_
  refine AC.seq ?_
  refine AC.seq ?_
  refine AC.region ?_
  refine AL.p (by first | exact as1 rfl | exact as2 rfl | exact as3 rfl | exact as4 rfl | exact as5 rfl | exact as6 rfl | exact as7 rfl | exact as8 rfl | exact as9 rfl) rfl ?_
  refine AL.nil ?_
  refine th_n ?_
  refine AC.block ?_
  refine AC.loop (ι := Nat × List Value) (fun ⟨i, V⟩ => ⟨27, 108, [(0, .own 100 ts.length), (1, aI (k + (sumL wE (ts.take i) : Nat))), (5, aI i)], [(100, some (.arr 58 2 (rowsV 2 ts.length V))), (101, some (.lock 100 p)), (0, some (.pred S' fun w => TL w S' (evsL (mkM wE mkE k i ts)).flatten V))]⟩) (fun x => x.1 ≤ ts.length ∧ x.2.length = ts.length * 2) (fun x => ts.length - x.1) ((0, V0)) ?_ (⟨Nat.zero_le _, hV0⟩) ?_
  · have hs0 : sumL wE (ts.take 0) = 0 := rfl
    exact Weak.ren _ [(100, 1), (101, 2)] hC rfl (by dsimp only; repeat (first | exact True.intro | refine And.intro ?_ ?_ | exact DLead.same | exact DLead.eqI (by omega) | exact DLead.nil | exact rfl | refine ⟨_, _, rfl, rfl, ?_⟩ | refine ⟨_, rfl, ?_⟩ | refine ⟨_, _, rfl, ?_, ?_⟩)) (by dsimp only; rw [mkM_zero]; repeat (first | exact True.intro | refine And.intro ?_ ?_ | exact DLead.same | exact DLead.eqI (by omega) | exact DLead.nil | exact rfl | refine ⟨_, _, rfl, rfl, ?_⟩ | refine ⟨_, rfl, ?_⟩ | refine ⟨_, _, rfl, ?_, ?_⟩)) rfl rfl rfl
  · rintro ⟨i, V⟩ ⟨hi, hV⟩
    refine AC.seq ?_
    refine AC.seq ?_
    refine AC.region ?_
    refine AL.p (by first | exact mv1 rfl | exact mv2 rfl | exact mv3 rfl | exact mv4 rfl | exact mv5 rfl | exact mv6 rfl | exact mv7 rfl | exact mv8 rfl | exact mv9 rfl) rfl ?_
    refine AL.p (by first | exact mv1 rfl | exact mv2 rfl | exact mv3 rfl | exact mv4 rfl | exact mv5 rfl | exact mv6 rfl | exact mv7 rfl | exact mv8 rfl | exact mv9 rfl) rfl ?_
    refine AL.p (by first | exact g_len_view rfl rfl (by first | exact List.length_map _ | rfl) | exact g_len_str rfl rfl rfl | exact g_len_nil rfl rfl | exact g_len_own (sz := 1) (els := []) (e' := 0) rfl rfl (by simp only [maxLen]; omega) | exact g_len_tight rfl rfl (by first | exact List.length_map _ | rfl)) rfl ?_
    refine AL.p (by first | exact g_cmp rfl rfl rfl | exact g_scmp rfl rfl rfl | exact g_eqB rfl rfl rfl | exact g_neB rfl rfl rfl) rfl ?_
    refine AL.nil ?_
    refine th_n ?_
    first | refine AC.condD rfl (fun h0 => ?_) (fun h0 => ?_) | refine AC.condND rfl (fun h0 => ?_) (fun h0 => ?_) | refine AC.condB rfl (fun h0 => ?_) (fun h0 => ?_) | refine AC.condNB rfl (fun h0 => ?_) (fun h0 => ?_)
    · refine AC.skip ?_
      refine th_n ?_
      refine AC.seq ?_
      refine AC.block ?_
      refine AC.seq ?_
      dsimp only at hi hV
      have hi1 : i < ts.length := by omega
      have hlr := rowsV_len 2 ts.length V
      obtain ⟨v1, hv1⟩ : ∃ v, V[i * 2]? = some v := ⟨_, List.getElem?_eq_getElem (by omega)⟩
      obtain ⟨v2, hv2⟩ : ∃ v, V[i * 2 + 1]? = some v := ⟨_, List.getElem?_eq_getElem (by omega)⟩
      have hget := rowsV2_get hi1 hv1 hv2
      have hb1 := hb _ (List.getElem_mem hi1)
      have hM : (evsL (mkM wE mkE k i ts))[i]? = some [dI ts[i].t, vI ts[i].pre] := by unfold evsL; rw [List.getElem?_map, mkM_get hi1]; rfl
      have hrM := evsL_row (mkM wE mkE k i ts)
      have hL1 := flat_get hrM hM (j := 0) rfl
      have hL2 := flat_get hrM hM (j := 1) rfl
      have hs1 := sumL_take (wt := wE) hi1
      have hs2 := sumL_le wE ts (i + 1)
      have hw : wE ts[i] = 1 + ts[i].pre.length := rfl
      have hLl := (List.getElem?_eq_some_iff.1 hL2).1
      have hset := rowsV2_set0 (v1 := v1) (y := .int .i64 (k + (sumL wE (ts.take i) : Nat))) hi1 hV hv2
      have hv1' : (V.set (i * 2) (.int .i64 (k + (sumL wE (ts.take i) : Nat))))[i * 2]? = some (.int .i64 (k + (sumL wE (ts.take i) : Nat))) := by rw [List.getElem?_set_self (by omega)]
      have hv2' : (V.set (i * 2) (.int .i64 (k + (sumL wE (ts.take i) : Nat))))[i * 2 + 1]? = some v2 := by rw [List.getElem?_set_ne (by omega)]; exact hv2
      have hget2 := rowsV2_get hi1 hv1' hv2'
      have hlr2 := rowsV_len 2 ts.length (V.set (i * 2) (.int .i64 (k + (sumL wE (ts.take i) : Nat))))
      refine AC.region ?_
      refine AL.p (by first | exact mv1 rfl | exact mv2 rfl | exact mv3 rfl | exact mv4 rfl | exact mv5 rfl | exact mv6 rfl | exact mv7 rfl | exact mv8 rfl | exact mv9 rfl) rfl ?_
      refine AL.p (by first | exact mv1 rfl | exact mv2 rfl | exact mv3 rfl | exact mv4 rfl | exact mv5 rfl | exact mv6 rfl | exact mv7 rfl | exact mv8 rfl | exact mv9 rfl) rfl ?_
      refine AL.p (by first | exact mv1 rfl | exact mv2 rfl | exact mv3 rfl | exact mv4 rfl | exact mv5 rfl | exact mv6 rfl | exact mv7 rfl | exact mv8 rfl | exact mv9 rfl) rfl ?_
      refine AL.p (by first | exact g_ia_view rfl rfl rfl rfl rfl (by first | rfl | assumption) (by first | assumption | rfl) | exact g_ia_own rfl rfl rfl rfl rfl (by first | rfl | assumption) (by omega) (by first | exact Nat.mul_one _ | rfl | omega)) rfl ?_
      refine AL.p (by first | exact g_fa_ref rfl rfl rfl rfl rfl rfl | exact g_fa_ptr rfl rfl rfl rfl rfl) rfl ?_
      refine AL.q (by exact h_store_arr (i := i) (j := 0) (cs := [.val v1, .val v2]) (d := dI (k + (sumL wE (ts.take i) : Nat))) rfl rfl rfl rfl .same rfl hget (by simp)) rfl ?_
      refine AL.weak (Weak.cons 0 (fun w => TL w S' ((evsL (mkM wE mkE k i ts)).flatten.set (i * 2) (dI (k + (sumL wE (ts.take i) : Nat)))) (V.set (i * 2) (.int .i64 (k + (sumL wE (ts.take i) : Nat))))) rfl (fun w h => h.setFlat hL1 (wrap_i64 (by omega))) (fun w w' hk h => h.turn hk)) ?_
      rw [show dI (k + (sumL wE (ts.take i) : Nat)) = DV.val (.int .i64 (k + (sumL wE (ts.take i) : Nat))) from rfl]
      rw [hset]
      refine AL.nil ?_
      refine th_n ?_
      refine AC.seq ?_
      refine AC.region ?_
      refine AL.p (by first | exact mv1 rfl | exact mv2 rfl | exact mv3 rfl | exact mv4 rfl | exact mv5 rfl | exact mv6 rfl | exact mv7 rfl | exact mv8 rfl | exact mv9 rfl) rfl ?_
      refine AL.p (by first | exact g_arith rfl rfl rfl (by first | exact wrap_i64 (by omega) | exact wrap_u8 (by omega) | exact wrap_u64 (by omega) | rfl) | exact g_sadd rfl rfl (by first | assumption | omega | (simp only [ByteArray.size_append, bstr_size, List.length_take, List.length_drop, List.length_cons, List.length_nil]; omega))) rfl ?_
      refine AL.p (by first | exact as1 rfl | exact as2 rfl | exact as3 rfl | exact as4 rfl | exact as5 rfl | exact as6 rfl | exact as7 rfl | exact as8 rfl | exact as9 rfl) rfl ?_
      refine AL.nil ?_
      refine th_n ?_
      refine AC.region ?_
      refine AL.p (by first | exact mv1 rfl | exact mv2 rfl | exact mv3 rfl | exact mv4 rfl | exact mv5 rfl | exact mv6 rfl | exact mv7 rfl | exact mv8 rfl | exact mv9 rfl) rfl ?_
      refine AL.p (by first | exact mv1 rfl | exact mv2 rfl | exact mv3 rfl | exact mv4 rfl | exact mv5 rfl | exact mv6 rfl | exact mv7 rfl | exact mv8 rfl | exact mv9 rfl) rfl ?_
      refine AL.p (by first | exact g_ia_view rfl rfl rfl rfl rfl (by first | rfl | assumption) (by first | assumption | rfl) | exact g_ia_own rfl rfl rfl rfl rfl (by first | rfl | assumption) (by omega) (by first | exact Nat.mul_one _ | rfl | omega)) rfl ?_
      refine AL.p (by first | exact g_fa_ref rfl rfl rfl rfl rfl rfl | exact g_fa_ptr rfl rfl rfl rfl rfl) rfl ?_
      refine AL.p (by first | exact g_load_ref rfl rfl rfl | exact g_load_ptr rfl rfl rfl rfl rfl | exact g_load_refN rfl rfl rfl rfl | exact g_load_ptrN rfl rfl rfl rfl rfl | exact g_load_arr1 rfl rfl rfl rfl (by assumption) | exact g_load_arr rfl rfl rfl rfl (by first | rfl | omega) (by first | assumption | rfl) (by first | assumption | rfl)) rfl ?_
      refine AL.p (by first | exact mv1 rfl | exact mv2 rfl | exact mv3 rfl | exact mv4 rfl | exact mv5 rfl | exact mv6 rfl | exact mv7 rfl | exact mv8 rfl | exact mv9 rfl) rfl ?_
      refine AL.weakR (WeakR.splitT 0 (i * 2 + 1) (d := vI ts[i].pre) (v := v2) rfl (fun w h => h) (by rw [List.getElem?_set_ne (by omega)]; exact hL2) hv2' rfl) ?_
      rintro _ ⟨S3, S4, hSS2, rfl⟩
      refine AL.q (by exact h_fun (cs := [116]) en_markIntS rfl rfl (by repeat (first | exact rfl | exact DLead.same | exact DLead.nil | refine ⟨_, _, rfl, ?_, ?_⟩ | refine ⟨_, rfl, ?_⟩)) (by repeat (first | exact True.intro | refine And.intro ?_ ?_ | exact DLead.same | exact DLead.eqI (by omega) | exact DLead.nil | exact rfl | refine ⟨_, _, rfl, rfl, ?_⟩ | refine ⟨_, rfl, ?_⟩ | refine ⟨_, _, rfl, ?_, ?_⟩)) (markIntS_T _ _ hb1 (by omega) v2 S3) rfl rfl rfl rfl) rfl ?_
      refine AL.weak (Weak.joinT (S := S') (d := vI (seqI (k + (sumL wE (ts.take i) : Nat) + 1) ts[i].pre.length)) (v := v2) 0 116 (i * 2 + 1) rfl rfl (fun w h => h) hSS2 (by rw [List.length_set]; omega) hv2' rfl) ?_
      refine AL.p (by first | exact as1 rfl | exact as2 rfl | exact as3 rfl | exact as4 rfl | exact as5 rfl | exact as6 rfl | exact as7 rfl | exact as8 rfl | exact as9 rfl) rfl ?_
      refine AL.nil ?_
      refine ib_n ?_
      refine th_n ?_
      refine AC.region ?_
      refine AL.p (by first | exact mv1 rfl | exact mv2 rfl | exact mv3 rfl | exact mv4 rfl | exact mv5 rfl | exact mv6 rfl | exact mv7 rfl | exact mv8 rfl | exact mv9 rfl) rfl ?_
      refine AL.p (by first | exact g_arith rfl rfl rfl (by first | exact wrap_i64 (by omega) | exact wrap_u8 (by omega) | exact wrap_u64 (by omega) | rfl) | exact g_sadd rfl rfl (by first | assumption | omega | (simp only [ByteArray.size_append, bstr_size, List.length_take, List.length_drop, List.length_cons, List.length_nil]; omega))) rfl ?_
      refine AL.p (by first | exact as1 rfl | exact as2 rfl | exact as3 rfl | exact as4 rfl | exact as5 rfl | exact as6 rfl | exact as7 rfl | exact as8 rfl | exact as9 rfl) rfl ?_
      refine AL.nil ?_
      refine th_n ?_
      refine ⟨(i + 1, V.set (i * 2) (.int .i64 (k + (sumL wE (ts.take i) : Nat)))), ⟨hi1, by rw [List.length_set]; exact hV⟩, by dsimp only; omega, Weak.ren _ [(100, 100), (101, 101)] hC rfl (by dsimp only; repeat (first | exact True.intro | refine And.intro ?_ ?_ | exact DLead.same | exact DLead.eqI (by omega) | exact DLead.nil | exact rfl | refine ⟨_, _, rfl, rfl, ?_⟩ | refine ⟨_, rfl, ?_⟩ | refine ⟨_, _, rfl, ?_, ?_⟩)) ?_ rfl rfl rfl⟩
      dsimp only
      have e1 := set_flat hrM hM (j := 0) (d := dI (k + (sumL wE (ts.take i) : Nat))) (by omega)
      have e2 : (evsL (mkM wE mkE k (i + 1) ts)).flatten = ((evsL (mkM wE mkE k i ts)).flatten.set (i * 2) (dI (k + (sumL wE (ts.take i) : Nat)))).set (i * 2 + 1) (vI (seqI (k + (sumL wE (ts.take i) : Nat) + 1) ts[i].pre.length)) := by rw [← mkM_set hi1]; rw [Nat.add_zero] at e1; rw [e1, set_flat (cs := [dI (k + (sumL wE (ts.take i) : Nat)), vI ts[i].pre]) (sz := 2) (fun cs hc => (List.mem_or_eq_of_mem_set hc).elim (hrM cs) (fun e => by rw [e]; rfl)) (by rw [List.getElem?_set_self (List.getElem?_eq_some_iff.1 hM).1]; rfl) (by omega), List.set_set]; unfold evsL; rw [List.map_set]; rfl
      rw [e2]
      repeat (first | exact True.intro | refine And.intro ?_ ?_ | exact DLead.same | exact DLead.eqI (by omega) | exact DLead.nil | exact rfl | refine ⟨_, _, rfl, rfl, ?_⟩ | refine ⟨_, rfl, ?_⟩ | refine ⟨_, _, rfl, ?_, ?_⟩)
    · refine AC.exit ?_
      refine th_e ?_
      refine th_e ?_
      refine ib_y ?_
      refine th_n ?_
      refine AC.seq ?_
      dsimp only at hi hV ⊢
      obtain rfl : i = ts.length := by omega
      rw [mkM_all, List.take_length]
      refine AC.weak (Weak.closeT (n := 0) (els := evsL (mkL wE mkE k ts)) (V := V) (v := v) (S := S) (S' := S') (p := p) 0 0 100 101 (by rw [evsL_len, mkL_len]; rfl) rfl (fun w h => h) (by rw [evsL_len, mkL_len]; rfl) rfl (by rw [evsL_len, mkL_len]; exact hv) (by rw [evsL_len, mkL_len]; exact hp) (evsL_row _) hS rfl rfl) ?_
      refine AC.region ?_
      refine AL.p (by first | exact mv1 rfl | exact mv2 rfl | exact mv3 rfl | exact mv4 rfl | exact mv5 rfl | exact mv6 rfl | exact mv7 rfl | exact mv8 rfl | exact mv9 rfl) rfl ?_
      refine AL.p (by first | exact as1 rfl | exact as2 rfl | exact as3 rfl | exact as4 rfl | exact as5 rfl | exact as6 rfl | exact as7 rfl | exact as8 rfl | exact as9 rfl) rfl ?_
      refine AL.nil ?_
      refine th_n ?_
      refine AC.ret ?_
      refine bq_r ?_
      exact retX [] rfl ⟨rfl, rfl⟩ (by repeat (first | exact True.intro | refine And.intro ?_ ?_ | exact DLead.same | exact DLead.eqI (by omega) | exact DLead.nil | exact rfl | refine ⟨_, _, rfl, rfl, ?_⟩ | refine ⟨_, rfl, ?_⟩ | refine ⟨_, _, rfl, ?_, ?_⟩)) (by repeat (first | exact True.intro | refine And.intro ?_ ?_ | exact DLead.same | exact DLead.eqI (by omega) | exact DLead.nil | exact rfl | refine ⟨_, _, rfl, rfl, ?_⟩ | refine ⟨_, rfl, ?_⟩ | refine ⟨_, _, rfl, ?_, ?_⟩)) rfl rfl
theorem en_markEvS : Enters Tryz.prog 46 := enters_of Tryz.func46 rfl rfl
set_option maxHeartbeats 2000000 in
theorem markUnf_T (cs : List Cond) (es : List Ev) (k : Int) (hc : cs.length ≤ 1048576) (hl : es.length ≤ 1048576) (hb : ∀ t, t ∈ es → t.pre.length ≤ 1048576) (hk : 0 ≤ k ∧ k + (sumL wC cs : Nat) + (sumL wE es : Nat) ≤ 1073741824) (v1 v2 : Value) (S : Nat → Prop) : ASpec Tryz.prog 16 [.agg [.d (.val v1), .d (.val v2)], aI k] [(0, .pred S fun w => TL w S [vCs cs, vEs es] [v1, v2])] (Fun1 (aI (k + (sumL wC cs : Nat) + (sumL wE es : Nat))) [(0, .pred S fun w => TL w S [vCs (mkL wC mkC k cs), vEs (mkL wE mkE (k + (sumL wC cs : Nat)) es)] [v1, v2])]) := by
  refine ASpec.of Tryz.func16 rfl rfl fun C hC => ?_
  refine AC.seq ?_
  refine AC.region ?_
  refine AL.q (by exact h_boxF rfl rfl) rfl ?_
  refine AL.p (by first | exact as1 rfl | exact as2 rfl | exact as3 rfl | exact as4 rfl | exact as5 rfl | exact as6 rfl | exact as7 rfl | exact as8 rfl | exact as9 rfl) rfl ?_
  refine AL.nil ?_
  refine th_n ?_
  refine AC.seq ?_
  refine AC.region ?_
  refine AL.p (by first | exact g_fa_ref rfl rfl rfl rfl rfl rfl | exact g_fa_ptr rfl rfl rfl rfl rfl) rfl ?_
  refine AL.p (by first | exact g_load_ref rfl rfl rfl | exact g_load_ptr rfl rfl rfl rfl rfl | exact g_load_refN rfl rfl rfl rfl | exact g_load_ptrN rfl rfl rfl rfl rfl | exact g_load_arr1 rfl rfl rfl rfl (by assumption) | exact g_load_arr rfl rfl rfl rfl (by first | rfl | omega) (by first | assumption | rfl) (by first | assumption | rfl)) rfl ?_
  refine AL.p (by first | exact mv1 rfl | exact mv2 rfl | exact mv3 rfl | exact mv4 rfl | exact mv5 rfl | exact mv6 rfl | exact mv7 rfl | exact mv8 rfl | exact mv9 rfl) rfl ?_
  refine AL.weakR (WeakR.splitT 0 0 (d := vCs cs) (v := v1) rfl (fun w h => h) rfl rfl rfl) ?_
  rintro _ ⟨S1, S2, hSS, rfl⟩
  refine AL.q (by exact h_fun (cs := [9]) en_markCondS rfl rfl (by repeat (first | exact rfl | exact DLead.same | exact DLead.nil | refine ⟨_, _, rfl, ?_, ?_⟩ | refine ⟨_, rfl, ?_⟩)) (by repeat (first | exact True.intro | refine And.intro ?_ ?_ | exact DLead.same | exact DLead.eqI (by omega) | exact DLead.nil | exact rfl | refine ⟨_, _, rfl, rfl, ?_⟩ | refine ⟨_, rfl, ?_⟩ | refine ⟨_, _, rfl, ?_, ?_⟩)) (markCondS_T cs k hc (by omega) v1 S1) rfl rfl rfl rfl) rfl ?_
  refine AL.weak (Weak.joinT (S := S) (d := vCs (mkL wC mkC k cs)) (v := v1) 0 9 0 rfl rfl (fun w h => h) hSS (by simp) rfl rfl) ?_
  refine AL.p (by first | exact as1 rfl | exact as2 rfl | exact as3 rfl | exact as4 rfl | exact as5 rfl | exact as6 rfl | exact as7 rfl | exact as8 rfl | exact as9 rfl) rfl ?_
  refine AL.nil ?_
  refine th_n ?_
  refine AC.seq ?_
  refine AC.region ?_
  refine AL.p (by first | exact g_fa_ref rfl rfl rfl rfl rfl rfl | exact g_fa_ptr rfl rfl rfl rfl rfl) rfl ?_
  refine AL.p (by first | exact g_load_ref rfl rfl rfl | exact g_load_ptr rfl rfl rfl rfl rfl | exact g_load_refN rfl rfl rfl rfl | exact g_load_ptrN rfl rfl rfl rfl rfl | exact g_load_arr1 rfl rfl rfl rfl (by assumption) | exact g_load_arr rfl rfl rfl rfl (by first | rfl | omega) (by first | assumption | rfl) (by first | assumption | rfl)) rfl ?_
  refine AL.p (by first | exact mv1 rfl | exact mv2 rfl | exact mv3 rfl | exact mv4 rfl | exact mv5 rfl | exact mv6 rfl | exact mv7 rfl | exact mv8 rfl | exact mv9 rfl) rfl ?_
  refine AL.weakR (WeakR.splitT 0 1 (d := vEs es) (v := v2) rfl (fun w h => h) rfl rfl rfl) ?_
  rintro _ ⟨S3, S4, hSS2, rfl⟩
  refine AL.q (by exact h_fun (cs := [25]) en_markEvS rfl rfl (by repeat (first | exact rfl | exact DLead.same | exact DLead.nil | refine ⟨_, _, rfl, ?_, ?_⟩ | refine ⟨_, rfl, ?_⟩)) (by repeat (first | exact True.intro | refine And.intro ?_ ?_ | exact DLead.same | exact DLead.eqI (by omega) | exact DLead.nil | exact rfl | refine ⟨_, _, rfl, rfl, ?_⟩ | refine ⟨_, rfl, ?_⟩ | refine ⟨_, _, rfl, ?_, ?_⟩)) (markEvS_T es _ hl hb (by omega) v2 S3) rfl rfl rfl rfl) rfl ?_
  refine AL.weak (Weak.joinT (S := S) (d := vEs (mkL wE mkE (k + (sumL wC cs : Nat)) es)) (v := v2) 0 25 1 rfl rfl (fun w h => h) hSS2 (by simp) rfl rfl) ?_
  refine AL.p (by first | exact as1 rfl | exact as2 rfl | exact as3 rfl | exact as4 rfl | exact as5 rfl | exact as6 rfl | exact as7 rfl | exact as8 rfl | exact as9 rfl) rfl ?_
  refine AL.nil ?_
  refine th_n ?_
  refine AC.seq ?_
  refine AC.region ?_
  refine AL.p (by first | exact mv1 rfl | exact mv2 rfl | exact mv3 rfl | exact mv4 rfl | exact mv5 rfl | exact mv6 rfl | exact mv7 rfl | exact mv8 rfl | exact mv9 rfl) rfl ?_
  refine AL.p (by first | exact as1 rfl | exact as2 rfl | exact as3 rfl | exact as4 rfl | exact as5 rfl | exact as6 rfl | exact as7 rfl | exact as8 rfl | exact as9 rfl) rfl ?_
  refine AL.nil ?_
  refine th_n ?_
  refine AC.ret ?_
  refine bq_r ?_
  exact retX [] rfl ⟨rfl, rfl⟩ (by repeat (first | exact True.intro | refine And.intro ?_ ?_ | exact DLead.same | exact DLead.eqI (by omega) | exact DLead.nil | exact rfl | refine ⟨_, _, rfl, rfl, ?_⟩ | refine ⟨_, rfl, ?_⟩ | refine ⟨_, _, rfl, ?_, ?_⟩)) (by repeat (first | exact True.intro | refine And.intro ?_ ?_ | exact DLead.same | exact DLead.eqI (by omega) | exact DLead.nil | exact rfl | refine ⟨_, _, rfl, rfl, ?_⟩ | refine ⟨_, rfl, ?_⟩ | refine ⟨_, _, rfl, ?_, ?_⟩)) rfl rfl
theorem en_markUnf : Enters Tryz.prog 16 := enters_of Tryz.func16 rfl rfl

set_option linter.all false
set_option maxRecDepth 20000
end Go.Proofs.YtolfgbcnielnoaaGreat
namespace Go.Proofs.YtolfgbcnielnoaaGreat
open Go.RowKit

theorem past_srtd (u : Unf) (S : List Int) : srtd (pastI u S) := by
  unfold pastI flagL srtd
  rw [List.pairwise_map]
  refine ((List.pairwise_lt_range (n := u.es.length)).filter _).imp ?_
  intro a b h
  omega
def setI (l : List Int) : ES := l.foldl (fun a e => a ||| bitU e.toNat) 0
theorem setI_take {l : List Int} {k : Nat} (hk : k < l.length) : setI (l.take (k + 1)) = setI (l.take k) ||| bitU l[k].toNat := by
  unfold setI
  rw [List.take_add_one, List.getElem?_eq_getElem hk, List.foldl_append]; rfl
theorem setF_bit (f : Nat) : ∀ (l : List Int) (a : ES), (∀ e, e ∈ l → 0 ≤ e ∧ e < 64) → ((l.foldl (fun a e => a ||| bitU e.toNat) a).getLsbD f = true ↔ (a.getLsbD f = true ∨ (f : Int) ∈ l))
  | [], a, _ => by simp
  | e :: l, a, h => by
    have he := h e List.mem_cons_self
    rw [List.foldl_cons, setF_bit f l _ (fun x hx => h x (List.mem_cons_of_mem _ hx)), BitVec.getLsbD_or, Bool.or_eq_true, bitU_get (by omega), decide_eq_true_eq, List.mem_cons]
    constructor
    · rintro ((q | q) | q)
      · exact .inl q
      · exact .inr (.inl (by omega))
      · exact .inr (.inr q)
    · rintro (q | q | q)
      · exact .inl (.inl q)
      · exact .inl (.inr (by omega))
      · exact .inr q
theorem setI_bit {l : List Int} (h : ∀ e, e ∈ l → 0 ≤ e ∧ e < 64) (f : Nat) : (setI l).getLsbD f = true ↔ (f : Int) ∈ l := by
  unfold setI; rw [setF_bit f l 0 h]; simp
theorem setOf_spec (l : List Int) (hl : l.length ≤ 2000000) (hin : ∀ e, e ∈ l → 0 ≤ e ∧ e < 64) : ASpec Tryz.prog 78 [.d (vI l)] [] (Pure1 (aU (setI l))) := by
  refine ASpec.of Tryz.func78 rfl rfl fun C hC => ?_
  refine AC.seq ?_
  refine AC.region ?_
  refine AL.p (by first | exact as1 rfl | exact as2 rfl | exact as3 rfl | exact as4 rfl | exact as5 rfl | exact as6 rfl | exact as7 rfl | exact as8 rfl | exact as9 rfl) rfl ?_
  refine AL.nil ?_
  refine th_n ?_
  refine AC.seq ?_
  refine AC.region ?_
  refine AL.p (by first | exact as1 rfl | exact as2 rfl | exact as3 rfl | exact as4 rfl | exact as5 rfl | exact as6 rfl | exact as7 rfl | exact as8 rfl | exact as9 rfl) rfl ?_
  refine AL.nil ?_
  refine th_n ?_
  refine AC.seq ?_
  refine AC.seq ?_
  refine AC.region ?_
  refine AL.p (by first | exact mv1 rfl | exact mv2 rfl | exact mv3 rfl | exact mv4 rfl | exact mv5 rfl | exact mv6 rfl | exact mv7 rfl | exact mv8 rfl | exact mv9 rfl) rfl ?_
  refine AL.p (by first | exact g_len_view rfl rfl (by first | exact List.length_map _ | rfl) | exact g_len_str rfl rfl rfl | exact g_len_nil rfl rfl | exact g_len_own (sz := 1) (els := []) (e' := 0) rfl rfl (by simp only [maxLen]; omega) | exact g_len_tight rfl rfl (by first | exact List.length_map _ | rfl)) rfl ?_
  refine AL.p (by first | exact mv1 rfl | exact mv2 rfl | exact mv3 rfl | exact mv4 rfl | exact mv5 rfl | exact mv6 rfl | exact mv7 rfl | exact mv8 rfl | exact mv9 rfl) rfl ?_
  refine AL.nil ?_
  refine th_n ?_
  refine AC.block ?_
  refine AC.loop (ι := Nat) (fun k => ⟨18, 8, [(3, aU (setI (l.take k))), (6, .d (vI l)), (7, aI l.length), (8, aI k)], []⟩) (fun k => k ≤ l.length) (fun k => l.length - k) (0) ?_ (Nat.zero_le _) ?_
  · exact Weak.ren _ [] hC rfl (by repeat (first | exact True.intro | refine And.intro ?_ ?_ | exact DLead.same | exact DLead.eqI (by omega) | exact DLead.nil | exact rfl | refine ⟨_, _, rfl, rfl, ?_⟩ | refine ⟨_, rfl, ?_⟩ | refine ⟨_, _, rfl, ?_, ?_⟩)) (by repeat (first | exact True.intro | refine And.intro ?_ ?_ | exact DLead.same | exact DLead.eqI (by omega) | exact DLead.nil | exact rfl | refine ⟨_, _, rfl, rfl, ?_⟩ | refine ⟨_, rfl, ?_⟩ | refine ⟨_, _, rfl, ?_, ?_⟩)) rfl rfl rfl
  · intro k hk
    refine AC.seq ?_
    refine AC.region ?_
    refine AL.p (by first | exact g_cmp rfl rfl rfl | exact g_scmp rfl rfl rfl | exact g_eqB rfl rfl rfl | exact g_neB rfl rfl rfl) rfl ?_
    refine AL.nil ?_
    refine th_n ?_
    refine AC.seq ?_
    first | refine AC.condD rfl (fun h0 => ?_) (fun h0 => ?_) | refine AC.condND rfl (fun h0 => ?_) (fun h0 => ?_) | refine AC.condB rfl (fun h0 => ?_) (fun h0 => ?_) | refine AC.condNB rfl (fun h0 => ?_) (fun h0 => ?_)
    · refine AC.skip ?_
      refine th_n ?_
      refine AC.seq ?_
      refine AC.block ?_
      refine AC.seq ?_
      have hk1 : k < l.length := by omega
      have hget := ints_at hk1
      have hi0 := hin _ (List.getElem_mem hk1)
      obtain ⟨i, hi⟩ : ∃ i : Nat, l[k] = (i : Int) := ⟨l[k].toNat, by omega⟩
      have hst := setI_take hk1
      rw [hi, Int.toNat_natCast] at hst
      rw [hi] at hget
      refine AC.region ?_
      refine AL.p (by first | exact g_ia_view rfl rfl rfl rfl rfl (by first | rfl | assumption) (by first | assumption | rfl) | exact g_ia_own rfl rfl rfl rfl rfl (by first | rfl | assumption) (by omega) (by first | exact Nat.mul_one _ | rfl | omega)) rfl ?_
      refine AL.p (by first | exact g_load_ref rfl rfl rfl | exact g_load_ptr rfl rfl rfl rfl rfl | exact g_load_refN rfl rfl rfl rfl | exact g_load_ptrN rfl rfl rfl rfl rfl | exact g_load_arr1 rfl rfl rfl rfl (by assumption) | exact g_load_arr rfl rfl rfl rfl (by first | rfl | omega) (by first | assumption | rfl) (by first | assumption | rfl)) rfl ?_
      refine AL.p (by first | exact as1 rfl | exact as2 rfl | exact as3 rfl | exact as4 rfl | exact as5 rfl | exact as6 rfl | exact as7 rfl | exact as8 rfl | exact as9 rfl) rfl ?_
      refine AL.nil ?_
      refine th_n ?_
      refine AC.region ?_
      refine AL.p (by first | exact mv1 rfl | exact mv2 rfl | exact mv3 rfl | exact mv4 rfl | exact mv5 rfl | exact mv6 rfl | exact mv7 rfl | exact mv8 rfl | exact mv9 rfl) rfl ?_
      refine AL.p (by first | exact mv1 rfl | exact mv2 rfl | exact mv3 rfl | exact mv4 rfl | exact mv5 rfl | exact mv6 rfl | exact mv7 rfl | exact mv8 rfl | exact mv9 rfl) rfl ?_
      refine AL.p (by exact g_shl64 rfl rfl (by omega)) rfl ?_
      refine AL.p (by exact g_or64 rfl rfl) rfl ?_
      refine AL.p (by first | exact as1 rfl | exact as2 rfl | exact as3 rfl | exact as4 rfl | exact as5 rfl | exact as6 rfl | exact as7 rfl | exact as8 rfl | exact as9 rfl) rfl ?_
      refine AL.nil ?_
      refine ib_n ?_
      refine th_n ?_
      refine AC.region ?_
      refine AL.p (by first | exact g_arith rfl rfl rfl (by first | exact wrap_i64 (by omega) | exact wrap_u8 (by omega) | exact wrap_u64 (by omega) | rfl) | exact g_sadd rfl rfl (by first | assumption | omega | (simp only [ByteArray.size_append, bstr_size, List.length_take, List.length_drop, List.length_cons, List.length_nil]; omega))) rfl ?_
      refine AL.p (by first | exact mv1 rfl | exact mv2 rfl | exact mv3 rfl | exact mv4 rfl | exact mv5 rfl | exact mv6 rfl | exact mv7 rfl | exact mv8 rfl | exact mv9 rfl) rfl ?_
      refine AL.nil ?_
      refine th_n ?_
      exact ⟨k + 1, by omega, by omega, Weak.ren _ [] hC rfl (by rw [hst]; repeat (first | exact True.intro | refine And.intro ?_ ?_ | exact DLead.same | exact DLead.eqI (by omega) | exact DLead.nil | exact rfl | refine ⟨_, _, rfl, rfl, ?_⟩ | refine ⟨_, rfl, ?_⟩ | refine ⟨_, _, rfl, ?_, ?_⟩)) (by repeat (first | exact True.intro | refine And.intro ?_ ?_ | exact DLead.same | exact DLead.eqI (by omega) | exact DLead.nil | exact rfl | refine ⟨_, _, rfl, rfl, ?_⟩ | refine ⟨_, rfl, ?_⟩ | refine ⟨_, _, rfl, ?_, ?_⟩)) rfl rfl rfl⟩
    · refine AC.exit ?_
      refine th_e ?_
      refine th_e ?_
      refine ib_y ?_
      refine th_n ?_
      refine AC.seq ?_
      refine AC.region ?_
      refine AL.p (by first | exact mv1 rfl | exact mv2 rfl | exact mv3 rfl | exact mv4 rfl | exact mv5 rfl | exact mv6 rfl | exact mv7 rfl | exact mv8 rfl | exact mv9 rfl) rfl ?_
      refine AL.p (by first | exact as1 rfl | exact as2 rfl | exact as3 rfl | exact as4 rfl | exact as5 rfl | exact as6 rfl | exact as7 rfl | exact as8 rfl | exact as9 rfl) rfl ?_
      refine AL.nil ?_
      refine th_n ?_
      refine AC.ret ?_
      refine bq_r ?_
      have hkk : k = l.length := by omega
      subst hkk
      exact ret1 rfl (by rw [List.take_length])
theorem en_setOf : Enters Tryz.prog 78 := enters_of Tryz.func78 rfl rfl
def locOut (L : List ES) (s : ES) (e : Int) : Bool := !decide (((((L.getD e.toNat 0) &&& ~~~ s).toNat : Nat) : Int) = 0)
theorem brConf1_spec (N : Net) (u : Unf) (L A : List ES) (s : ES) (e : Int) (h0 : 0 ≤ e) (he : e < L.length) (hl : L.length ≤ 1000) : ASpec Tryz.prog 110 [aI e, .d (.ref [.ref (brD N u L A)]), .d (.ref [dU s])] [] (Pure1 (aT (locOut L s e))) := by
  obtain ⟨i, rfl⟩ : ∃ i : Nat, e = (i : Int) := ⟨e.toNat, by omega⟩
  have hi : i < L.length := by omega
  have hget := vES_get hi
  have hA : L.getD i 0 = L[i] := by rw [List.getD_eq_getElem?_getD, List.getElem?_eq_getElem hi]; rfl
  refine ASpec.of Tryz.func110 rfl rfl fun C hC => ?_
  refine AC.seq ?_
  refine AC.region ?_
  refine AL.p (by first | exact as1 rfl | exact as2 rfl | exact as3 rfl | exact as4 rfl | exact as5 rfl | exact as6 rfl | exact as7 rfl | exact as8 rfl | exact as9 rfl) rfl ?_
  refine AL.nil ?_
  refine th_n ?_
  refine AC.seq ?_
  refine AC.drawn' mixed_ok [[], [0], [0,1], [0,1,2], [], [0,1,2,3,4], [0,1,2,3,4,5], [], [0,1,2,3,4,5,6,7], [0,1,2,3,4,5,6,7,8], [0,1,2,3,4,5,6,7,8,9]] (by decide) ?_
  refine DF.op 0 [] 11 rfl rfl rfl (.free rfl (NOp.of (by first | exact g_load_ref rfl rfl rfl | exact g_load_ptr rfl rfl rfl rfl rfl | exact g_load_refN rfl rfl rfl rfl | exact g_load_ptrN rfl rfl rfl rfl rfl | exact g_load_arr1 rfl rfl rfl rfl (by assumption) | exact g_load_arr rfl rfl rfl rfl (by first | rfl | omega) (by first | assumption | rfl) (by first | assumption | rfl)))) rfl ?_
  refine DF.op 1 [0] 11 rfl rfl rfl (.free rfl (NOp.of (by first | exact g_nilP rfl | exact g_nilR rfl))) rfl ?_
  refine DF.op 2 [0,1] 11 rfl rfl rfl (.free rfl (NOp.of (by first | exact g_fa_ref rfl rfl rfl rfl rfl rfl | exact g_fa_ptr rfl rfl rfl rfl rfl))) rfl ?_
  refine DF.op 3 [0,1,2] 11 rfl rfl rfl (.free rfl (NOp.of (by first | exact g_load_ref rfl rfl rfl | exact g_load_ptr rfl rfl rfl rfl rfl | exact g_load_refN rfl rfl rfl rfl | exact g_load_ptrN rfl rfl rfl rfl rfl | exact g_load_arr1 rfl rfl rfl rfl (by assumption) | exact g_load_arr rfl rfl rfl rfl (by first | rfl | omega) (by first | assumption | rfl) (by first | assumption | rfl)))) rfl ?_
  refine DF.op 4 [] 11 rfl rfl rfl (.free rfl (NOp.of (by first | exact mv1 rfl | exact mv2 rfl | exact mv3 rfl | exact mv4 rfl | exact mv5 rfl | exact mv6 rfl | exact mv7 rfl | exact mv8 rfl | exact mv9 rfl))) rfl ?_
  refine DF.op 5 [0,1,2,3,4] 11 rfl rfl rfl (.free rfl (NOp.of (by first | exact g_ia_view rfl rfl rfl rfl rfl (by first | rfl | assumption) (by first | assumption | rfl) | exact g_ia_own rfl rfl rfl rfl rfl (by first | rfl | assumption) (by omega) (by first | exact Nat.mul_one _ | rfl | omega)))) rfl ?_
  refine DF.op 6 [0,1,2,3,4,5] 11 rfl rfl rfl (.free rfl (NOp.of (by first | exact g_load_ref rfl rfl rfl | exact g_load_ptr rfl rfl rfl rfl rfl | exact g_load_refN rfl rfl rfl rfl | exact g_load_ptrN rfl rfl rfl rfl rfl | exact g_load_arr1 rfl rfl rfl rfl (by assumption) | exact g_load_arr rfl rfl rfl rfl (by first | rfl | omega) (by first | assumption | rfl) (by first | assumption | rfl)))) rfl ?_
  refine DF.op 7 [] 11 rfl rfl rfl (.free rfl (NOp.of (by first | exact g_load_ref rfl rfl rfl | exact g_load_ptr rfl rfl rfl rfl rfl | exact g_load_refN rfl rfl rfl rfl | exact g_load_ptrN rfl rfl rfl rfl rfl | exact g_load_arr1 rfl rfl rfl rfl (by assumption) | exact g_load_arr rfl rfl rfl rfl (by first | rfl | omega) (by first | assumption | rfl) (by first | assumption | rfl)))) rfl ?_
  refine DF.op 8 [0,1,2,3,4,5,6,7] 11 rfl rfl rfl (.free rfl (NOp.of (by exact g_andNot64 rfl rfl))) rfl ?_
  refine DF.op 9 [0,1,2,3,4,5,6,7,8] 11 rfl rfl rfl (.free rfl (NOp.of (by first | exact g_cmp rfl rfl rfl | exact g_scmp rfl rfl rfl | exact g_eqB rfl rfl rfl | exact g_neB rfl rfl rfl))) rfl ?_
  refine DF.op 10 [0,1,2,3,4,5,6,7,8,9] 11 rfl rfl rfl (.free rfl (NOp.of (by first | exact as1 rfl | exact as2 rfl | exact as3 rfl | exact as4 rfl | exact as5 rfl | exact as6 rfl | exact as7 rfl | exact as8 rfl | exact as9 rfl))) rfl ?_
  refine DF.fin (ps := [(0, 4), (0, 7), (1, 4), (1, 7), (2, 4), (2, 7), (3, 4), (3, 7), (4, 0), (4, 1), (4, 2), (4, 3), (4, 7), (5, 7), (6, 7), (7, 0), (7, 1), (7, 2), (7, 3), (7, 4), (7, 5), (7, 6)]) 11 rfl (by decide +kernel) (by decide +kernel) (by rfl) ?_
  refine th_n ?_
  refine AC.ret ?_
  refine bq_r ?_
  exact ret1 rfl (by rw [locOut, Int.toNat_natCast, hA])
theorem en_brConf1 : Enters Tryz.prog 110 := enters_of Tryz.func110 rfl rfl
def confJ (L A : List ES) (s : ES) : Bool := !clashI A s && !(listI s).any (locOut L s)
set_option maxHeartbeats 1000000 in
theorem brConf_spec (N : Net) (u : Unf) (L A : List ES) (s : ES) (hW : WB u L A) (hs : subU s u.es.length) : ASpec Tryz.prog 94 [.d (.ref (brD N u L A)), aU s] [] (Pure1 (aT (confJ L A s))) := by
  have hl := listI_len s
  have hLl := hW.l
  have hAl := hW.a
  have hel := hW.e
  have hCl := brClash_spec N u L A s (by rw [hAl]; exact hs) (by omega)
  have hCC := containsInt_spec (listI s) (by omega) 110 [.ref [.ref (brD N u L A)], .ref [dU s]] en_brConf1 (locOut L s) (fun p h => brConf1_spec N u L A s p (listI_sub hs p h).1 (by have := (listI_sub hs p h).2; omega) (by omega))
  have hE := esList_spec s
  obtain ⟨cl, hcl⟩ : ∃ b, b = clashI A s := ⟨_, rfl⟩
  obtain ⟨co, hco⟩ : ∃ b, b = (listI s).any (locOut L s) := ⟨_, rfl⟩
  have hJ : confJ L A s = (!cl && !co) := by rw [hcl, hco]; rfl
  rw [← hcl] at hCl
  rw [← hco] at hCC
  refine ASpec.of Tryz.func94 rfl rfl fun C hC => ?_
  refine AC.seq ?_
  refine AC.region ?_
  refine AL.q (by exact h_boxF rfl rfl) rfl ?_
  refine AL.q (by exact h_boxF rfl rfl) rfl ?_
  refine AL.p (by first | exact as1 rfl | exact as2 rfl | exact as3 rfl | exact as4 rfl | exact as5 rfl | exact as6 rfl | exact as7 rfl | exact as8 rfl | exact as9 rfl) rfl ?_
  refine AL.nil ?_
  refine th_n ?_
  refine AC.seq ?_
  refine AC.region ?_
  refine AL.p (by first | exact g_load_ref rfl rfl rfl | exact g_load_ptr rfl rfl rfl rfl rfl | exact g_load_refN rfl rfl rfl rfl | exact g_load_ptrN rfl rfl rfl rfl rfl | exact g_load_arr1 rfl rfl rfl rfl (by assumption) | exact g_load_arr rfl rfl rfl rfl (by first | rfl | omega) (by first | assumption | rfl) (by first | assumption | rfl)) rfl ?_
  refine AL.p (by first | exact g_load_ref rfl rfl rfl | exact g_load_ptr rfl rfl rfl rfl rfl | exact g_load_refN rfl rfl rfl rfl | exact g_load_ptrN rfl rfl rfl rfl rfl | exact g_load_arr1 rfl rfl rfl rfl (by assumption) | exact g_load_arr rfl rfl rfl rfl (by first | rfl | omega) (by first | assumption | rfl) (by first | assumption | rfl)) rfl ?_
  refine AL.q (by exact h_pure en_brClash rfl rfl (by repeat (first | exact rfl | exact DLead.same | exact DLead.nil | refine ⟨_, _, rfl, ?_, ?_⟩ | refine ⟨_, rfl, ?_⟩)) hCl rfl) rfl ?_
  refine AL.p (by first | exact g_not rfl | exact g_neg rfl (by first | exact wrap_i64 (by omega) | exact wrap_u8 (by omega) | exact wrap_u64 (by omega) | rfl)) rfl ?_
  refine AL.p (by first | exact mv1 rfl | exact mv2 rfl | exact mv3 rfl | exact mv4 rfl | exact mv5 rfl | exact mv6 rfl | exact mv7 rfl | exact mv8 rfl | exact mv9 rfl) rfl ?_
  first | refine AL.caseG rfl rfl (fun h0 => ?_) (fun h0 => ?_) | refine AL.caseGN rfl rfl (fun h0 => ?_) (fun h0 => ?_) | refine AL.caseGB rfl rfl (fun h0 => ?_) (fun h0 => ?_) | refine AL.caseGNB rfl rfl (fun h0 => ?_) (fun h0 => ?_)
  · refine AL.yes rfl rfl rfl ?_
    refine AL.p (by first | exact g_load_ref rfl rfl rfl | exact g_load_ptr rfl rfl rfl rfl rfl | exact g_load_refN rfl rfl rfl rfl | exact g_load_ptrN rfl rfl rfl rfl rfl | exact g_load_arr1 rfl rfl rfl rfl (by assumption) | exact g_load_arr rfl rfl rfl rfl (by first | rfl | omega) (by first | assumption | rfl) (by first | assumption | rfl)) rfl ?_
    refine AL.yes rfl rfl rfl ?_
    refine AL.q (by exact h_pure en_esList rfl rfl (by repeat (first | exact rfl | exact DLead.same | exact DLead.nil | refine ⟨_, _, rfl, ?_, ?_⟩ | refine ⟨_, rfl, ?_⟩)) hE rfl) rfl ?_
    refine AL.yes rfl rfl rfl ?_
    refine AL.p (by exact g_fn rfl) rfl ?_
    refine AL.yes rfl rfl rfl ?_
    refine AL.q (by exact h_pure en_containsInt rfl rfl (by repeat (first | exact rfl | exact DLead.same | exact DLead.nil | refine ⟨_, _, rfl, ?_, ?_⟩ | refine ⟨_, rfl, ?_⟩)) hCC rfl) rfl ?_
    refine AL.yes rfl rfl rfl ?_
    refine AL.p (by first | exact g_not rfl | exact g_neg rfl (by first | exact wrap_i64 (by omega) | exact wrap_u8 (by omega) | exact wrap_u64 (by omega) | rfl)) rfl ?_
    refine AL.p (by first | exact g_pickT (r := .d _) rfl rfl | exact g_pickF (r := .d _) rfl rfl) rfl ?_
    refine AL.p (by first | exact as1 rfl | exact as2 rfl | exact as3 rfl | exact as4 rfl | exact as5 rfl | exact as6 rfl | exact as7 rfl | exact as8 rfl | exact as9 rfl) rfl ?_
    refine AL.nil ?_
    refine th_n ?_
    refine AC.ret ?_
    refine bq_r ?_
    first | exact ret1 rfl (by rw [hJ, h0]; rfl) | exact ret1 rfl (by rw [hJ]; simp [h0])
  · refine AL.not rfl rfl rfl rfl rfl ?_
    refine AL.not rfl rfl rfl rfl rfl ?_
    refine AL.not rfl rfl rfl rfl rfl ?_
    refine AL.not rfl rfl rfl rfl rfl ?_
    refine AL.not rfl rfl rfl rfl rfl ?_
    refine AL.p (by first | exact g_pickT (r := .d _) rfl rfl | exact g_pickF (r := .d _) rfl rfl) rfl ?_
    refine AL.p (by first | exact as1 rfl | exact as2 rfl | exact as3 rfl | exact as4 rfl | exact as5 rfl | exact as6 rfl | exact as7 rfl | exact as8 rfl | exact as9 rfl) rfl ?_
    refine AL.nil ?_
    refine th_n ?_
    refine AC.ret ?_
    refine bq_r ?_
    first | exact ret1 rfl (by rw [hJ, h0]; rfl) | exact ret1 rfl (by rw [hJ]; simp [h0])
theorem en_brConf : Enters Tryz.prog 94 := enters_of Tryz.func94 rfl rfl
def confI (u : Unf) (l : List Int) : Bool := decide (pastI u l = l) && freeI u l
/-- Configurations, one way as the other. -/
theorem conf_both {u : Unf} {L A : List ES} (hT : Tru u L A) {l : List Int} (hr : rising l 0 ((u.es.length : Int) - 1) = true) : confJ L A (setI l) = confI u l := by
  have hin : ∀ e, e ∈ l → 0 ≤ e ∧ e < u.es.length := fun e he => by have := rising_in hr e he; omega
  have hel := hT.w.e
  have hb := fun f => setI_bit (l := l) (fun e he => by have := hin e he; omega) f
  have hsub : subU (setI l) u.es.length := fun f hf => by have := hin _ ((hb f).1 hf); omega
  have hin2 : ∀ f : Nat, (f : Int) ∈ l → Rch u l f := fun f hf => .base hf (by have := hin _ hf; omega)
  have hcl : (listI (setI l)).any (locOut L (setI l)) = false ↔ pastI u l = l := by
    constructor
    · intro h
      rw [List.any_eq_false] at h
      refine srtd_ext (past_srtd u l) (rising_srtd hr) fun x => ?_
      rw [mem_past hT.o]
      constructor
      · rintro ⟨f, rfl, hf⟩
        obtain ⟨s, hs, hr2⟩ := hf.one
        have hsi := hin s hs
        obtain ⟨i, rfl⟩ : ∃ i : Nat, s = i := ⟨s.toNat, by omega⟩
        have h2 := h (i : Int) (mem_listI.2 ⟨i, rfl, (hb i).2 hs⟩)
        have h3 := (hT.l i (by omega) f).2 hr2
        apply Classical.byContradiction
        intro hno
        apply h2
        unfold locOut
        rw [Int.toNat_natCast, and_ne]
        refine ⟨f, h3, ?_⟩
        have hf64 := BitVec.lt_of_getLsbD h3
        rw [BitVec.getLsbD_not]
        have : (setI l).getLsbD f = false := by rw [← Bool.not_eq_true, hb f]; exact hno
        rw [this]; simp [hf64]
      · intro hx
        have := hin x hx
        exact ⟨x.toNat, by omega, hin2 _ (by rw [Int.toNat_of_nonneg this.1]; exact hx)⟩
    · intro h
      rw [List.any_eq_false]
      intro x hx hlo
      obtain ⟨i, rfl, hi⟩ := mem_listI.1 hx
      unfold locOut at hlo
      rw [Int.toNat_natCast, and_ne] at hlo
      obtain ⟨f, h1, h2⟩ := hlo
      have him := (hb i).1 hi
      have h3 := (hT.l i (hsub i hi) f).1 h1
      have h4 : (f : Int) ∈ pastI u l := (mem_past hT.o).2 ⟨f, rfl, h3.mono fun s hs _ => by rw [List.mem_singleton] at hs; subst hs; exact him⟩
      rw [h] at h4
      have h5 := (hb f).2 h4
      rw [BitVec.getLsbD_not, h5] at h2
      simp at h2
  unfold confJ confI
  by_cases hp : pastI u l = l
  · have hbr : ∀ f, (setI l).getLsbD f = true ↔ Rch u l f := by
      intro f
      rw [hb f]
      constructor
      · exact hin2 f
      · intro h
        have : (f : Int) ∈ pastI u l := (mem_past hT.o).2 ⟨f, rfl, h⟩
        rw [hp] at this; exact this
    rw [hcl.2 hp, clash_free hT hbr, hp, decide_eq_true rfl]
    cases freeI u l <;> rfl
  · have : (listI (setI l)).any (locOut L (setI l)) = true := by
      cases h : (listI (setI l)).any (locOut L (setI l)) with
      | true => rfl
      | false => exact absurd (hcl.1 h) hp
    rw [this, decide_eq_false hp]
    cases clashI A (setI l) <;> rfl
end Go.Proofs.YtolfgbcnielnoaaGreat

set_option linter.all false
set_option maxRecDepth 20000
namespace Go.Proofs.YtolfgbcnielnoaaGreat
open Go.RowKit

def cutQ (u : Unf) (l : List Int) (c : Nat) : Bool := (decide ((cAt u (c : Int)).by_ < 0) || hasI l (cAt u (c : Int)).by_) && !usedI u l (c : Int)
def cutK (q : Nat → Bool) (k : Nat) : List Int := ((List.range k).filter q).map (fun (c : Nat) => (c : Int))
def cutI (u : Unf) (l : List Int) : List Int := cutK (cutQ u l) u.cs.length
def cutR (u : Unf) (s : ES) (c : Nat) : Bool := (decide ((cAt u (c : Int)).by_ < 0) || s.getLsbD (cAt u (c : Int)).by_.toNat) && !consI u s (c : Int)
theorem cutK_succ (q : Nat → Bool) (k : Nat) : cutK q (k + 1) = cutK q k ++ (if q k = true then [(k : Int)] else []) := by
  unfold cutK
  rw [List.range_succ, List.filter_append, List.map_append]
  congr 1
  rw [List.filter_cons, List.filter_nil]
  split <;> rfl
theorem cutK_t {q : Nat → Bool} {k : Nat} (h : q k = true) : cutK q (k + 1) = cutK q k ++ [(k : Int)] := by rw [cutK_succ, if_pos h]
theorem cutK_f {q : Nat → Bool} {k : Nat} (h : q k = false) : cutK q (k + 1) = cutK q k := by rw [cutK_succ, h, if_neg Bool.false_ne_true, List.append_nil]
theorem cutK_len (q : Nat → Bool) (k : Nat) : (cutK q k).length ≤ k := by
  unfold cutK; rw [List.length_map]; exact Nat.le_trans (List.length_filter_le _ _) (by simp)
theorem has_list {s : ES} {l : List Int} (h : listI s = l) {x : Int} (h0 : 0 ≤ x) : hasI l x = s.getLsbD x.toNat := by
  have h1 : hasI l x = true ↔ s.getLsbD x.toNat = true := by
    rw [hasI_mem, ← h, mem_listI]
    constructor
    · rintro ⟨k, rfl, hk⟩; rw [Int.toNat_natCast]; exact hk
    · intro hk; exact ⟨x.toNat, by omega, hk⟩
  cases q1 : hasI l x <;> cases q2 : s.getLsbD x.toNat <;> simp_all
theorem cut_both {u : Unf} {s : ES} {l : List Int} (h : listI s = l) (c : Nat) : cutR u s c = cutQ u l c := by
  unfold cutR cutQ
  have h1 : consI u s (c : Int) = usedI u l (c : Int) := by
    unfold consI usedI
    rw [h]
    congr 1
    funext e
    exact uses_has u _ e
  rw [h1]
  by_cases hb : (cAt u (c : Int)).by_ < 0
  · rw [decide_eq_true hb]; rfl
  · rw [has_list h (by omega)]
theorem list_set {l : List Int} {n : Nat} (hr : rising l 0 ((n : Int) - 1) = true) (hn : n ≤ 64) : listI (setI l) = l := by
  have hin : ∀ e, e ∈ l → 0 ≤ e ∧ e < n := fun e he => by have := rising_in hr e he; omega
  refine srtd_ext ?_ (rising_srtd hr) fun x => ?_
  · unfold listI listK srtd
    rw [List.pairwise_map]
    refine ((List.pairwise_lt_range (n := 64)).filter _).imp ?_
    intro a b h
    omega
  · rw [mem_listI]
    have hb := fun f => setI_bit (l := l) (fun e he => by have := hin e he; omega) f
    constructor
    · rintro ⟨k, rfl, hk⟩; exact (hb k).1 hk
    · intro hx
      have := hin x hx
      exact ⟨x.toNat, by omega, (hb _).2 (by rw [Int.toNat_of_nonneg this.1]; exact hx)⟩
/-- The places of conditions lie in the net. -/
def PL (N : Net) (u : Unf) : Prop := ∀ c, c ∈ u.cs → 0 ≤ c.place ∧ c.place < N.places
theorem run_pl {N : Net} (hN : NetS N) : ∀ (hs : List Ev) (u now : Unf), PL N u → runI N u hs = some now → PL N now
  | [], u, now, hp, h => by rw [runI] at h; cases h; exact hp
  | x :: hs, u, now, hp, h => by
    rw [runI] at h
    split at h
    · rename_i hf
      refine run_pl hN hs _ now ?_ h
      intro c hc
      rcases List.mem_append.1 hc with h1 | h1
      · exact hp c h1
      · obtain ⟨p, hp', rfl⟩ := List.mem_map.1 h1
        have := rising_in (hN.t _ (tAt_mem (fits_inR hf))).2.2.2.2 p hp'
        show 0 ≤ p ∧ p < _
        omega
    · cases h
theorem Good.pl {N : Net} {m : List UInt8} {u : Unf} (h : Good N m u) : PL N u := by
  refine run_pl h.n _ _ _ ?_ h.r
  intro c hc
  obtain ⟨p, hp, rfl⟩ := List.mem_map.1 hc
  have := List.mem_range.1 (List.mem_filter.1 hp).1
  have := h.n.p
  show 0 ≤ (p : Int) ∧ (p : Int) < _
  omega
end Go.Proofs.YtolfgbcnielnoaaGreat

set_option linter.all false
set_option maxRecDepth 20000
namespace Go.Proofs.YtolfgbcnielnoaaGreat
open Go.RowKit

theorem c1 {q b1 b2 : Bool} (hq : q = ((true || b1) && !b2)) (h : (!b2) = true) : q = true := by rw [hq, h]; rfl
theorem c2 {q b1 b2 : Bool} (hq : q = ((true || b1) && !b2)) (h : (!b2) = false) : q = false := by rw [hq, h]; rfl
theorem c3 {q b1 b2 : Bool} (hq : q = ((false || b1) && !b2)) (h1 : b1 = true) (h : (!b2) = true) : q = true := by rw [hq, h1, h]; rfl
theorem c4 {q b1 b2 : Bool} (hq : q = ((false || b1) && !b2)) (h1 : b1 = true) (h : (!b2) = false) : q = false := by rw [hq, h1, h]; rfl
theorem c5 {q b1 b2 : Bool} (hq : q = ((false || b1) && !b2)) (h1 : b1 = false) : q = false := by rw [hq, h1]; rfl
theorem en_brCut : Enters Tryz.prog 51 := enters_of Tryz.func51 rfl rfl
set_option maxRecDepth 20000 in
set_option maxHeartbeats 4000000 in
theorem l7Cut_spec (u : Unf) (l : List Int) (hw : WF u) (hl : l.length ≤ 1000000) (hin : ∀ e, e ∈ l → 0 ≤ e ∧ e < u.es.length) : ASpec Tryz.prog 49 [unfA u, .d (vI l)] [] (Pure1 (.d (vI (cutI u l)))) := by
  have hcl := hw.c
  unfold cutI
  refine ASpec.of Tryz.func49 rfl rfl fun C hC => ?_
  refine AC.seq ?_
  refine AC.region ?_
  refine AL.q (by exact h_boxF rfl rfl) rfl ?_
  refine AL.p (by first | exact as1 rfl | exact as2 rfl | exact as3 rfl | exact as4 rfl | exact as5 rfl | exact as6 rfl | exact as7 rfl | exact as8 rfl | exact as9 rfl) rfl ?_
  refine AL.nil ?_
  refine th_n ?_
  refine AC.seq ?_
  refine AC.region ?_
  refine AL.p (by first | exact as1 rfl | exact as2 rfl | exact as3 rfl | exact as4 rfl | exact as5 rfl | exact as6 rfl | exact as7 rfl | exact as8 rfl | exact as9 rfl) rfl ?_
  refine AL.nil ?_
  refine th_n ?_
  refine AC.seq ?_
  refine AC.seq ?_
  refine AC.region ?_
  refine AL.p (by first | exact g_fa_ref rfl rfl rfl rfl rfl rfl | exact g_fa_ptr rfl rfl rfl rfl rfl) rfl ?_
  refine AL.p (by first | exact g_load_ref rfl rfl rfl | exact g_load_ptr rfl rfl rfl rfl rfl | exact g_load_refN rfl rfl rfl rfl | exact g_load_ptrN rfl rfl rfl rfl rfl | exact g_load_arr1 rfl rfl rfl rfl (by assumption) | exact g_load_arr rfl rfl rfl rfl (by first | rfl | omega) (by first | assumption | rfl) (by first | assumption | rfl)) rfl ?_
  refine AL.p (by first | exact g_len_view rfl rfl (by first | exact List.length_map _ | rfl) | exact g_len_str rfl rfl rfl | exact g_len_nil rfl rfl | exact g_len_own (sz := 1) (els := []) (e' := 0) rfl rfl (by simp only [maxLen]; omega) | exact g_len_tight rfl rfl (by first | exact List.length_map _ | rfl)) rfl ?_
  refine AL.p (by first | exact mv1 rfl | exact mv2 rfl | exact mv3 rfl | exact mv4 rfl | exact mv5 rfl | exact mv6 rfl | exact mv7 rfl | exact mv8 rfl | exact mv9 rfl) rfl ?_
  refine AL.nil ?_
  refine th_n ?_
  refine AC.block ?_
  refine AC.loop (ι := Nat) (fun k => ⟨38, 108, [(1, .d (vI l)), (2, .d (.ref (unfD u))), (5, .own 100 (cutK (cutQ u l) k).length), (9, .d (vCs u.cs)), (10, aI u.cs.length), (11, aI k)], [(100, some (.arr 3 1 (ints (cutK (cutQ u l) k))))]⟩) (fun k => k ≤ u.cs.length) (fun k => u.cs.length - k) (0) ?_ (Nat.zero_le _) ?_
  · exact (Weak.nilOwn (i := 5) (e := 3) (sz := 1) rfl (by decide)).trans (Weak.ren _ [(100, _)] hC rfl (by repeat (first | exact True.intro | refine And.intro ?_ ?_ | exact DLead.same | exact DLead.eqI (by omega) | exact DLead.nil | exact rfl | refine ⟨_, _, rfl, rfl, ?_⟩ | refine ⟨_, rfl, ?_⟩ | refine ⟨_, _, rfl, ?_, ?_⟩)) (by repeat (first | exact True.intro | refine And.intro ?_ ?_ | exact DLead.same | exact DLead.eqI (by omega) | exact DLead.nil | exact rfl | refine ⟨_, _, rfl, rfl, ?_⟩ | refine ⟨_, rfl, ?_⟩ | refine ⟨_, _, rfl, ?_, ?_⟩)) rfl rfl rfl)
  · intro k hk
    refine AC.seq ?_
    refine AC.region ?_
    refine AL.p (by first | exact g_cmp rfl rfl rfl | exact g_scmp rfl rfl rfl | exact g_eqB rfl rfl rfl | exact g_neB rfl rfl rfl) rfl ?_
    refine AL.nil ?_
    refine th_n ?_
    refine AC.seq ?_
    first | refine AC.condD rfl (fun h0 => ?_) (fun h0 => ?_) | refine AC.condND rfl (fun h0 => ?_) (fun h0 => ?_) | refine AC.condB rfl (fun h0 => ?_) (fun h0 => ?_) | refine AC.condNB rfl (fun h0 => ?_) (fun h0 => ?_)
    · refine AC.skip ?_
      refine th_n ?_
      refine AC.seq ?_
      refine AC.block ?_
      refine AC.seq ?_
      have hk1 : k < u.cs.length := by omega
      have hget := condsL_get hk1
      have hln := cutK_len (cutQ u l) k
      have hcv : cAt u (k : Int) = u.cs[k] := cAt_nat hk1
      have hKo := l7Used_spec u l (k : Int) hw hl hin
      have hHa := l1Has_spec l u.cs[k].by_ hl
      have hq : cutQ u l k = ((decide (u.cs[k].by_ < 0) || hasI l u.cs[k].by_) && !usedI u l (k : Int)) := by unfold cutQ; rw [hcv]
      obtain ⟨b1, hb1⟩ : ∃ b, b = hasI l u.cs[k].by_ := ⟨_, rfl⟩
      obtain ⟨b2, hb2⟩ : ∃ b, b = usedI u l (k : Int) := ⟨_, rfl⟩
      rw [← hb1] at hHa
      rw [← hb2] at hKo
      rw [← hb1, ← hb2] at hq
      refine AC.region ?_
      refine AL.p (by first | exact mv1 rfl | exact mv2 rfl | exact mv3 rfl | exact mv4 rfl | exact mv5 rfl | exact mv6 rfl | exact mv7 rfl | exact mv8 rfl | exact mv9 rfl) rfl ?_
      refine AL.p (by first | exact g_ia_view rfl rfl rfl rfl rfl (by first | rfl | assumption) (by first | assumption | rfl) | exact g_ia_own rfl rfl rfl rfl rfl (by first | rfl | assumption) (by omega) (by first | exact Nat.mul_one _ | rfl | omega)) rfl ?_
      refine AL.p (by first | exact g_load_ref rfl rfl rfl | exact g_load_ptr rfl rfl rfl rfl rfl | exact g_load_refN rfl rfl rfl rfl | exact g_load_ptrN rfl rfl rfl rfl rfl | exact g_load_arr1 rfl rfl rfl rfl (by assumption) | exact g_load_arr rfl rfl rfl rfl (by first | rfl | omega) (by first | assumption | rfl) (by first | assumption | rfl)) rfl ?_
      refine AL.q (by exact h_alloc rfl) rfl ?_
      refine AL.p (by first | exact as1 rfl | exact as2 rfl | exact as3 rfl | exact as4 rfl | exact as5 rfl | exact as6 rfl | exact as7 rfl | exact as8 rfl | exact as9 rfl) rfl ?_
      refine AL.q (by first | exact h_store rfl rfl rfl rfl rfl rfl | exact h_store_arr1 rfl rfl rfl rfl (by first | exact .same | exact .nil) (by assumption) | exact h_store_arr rfl rfl rfl rfl (by first | exact .same | exact .nil) (by first | rfl | omega) (by first | assumption | rfl) (by omega)) rfl ?_
      refine AL.nil ?_
      refine th_n ?_
      refine AC.seq ?_
      refine AC.region ?_
      refine AL.p (by first | exact g_fa_ref rfl rfl rfl rfl rfl rfl | exact g_fa_ptr rfl rfl rfl rfl rfl) rfl ?_
      refine AL.p (by first | exact g_load_ref rfl rfl rfl | exact g_load_ptr rfl rfl rfl rfl rfl | exact g_load_refN rfl rfl rfl rfl | exact g_load_ptrN rfl rfl rfl rfl rfl | exact g_load_arr1 rfl rfl rfl rfl (by assumption) | exact g_load_arr rfl rfl rfl rfl (by first | rfl | omega) (by first | assumption | rfl) (by first | assumption | rfl)) rfl ?_
      refine AL.p (by first | exact g_cmp rfl rfl rfl | exact g_scmp rfl rfl rfl | exact g_eqB rfl rfl rfl | exact g_neB rfl rfl rfl) rfl ?_
      refine AL.p (by first | exact mv1 rfl | exact mv2 rfl | exact mv3 rfl | exact mv4 rfl | exact mv5 rfl | exact mv6 rfl | exact mv7 rfl | exact mv8 rfl | exact mv9 rfl) rfl ?_
      first | refine AL.caseG rfl rfl (fun h1 => ?_) (fun h1 => ?_) | refine AL.caseGN rfl rfl (fun h1 => ?_) (fun h1 => ?_) | refine AL.caseGB rfl rfl (fun h1 => ?_) (fun h1 => ?_) | refine AL.caseGNB rfl rfl (fun h1 => ?_) (fun h1 => ?_)
      · refine AL.not rfl rfl rfl rfl rfl ?_
        refine AL.not rfl rfl rfl rfl rfl ?_
        refine AL.not rfl rfl rfl rfl rfl ?_
        refine AL.not rfl rfl rfl rfl rfl ?_
        refine AL.p (by first | exact g_pickT (r := .d _) rfl rfl | exact g_pickF (r := .d _) rfl rfl) rfl ?_
        refine AL.p (by first | exact mv1 rfl | exact mv2 rfl | exact mv3 rfl | exact mv4 rfl | exact mv5 rfl | exact mv6 rfl | exact mv7 rfl | exact mv8 rfl | exact mv9 rfl) rfl ?_
        refine AL.yes rfl rfl rfl ?_
        refine AL.p (by first | exact g_load_ref rfl rfl rfl | exact g_load_ptr rfl rfl rfl rfl rfl | exact g_load_refN rfl rfl rfl rfl | exact g_load_ptrN rfl rfl rfl rfl rfl | exact g_load_arr1 rfl rfl rfl rfl (by assumption) | exact g_load_arr rfl rfl rfl rfl (by first | rfl | omega) (by first | assumption | rfl) (by first | assumption | rfl)) rfl ?_
        refine AL.yes rfl rfl rfl ?_
        refine AL.p (by first | exact mv1 rfl | exact mv2 rfl | exact mv3 rfl | exact mv4 rfl | exact mv5 rfl | exact mv6 rfl | exact mv7 rfl | exact mv8 rfl | exact mv9 rfl) rfl ?_
        refine AL.yes rfl rfl rfl ?_
        refine AL.p (by first | exact mv1 rfl | exact mv2 rfl | exact mv3 rfl | exact mv4 rfl | exact mv5 rfl | exact mv6 rfl | exact mv7 rfl | exact mv8 rfl | exact mv9 rfl) rfl ?_
        refine AL.yes rfl rfl rfl ?_
        refine AL.q (by exact h_pure en_l7Used rfl rfl (by repeat (first | exact rfl | exact DLead.same | exact DLead.nil | refine ⟨_, _, rfl, ?_, ?_⟩ | refine ⟨_, rfl, ?_⟩)) hKo rfl) rfl ?_
        refine AL.yes rfl rfl rfl ?_
        refine AL.p (by first | exact g_not rfl | exact g_neg rfl (by first | exact wrap_i64 (by omega) | exact wrap_u8 (by omega) | exact wrap_u64 (by omega) | rfl)) rfl ?_
        refine AL.p (by first | exact g_pickT (r := .d _) rfl rfl | exact g_pickF (r := .d _) rfl rfl) rfl ?_
        refine AL.nil ?_
        refine th_n ?_
        first | refine AC.condD rfl (fun h2 => ?_) (fun h2 => ?_) | refine AC.condND rfl (fun h2 => ?_) (fun h2 => ?_) | refine AC.condB rfl (fun h2 => ?_) (fun h2 => ?_) | refine AC.condNB rfl (fun h2 => ?_) (fun h2 => ?_)
        · refine AC.region ?_
          refine AL.p (by first | exact mv1 rfl | exact mv2 rfl | exact mv3 rfl | exact mv4 rfl | exact mv5 rfl | exact mv6 rfl | exact mv7 rfl | exact mv8 rfl | exact mv9 rfl) rfl ?_
          refine AL.p (by first | exact mv1 rfl | exact mv2 rfl | exact mv3 rfl | exact mv4 rfl | exact mv5 rfl | exact mv6 rfl | exact mv7 rfl | exact mv8 rfl | exact mv9 rfl) rfl ?_
          refine AL.q (by exact h_litF rfl rfl rfl rfl rfl rfl rfl rfl) rfl ?_
          refine AL.q (by exact h_appendI (cutK (cutQ u l) k) [(k : Int)] (.own rfl rfl (ints_len _).symm) (.view rfl) (by simp; omega) (by simp)) rfl ?_
          refine AL.p (by first | exact as1 rfl | exact as2 rfl | exact as3 rfl | exact as4 rfl | exact as5 rfl | exact as6 rfl | exact as7 rfl | exact as8 rfl | exact as9 rfl) rfl ?_
          refine AL.nil ?_
          refine ib_n ?_
          refine th_n ?_
          refine AC.region ?_
          refine AL.p (by first | exact g_arith rfl rfl rfl (by first | exact wrap_i64 (by omega) | exact wrap_u8 (by omega) | exact wrap_u64 (by omega) | rfl) | exact g_sadd rfl rfl (by first | assumption | omega | (simp only [ByteArray.size_append, bstr_size, List.length_take, List.length_drop, List.length_cons, List.length_nil]; omega))) rfl ?_
          refine AL.p (by first | exact mv1 rfl | exact mv2 rfl | exact mv3 rfl | exact mv4 rfl | exact mv5 rfl | exact mv6 rfl | exact mv7 rfl | exact mv8 rfl | exact mv9 rfl) rfl ?_
          refine AL.nil ?_
          refine th_n ?_
          first | rw [decide_eq_true h1] at hq | rw [decide_eq_false h1] at hq
          first | have e := cutK_t (c1 hq h2) | have e := cutK_f (c2 hq h2) | have e := cutK_t (c3 hq h2 h3) | have e := cutK_f (c4 hq h2 h3) | have e := cutK_f (c5 hq h2)
          exact ⟨k + 1, by omega, by omega, Weak.ren _ [(100, _)] hC rfl (by rw [e]; repeat (first | exact True.intro | refine And.intro ?_ ?_ | exact DLead.same | exact DLead.eqI (by omega) | exact DLead.nil | exact rfl | refine ⟨_, _, rfl, rfl, ?_⟩ | refine ⟨_, rfl, ?_⟩ | refine ⟨_, _, rfl, ?_, ?_⟩)) (by rw [e]; repeat (first | exact True.intro | refine And.intro ?_ ?_ | exact DLead.same | exact DLead.eqI (by omega) | exact DLead.nil | exact rfl | refine ⟨_, _, rfl, rfl, ?_⟩ | refine ⟨_, rfl, ?_⟩ | refine ⟨_, _, rfl, ?_, ?_⟩)) rfl rfl rfl⟩
        · refine AC.skip ?_
          refine ib_n ?_
          refine th_n ?_
          refine AC.region ?_
          refine AL.p (by first | exact g_arith rfl rfl rfl (by first | exact wrap_i64 (by omega) | exact wrap_u8 (by omega) | exact wrap_u64 (by omega) | rfl) | exact g_sadd rfl rfl (by first | assumption | omega | (simp only [ByteArray.size_append, bstr_size, List.length_take, List.length_drop, List.length_cons, List.length_nil]; omega))) rfl ?_
          refine AL.p (by first | exact mv1 rfl | exact mv2 rfl | exact mv3 rfl | exact mv4 rfl | exact mv5 rfl | exact mv6 rfl | exact mv7 rfl | exact mv8 rfl | exact mv9 rfl) rfl ?_
          refine AL.nil ?_
          refine th_n ?_
          first | rw [decide_eq_true h1] at hq | rw [decide_eq_false h1] at hq
          first | have e := cutK_t (c1 hq h2) | have e := cutK_f (c2 hq h2) | have e := cutK_t (c3 hq h2 h3) | have e := cutK_f (c4 hq h2 h3) | have e := cutK_f (c5 hq h2)
          exact ⟨k + 1, by omega, by omega, Weak.ren _ [(100, _)] hC rfl (by rw [e]; repeat (first | exact True.intro | refine And.intro ?_ ?_ | exact DLead.same | exact DLead.eqI (by omega) | exact DLead.nil | exact rfl | refine ⟨_, _, rfl, rfl, ?_⟩ | refine ⟨_, rfl, ?_⟩ | refine ⟨_, _, rfl, ?_, ?_⟩)) (by rw [e]; repeat (first | exact True.intro | refine And.intro ?_ ?_ | exact DLead.same | exact DLead.eqI (by omega) | exact DLead.nil | exact rfl | refine ⟨_, _, rfl, rfl, ?_⟩ | refine ⟨_, rfl, ?_⟩ | refine ⟨_, _, rfl, ?_, ?_⟩)) rfl rfl rfl⟩
      · refine AL.yes rfl rfl rfl ?_
        refine AL.p (by first | exact mv1 rfl | exact mv2 rfl | exact mv3 rfl | exact mv4 rfl | exact mv5 rfl | exact mv6 rfl | exact mv7 rfl | exact mv8 rfl | exact mv9 rfl) rfl ?_
        refine AL.yes rfl rfl rfl ?_
        refine AL.p (by first | exact g_fa_ref rfl rfl rfl rfl rfl rfl | exact g_fa_ptr rfl rfl rfl rfl rfl) rfl ?_
        refine AL.yes rfl rfl rfl ?_
        refine AL.p (by first | exact g_load_ref rfl rfl rfl | exact g_load_ptr rfl rfl rfl rfl rfl | exact g_load_refN rfl rfl rfl rfl | exact g_load_ptrN rfl rfl rfl rfl rfl | exact g_load_arr1 rfl rfl rfl rfl (by assumption) | exact g_load_arr rfl rfl rfl rfl (by first | rfl | omega) (by first | assumption | rfl) (by first | assumption | rfl)) rfl ?_
        refine AL.yes rfl rfl rfl ?_
        refine AL.q (by exact h_pure en_l1Has rfl rfl (by repeat (first | exact rfl | exact DLead.same | exact DLead.nil | refine ⟨_, _, rfl, ?_, ?_⟩ | refine ⟨_, rfl, ?_⟩)) hHa rfl) rfl ?_
        refine AL.p (by first | exact g_pickT (r := .d _) rfl rfl | exact g_pickF (r := .d _) rfl rfl) rfl ?_
        refine AL.p (by first | exact mv1 rfl | exact mv2 rfl | exact mv3 rfl | exact mv4 rfl | exact mv5 rfl | exact mv6 rfl | exact mv7 rfl | exact mv8 rfl | exact mv9 rfl) rfl ?_
        first | refine AL.caseG rfl rfl (fun h2 => ?_) (fun h2 => ?_) | refine AL.caseGN rfl rfl (fun h2 => ?_) (fun h2 => ?_) | refine AL.caseGB rfl rfl (fun h2 => ?_) (fun h2 => ?_) | refine AL.caseGNB rfl rfl (fun h2 => ?_) (fun h2 => ?_)
        · refine AL.yes rfl rfl rfl ?_
          refine AL.p (by first | exact g_load_ref rfl rfl rfl | exact g_load_ptr rfl rfl rfl rfl rfl | exact g_load_refN rfl rfl rfl rfl | exact g_load_ptrN rfl rfl rfl rfl rfl | exact g_load_arr1 rfl rfl rfl rfl (by assumption) | exact g_load_arr rfl rfl rfl rfl (by first | rfl | omega) (by first | assumption | rfl) (by first | assumption | rfl)) rfl ?_
          refine AL.yes rfl rfl rfl ?_
          refine AL.p (by first | exact mv1 rfl | exact mv2 rfl | exact mv3 rfl | exact mv4 rfl | exact mv5 rfl | exact mv6 rfl | exact mv7 rfl | exact mv8 rfl | exact mv9 rfl) rfl ?_
          refine AL.yes rfl rfl rfl ?_
          refine AL.p (by first | exact mv1 rfl | exact mv2 rfl | exact mv3 rfl | exact mv4 rfl | exact mv5 rfl | exact mv6 rfl | exact mv7 rfl | exact mv8 rfl | exact mv9 rfl) rfl ?_
          refine AL.yes rfl rfl rfl ?_
          refine AL.q (by exact h_pure en_l7Used rfl rfl (by repeat (first | exact rfl | exact DLead.same | exact DLead.nil | refine ⟨_, _, rfl, ?_, ?_⟩ | refine ⟨_, rfl, ?_⟩)) hKo rfl) rfl ?_
          refine AL.yes rfl rfl rfl ?_
          refine AL.p (by first | exact g_not rfl | exact g_neg rfl (by first | exact wrap_i64 (by omega) | exact wrap_u8 (by omega) | exact wrap_u64 (by omega) | rfl)) rfl ?_
          refine AL.p (by first | exact g_pickT (r := .d _) rfl rfl | exact g_pickF (r := .d _) rfl rfl) rfl ?_
          refine AL.nil ?_
          refine th_n ?_
          first | refine AC.condD rfl (fun h3 => ?_) (fun h3 => ?_) | refine AC.condND rfl (fun h3 => ?_) (fun h3 => ?_) | refine AC.condB rfl (fun h3 => ?_) (fun h3 => ?_) | refine AC.condNB rfl (fun h3 => ?_) (fun h3 => ?_)
          · refine AC.region ?_
            refine AL.p (by first | exact mv1 rfl | exact mv2 rfl | exact mv3 rfl | exact mv4 rfl | exact mv5 rfl | exact mv6 rfl | exact mv7 rfl | exact mv8 rfl | exact mv9 rfl) rfl ?_
            refine AL.p (by first | exact mv1 rfl | exact mv2 rfl | exact mv3 rfl | exact mv4 rfl | exact mv5 rfl | exact mv6 rfl | exact mv7 rfl | exact mv8 rfl | exact mv9 rfl) rfl ?_
            refine AL.q (by exact h_litF rfl rfl rfl rfl rfl rfl rfl rfl) rfl ?_
            refine AL.q (by exact h_appendI (cutK (cutQ u l) k) [(k : Int)] (.own rfl rfl (ints_len _).symm) (.view rfl) (by simp; omega) (by simp)) rfl ?_
            refine AL.p (by first | exact as1 rfl | exact as2 rfl | exact as3 rfl | exact as4 rfl | exact as5 rfl | exact as6 rfl | exact as7 rfl | exact as8 rfl | exact as9 rfl) rfl ?_
            refine AL.nil ?_
            refine ib_n ?_
            refine th_n ?_
            refine AC.region ?_
            refine AL.p (by first | exact g_arith rfl rfl rfl (by first | exact wrap_i64 (by omega) | exact wrap_u8 (by omega) | exact wrap_u64 (by omega) | rfl) | exact g_sadd rfl rfl (by first | assumption | omega | (simp only [ByteArray.size_append, bstr_size, List.length_take, List.length_drop, List.length_cons, List.length_nil]; omega))) rfl ?_
            refine AL.p (by first | exact mv1 rfl | exact mv2 rfl | exact mv3 rfl | exact mv4 rfl | exact mv5 rfl | exact mv6 rfl | exact mv7 rfl | exact mv8 rfl | exact mv9 rfl) rfl ?_
            refine AL.nil ?_
            refine th_n ?_
            first | rw [decide_eq_true h1] at hq | rw [decide_eq_false h1] at hq
            first | have e := cutK_t (c1 hq h2) | have e := cutK_f (c2 hq h2) | have e := cutK_t (c3 hq h2 h3) | have e := cutK_f (c4 hq h2 h3) | have e := cutK_f (c5 hq h2)
            exact ⟨k + 1, by omega, by omega, Weak.ren _ [(100, _)] hC rfl (by rw [e]; repeat (first | exact True.intro | refine And.intro ?_ ?_ | exact DLead.same | exact DLead.eqI (by omega) | exact DLead.nil | exact rfl | refine ⟨_, _, rfl, rfl, ?_⟩ | refine ⟨_, rfl, ?_⟩ | refine ⟨_, _, rfl, ?_, ?_⟩)) (by rw [e]; repeat (first | exact True.intro | refine And.intro ?_ ?_ | exact DLead.same | exact DLead.eqI (by omega) | exact DLead.nil | exact rfl | refine ⟨_, _, rfl, rfl, ?_⟩ | refine ⟨_, rfl, ?_⟩ | refine ⟨_, _, rfl, ?_, ?_⟩)) rfl rfl rfl⟩
          · refine AC.skip ?_
            refine ib_n ?_
            refine th_n ?_
            refine AC.region ?_
            refine AL.p (by first | exact g_arith rfl rfl rfl (by first | exact wrap_i64 (by omega) | exact wrap_u8 (by omega) | exact wrap_u64 (by omega) | rfl) | exact g_sadd rfl rfl (by first | assumption | omega | (simp only [ByteArray.size_append, bstr_size, List.length_take, List.length_drop, List.length_cons, List.length_nil]; omega))) rfl ?_
            refine AL.p (by first | exact mv1 rfl | exact mv2 rfl | exact mv3 rfl | exact mv4 rfl | exact mv5 rfl | exact mv6 rfl | exact mv7 rfl | exact mv8 rfl | exact mv9 rfl) rfl ?_
            refine AL.nil ?_
            refine th_n ?_
            first | rw [decide_eq_true h1] at hq | rw [decide_eq_false h1] at hq
            first | have e := cutK_t (c1 hq h2) | have e := cutK_f (c2 hq h2) | have e := cutK_t (c3 hq h2 h3) | have e := cutK_f (c4 hq h2 h3) | have e := cutK_f (c5 hq h2)
            exact ⟨k + 1, by omega, by omega, Weak.ren _ [(100, _)] hC rfl (by rw [e]; repeat (first | exact True.intro | refine And.intro ?_ ?_ | exact DLead.same | exact DLead.eqI (by omega) | exact DLead.nil | exact rfl | refine ⟨_, _, rfl, rfl, ?_⟩ | refine ⟨_, rfl, ?_⟩ | refine ⟨_, _, rfl, ?_, ?_⟩)) (by rw [e]; repeat (first | exact True.intro | refine And.intro ?_ ?_ | exact DLead.same | exact DLead.eqI (by omega) | exact DLead.nil | exact rfl | refine ⟨_, _, rfl, rfl, ?_⟩ | refine ⟨_, rfl, ?_⟩ | refine ⟨_, _, rfl, ?_, ?_⟩)) rfl rfl rfl⟩
        · refine AL.not rfl rfl rfl rfl rfl ?_
          refine AL.not rfl rfl rfl rfl rfl ?_
          refine AL.not rfl rfl rfl rfl rfl ?_
          refine AL.not rfl rfl rfl rfl rfl ?_
          refine AL.not rfl rfl rfl rfl rfl ?_
          refine AL.p (by first | exact g_pickT (r := .d _) rfl rfl | exact g_pickF (r := .d _) rfl rfl) rfl ?_
          refine AL.nil ?_
          refine th_n ?_
          refine AC.condF rfl ?_
          refine AC.skip ?_
          refine ib_n ?_
          refine th_n ?_
          refine AC.region ?_
          refine AL.p (by first | exact g_arith rfl rfl rfl (by first | exact wrap_i64 (by omega) | exact wrap_u8 (by omega) | exact wrap_u64 (by omega) | rfl) | exact g_sadd rfl rfl (by first | assumption | omega | (simp only [ByteArray.size_append, bstr_size, List.length_take, List.length_drop, List.length_cons, List.length_nil]; omega))) rfl ?_
          refine AL.p (by first | exact mv1 rfl | exact mv2 rfl | exact mv3 rfl | exact mv4 rfl | exact mv5 rfl | exact mv6 rfl | exact mv7 rfl | exact mv8 rfl | exact mv9 rfl) rfl ?_
          refine AL.nil ?_
          refine th_n ?_
          first | rw [decide_eq_true h1] at hq | rw [decide_eq_false h1] at hq
          first | have e := cutK_t (c1 hq h2) | have e := cutK_f (c2 hq h2) | have e := cutK_t (c3 hq h2 h3) | have e := cutK_f (c4 hq h2 h3) | have e := cutK_f (c5 hq h2)
          exact ⟨k + 1, by omega, by omega, Weak.ren _ [(100, _)] hC rfl (by rw [e]; repeat (first | exact True.intro | refine And.intro ?_ ?_ | exact DLead.same | exact DLead.eqI (by omega) | exact DLead.nil | exact rfl | refine ⟨_, _, rfl, rfl, ?_⟩ | refine ⟨_, rfl, ?_⟩ | refine ⟨_, _, rfl, ?_, ?_⟩)) (by rw [e]; repeat (first | exact True.intro | refine And.intro ?_ ?_ | exact DLead.same | exact DLead.eqI (by omega) | exact DLead.nil | exact rfl | refine ⟨_, _, rfl, rfl, ?_⟩ | refine ⟨_, rfl, ?_⟩ | refine ⟨_, _, rfl, ?_, ?_⟩)) rfl rfl rfl⟩
    · refine AC.exit ?_
      refine th_e ?_
      refine th_e ?_
      refine ib_y ?_
      refine th_n ?_
      refine AC.seq ?_
      have hkk : k = u.cs.length := by omega
      subst hkk
      refine AC.weak (Weak.freeze (i := 5) rfl rfl (Nat.le_of_eq (ints_len _).symm) (ints_all _)) ?_
      refine AC.region ?_
      refine AL.p (by first | exact mv1 rfl | exact mv2 rfl | exact mv3 rfl | exact mv4 rfl | exact mv5 rfl | exact mv6 rfl | exact mv7 rfl | exact mv8 rfl | exact mv9 rfl) rfl ?_
      refine AL.p (by first | exact as1 rfl | exact as2 rfl | exact as3 rfl | exact as4 rfl | exact as5 rfl | exact as6 rfl | exact as7 rfl | exact as8 rfl | exact as9 rfl) rfl ?_
      refine AL.nil ?_
      refine th_n ?_
      refine AC.ret ?_
      refine bq_r ?_
      exact ret1 rfl rfl
theorem en_l7Cut : Enters Tryz.prog 49 := enters_of Tryz.func49 rfl rfl
end Go.Proofs.YtolfgbcnielnoaaGreat

set_option linter.all false
set_option maxRecDepth 20000
namespace Go.Proofs.YtolfgbcnielnoaaGreat
open Go.RowKit

set_option maxHeartbeats 1000000 in
theorem l7List_spec (N : Net) (m : List UInt8) (u : Unf) (l : List Int) (hB : NetL N) (hm : m.length ≤ 2000000) (hu : UnfL u) (hl : l.length ≤ 2000000) : ASpec Tryz.prog 47 [netA N, aS (bstr m), unfA u, .d (vI l)] [] (Pure1 (aT (goodU N m u && rising l 0 ((u.es.length : Int) - 1)))) := by
  have hG := l7Good_spec N m u hB hm hu
  have hR := l1Rising_spec l 0 ((u.es.length : Int) - 1) hl
  have hue := hu.e
  obtain ⟨g, hg⟩ : ∃ g, g = goodU N m u := ⟨_, rfl⟩
  obtain ⟨r, hr⟩ : ∃ r, r = rising l 0 ((u.es.length : Int) - 1) := ⟨_, rfl⟩
  rw [← hg] at hG ⊢
  rw [← hr] at hR ⊢
  refine ASpec.of Tryz.func47 rfl rfl fun C hC => ?_
  refine AC.seq ?_
  refine AC.region ?_
  refine AL.q (by exact h_boxF rfl rfl) rfl ?_
  refine AL.q (by exact h_boxF rfl rfl) rfl ?_
  refine AL.p (by first | exact as1 rfl | exact as2 rfl | exact as3 rfl | exact as4 rfl | exact as5 rfl | exact as6 rfl | exact as7 rfl | exact as8 rfl | exact as9 rfl) rfl ?_
  refine AL.nil ?_
  refine th_n ?_
  refine AC.seq ?_
  refine AC.region ?_
  refine AL.p (by first | exact g_load_ref rfl rfl rfl | exact g_load_ptr rfl rfl rfl rfl rfl | exact g_load_refN rfl rfl rfl rfl | exact g_load_ptrN rfl rfl rfl rfl rfl | exact g_load_arr1 rfl rfl rfl rfl (by assumption) | exact g_load_arr rfl rfl rfl rfl (by first | rfl | omega) (by first | assumption | rfl) (by first | assumption | rfl)) rfl ?_
  refine AL.p (by first | exact mv1 rfl | exact mv2 rfl | exact mv3 rfl | exact mv4 rfl | exact mv5 rfl | exact mv6 rfl | exact mv7 rfl | exact mv8 rfl | exact mv9 rfl) rfl ?_
  refine AL.p (by first | exact g_load_ref rfl rfl rfl | exact g_load_ptr rfl rfl rfl rfl rfl | exact g_load_refN rfl rfl rfl rfl | exact g_load_ptrN rfl rfl rfl rfl rfl | exact g_load_arr1 rfl rfl rfl rfl (by assumption) | exact g_load_arr rfl rfl rfl rfl (by first | rfl | omega) (by first | assumption | rfl) (by first | assumption | rfl)) rfl ?_
  refine AL.q (by exact h_pure en_l7Good rfl rfl (by repeat (first | exact rfl | exact DLead.same | exact DLead.nil | refine ⟨_, _, rfl, ?_, ?_⟩ | refine ⟨_, rfl, ?_⟩)) hG rfl) rfl ?_
  refine AL.p (by first | exact mv1 rfl | exact mv2 rfl | exact mv3 rfl | exact mv4 rfl | exact mv5 rfl | exact mv6 rfl | exact mv7 rfl | exact mv8 rfl | exact mv9 rfl) rfl ?_
  first | refine AL.caseG rfl rfl (fun h0 => ?_) (fun h0 => ?_) | refine AL.caseGN rfl rfl (fun h0 => ?_) (fun h0 => ?_) | refine AL.caseGB rfl rfl (fun h0 => ?_) (fun h0 => ?_) | refine AL.caseGNB rfl rfl (fun h0 => ?_) (fun h0 => ?_)
  · refine AL.yes rfl rfl rfl ?_
    refine AL.p (by first | exact mv1 rfl | exact mv2 rfl | exact mv3 rfl | exact mv4 rfl | exact mv5 rfl | exact mv6 rfl | exact mv7 rfl | exact mv8 rfl | exact mv9 rfl) rfl ?_
    refine AL.yes rfl rfl rfl ?_
    refine AL.p (by first | exact g_fa_ref rfl rfl rfl rfl rfl rfl | exact g_fa_ptr rfl rfl rfl rfl rfl) rfl ?_
    refine AL.yes rfl rfl rfl ?_
    refine AL.p (by first | exact g_load_ref rfl rfl rfl | exact g_load_ptr rfl rfl rfl rfl rfl | exact g_load_refN rfl rfl rfl rfl | exact g_load_ptrN rfl rfl rfl rfl rfl | exact g_load_arr1 rfl rfl rfl rfl (by assumption) | exact g_load_arr rfl rfl rfl rfl (by first | rfl | omega) (by first | assumption | rfl) (by first | assumption | rfl)) rfl ?_
    refine AL.yes rfl rfl rfl ?_
    refine AL.p (by first | exact g_len_view rfl rfl (by first | exact List.length_map _ | rfl) | exact g_len_str rfl rfl rfl | exact g_len_nil rfl rfl | exact g_len_own (sz := 1) (els := []) (e' := 0) rfl rfl (by simp only [maxLen]; omega) | exact g_len_tight rfl rfl (by first | exact List.length_map _ | rfl)) rfl ?_
    refine AL.yes rfl rfl rfl ?_
    refine AL.p (by exact g_arith rfl rfl rfl (by first | exact wrap_i64 (by omega) | exact wrap_u8 (by omega) | exact wrap_u64 (by omega) | rfl)) rfl ?_
    refine AL.yes rfl rfl rfl ?_
    refine AL.q (by exact h_pure en_l1Rising rfl rfl (by repeat (first | exact rfl | exact DLead.same | exact DLead.nil | refine ⟨_, _, rfl, ?_, ?_⟩ | refine ⟨_, rfl, ?_⟩)) hR rfl) rfl ?_
    refine AL.p (by first | exact g_pickT (r := .d _) rfl rfl | exact g_pickF (r := .d _) rfl rfl) rfl ?_
    refine AL.p (by first | exact as1 rfl | exact as2 rfl | exact as3 rfl | exact as4 rfl | exact as5 rfl | exact as6 rfl | exact as7 rfl | exact as8 rfl | exact as9 rfl) rfl ?_
    refine AL.nil ?_
    refine th_n ?_
    refine AC.ret ?_
    refine bq_r ?_
    exact ret1 rfl (by rw [h0]; rfl)
  · refine AL.not rfl rfl rfl rfl rfl ?_
    refine AL.not rfl rfl rfl rfl rfl ?_
    refine AL.not rfl rfl rfl rfl rfl ?_
    refine AL.not rfl rfl rfl rfl rfl ?_
    refine AL.not rfl rfl rfl rfl rfl ?_
    refine AL.not rfl rfl rfl rfl rfl ?_
    refine AL.p (by first | exact g_pickT (r := .d _) rfl rfl | exact g_pickF (r := .d _) rfl rfl) rfl ?_
    refine AL.p (by first | exact as1 rfl | exact as2 rfl | exact as3 rfl | exact as4 rfl | exact as5 rfl | exact as6 rfl | exact as7 rfl | exact as8 rfl | exact as9 rfl) rfl ?_
    refine AL.nil ?_
    refine th_n ?_
    refine AC.ret ?_
    refine bq_r ?_
    exact ret1 rfl (by rw [h0]; rfl)
theorem en_l7List : Enters Tryz.prog 47 := enters_of Tryz.func47 rfl rfl
set_option maxHeartbeats 1000000 in
theorem l7Config_spec (u : Unf) (l : List Int) (hw : WF u) (hl : l.length ≤ 1000000) (hin : ∀ e, e ∈ l → 0 ≤ e ∧ e < u.es.length) : ASpec Tryz.prog 48 [unfA u, .d (vI l)] [] (Pure1 (aT (confI u l))) := by
  have hP := l7Past_spec u l hw hl (fun e he => (hin e he).2)
  have hpl : (pastI u l).length ≤ 1000000 := by
    have := flagL_len (pastFl u l) u.es.length
    have := hw.e
    unfold pastI; omega
  have hS := l1Same_spec (pastI u l) l hpl hl
  have hF := l7Free_spec u l hw hl hin
  obtain ⟨p, hp⟩ : ∃ p, p = pastI u l := ⟨_, rfl⟩
  obtain ⟨f, hf⟩ : ∃ f, f = freeI u l := ⟨_, rfl⟩
  have hJ : confI u l = (decide (p = l) && f) := by rw [hp, hf]; rfl
  rw [← hp] at hP hS
  rw [← hf] at hF
  refine ASpec.of Tryz.func48 rfl rfl fun C hC => ?_
  refine AC.seq ?_
  refine AC.region ?_
  refine AL.q (by exact h_boxF rfl rfl) rfl ?_
  refine AL.p (by first | exact as1 rfl | exact as2 rfl | exact as3 rfl | exact as4 rfl | exact as5 rfl | exact as6 rfl | exact as7 rfl | exact as8 rfl | exact as9 rfl) rfl ?_
  refine AL.nil ?_
  refine th_n ?_
  refine AC.seq ?_
  refine AC.region ?_
  refine AL.p (by first | exact g_load_ref rfl rfl rfl | exact g_load_ptr rfl rfl rfl rfl rfl | exact g_load_refN rfl rfl rfl rfl | exact g_load_ptrN rfl rfl rfl rfl rfl | exact g_load_arr1 rfl rfl rfl rfl (by assumption) | exact g_load_arr rfl rfl rfl rfl (by first | rfl | omega) (by first | assumption | rfl) (by first | assumption | rfl)) rfl ?_
  refine AL.p (by first | exact mv1 rfl | exact mv2 rfl | exact mv3 rfl | exact mv4 rfl | exact mv5 rfl | exact mv6 rfl | exact mv7 rfl | exact mv8 rfl | exact mv9 rfl) rfl ?_
  refine AL.q (by exact h_pure en_l7Past rfl rfl (by repeat (first | exact rfl | exact DLead.same | exact DLead.nil | refine ⟨_, _, rfl, ?_, ?_⟩ | refine ⟨_, rfl, ?_⟩)) hP rfl) rfl ?_
  refine AL.p (by first | exact mv1 rfl | exact mv2 rfl | exact mv3 rfl | exact mv4 rfl | exact mv5 rfl | exact mv6 rfl | exact mv7 rfl | exact mv8 rfl | exact mv9 rfl) rfl ?_
  refine AL.q (by exact h_pure en_l1Same rfl rfl (by repeat (first | exact rfl | exact DLead.same | exact DLead.nil | refine ⟨_, _, rfl, ?_, ?_⟩ | refine ⟨_, rfl, ?_⟩)) hS rfl) rfl ?_
  refine AL.p (by first | exact mv1 rfl | exact mv2 rfl | exact mv3 rfl | exact mv4 rfl | exact mv5 rfl | exact mv6 rfl | exact mv7 rfl | exact mv8 rfl | exact mv9 rfl) rfl ?_
  first | refine AL.caseG rfl rfl (fun h0 => ?_) (fun h0 => ?_) | refine AL.caseGN rfl rfl (fun h0 => ?_) (fun h0 => ?_) | refine AL.caseGB rfl rfl (fun h0 => ?_) (fun h0 => ?_) | refine AL.caseGNB rfl rfl (fun h0 => ?_) (fun h0 => ?_)
  · refine AL.yes rfl rfl rfl ?_
    refine AL.p (by first | exact g_load_ref rfl rfl rfl | exact g_load_ptr rfl rfl rfl rfl rfl | exact g_load_refN rfl rfl rfl rfl | exact g_load_ptrN rfl rfl rfl rfl rfl | exact g_load_arr1 rfl rfl rfl rfl (by assumption) | exact g_load_arr rfl rfl rfl rfl (by first | rfl | omega) (by first | assumption | rfl) (by first | assumption | rfl)) rfl ?_
    refine AL.yes rfl rfl rfl ?_
    refine AL.p (by first | exact mv1 rfl | exact mv2 rfl | exact mv3 rfl | exact mv4 rfl | exact mv5 rfl | exact mv6 rfl | exact mv7 rfl | exact mv8 rfl | exact mv9 rfl) rfl ?_
    refine AL.yes rfl rfl rfl ?_
    refine AL.q (by exact h_pure en_l7Free rfl rfl (by repeat (first | exact rfl | exact DLead.same | exact DLead.nil | refine ⟨_, _, rfl, ?_, ?_⟩ | refine ⟨_, rfl, ?_⟩)) hF rfl) rfl ?_
    refine AL.p (by first | exact g_pickT (r := .d _) rfl rfl | exact g_pickF (r := .d _) rfl rfl) rfl ?_
    refine AL.p (by first | exact as1 rfl | exact as2 rfl | exact as3 rfl | exact as4 rfl | exact as5 rfl | exact as6 rfl | exact as7 rfl | exact as8 rfl | exact as9 rfl) rfl ?_
    refine AL.nil ?_
    refine th_n ?_
    refine AC.ret ?_
    refine bq_r ?_
    first | exact ret1 rfl (by rw [hJ, decide_eq_true h0]; rfl) | exact ret1 rfl (by rw [hJ, decide_eq_false h0]; rfl)
  · refine AL.not rfl rfl rfl rfl rfl ?_
    refine AL.not rfl rfl rfl rfl rfl ?_
    refine AL.not rfl rfl rfl rfl rfl ?_
    refine AL.p (by first | exact g_pickT (r := .d _) rfl rfl | exact g_pickF (r := .d _) rfl rfl) rfl ?_
    refine AL.p (by first | exact as1 rfl | exact as2 rfl | exact as3 rfl | exact as4 rfl | exact as5 rfl | exact as6 rfl | exact as7 rfl | exact as8 rfl | exact as9 rfl) rfl ?_
    refine AL.nil ?_
    refine th_n ?_
    refine AC.ret ?_
    refine bq_r ?_
    first | exact ret1 rfl (by rw [hJ, decide_eq_true h0]; rfl) | exact ret1 rfl (by rw [hJ, decide_eq_false h0]; rfl)
theorem en_l7Config : Enters Tryz.prog 48 := enters_of Tryz.func48 rfl rfl
def listB (N : Net) (m : List UInt8) (u : Unf) (l : List Int) : Bool := goodU N m u && rising l 0 ((u.es.length : Int) - 1)
def confR (N : Net) (m : List UInt8) (u : Unf) (l : List Int) : Bool := listB N m u l && confI u l
theorem list_in {u : Unf} {l : List Int} (h : rising l 0 ((u.es.length : Int) - 1) = true) : ∀ e, e ∈ l → 0 ≤ e ∧ e < u.es.length := fun e he => by have := rising_in h e he; omega
theorem listB_iff {N : Net} {m : List UInt8} {u : Unf} {l : List Int} (h : listB N m u l = true) : Good N m u ∧ rising l 0 ((u.es.length : Int) - 1) = true ∧ l.length ≤ 60 := by
  unfold listB at h
  rw [Bool.and_eq_true] at h
  have hg := goodU_iff h.1
  have := rising_len h.2
  have := hg.e
  exact ⟨hg, h.2, by omega⟩
theorem iIsConf_f (N : Net) (m : List UInt8) (u : Unf) (l : List Int) (hB : NetL N) (hm : m.length ≤ 2000000) (hu : UnfL u) (hl : l.length ≤ 2000000) (hg : goodU N m u = false) : ASpec Tryz.prog 77 [netA N, aS (bstr m), unfA u, .d (vI l)] [] (Pure1 (.tup [aT (confR N m u l), aT (listB N m u l)])) := by
  have hS := branchingOf_spec N m u hB hm hu
  have hue := hu.e
  rw [brRes_f hg] at hS
  have hl0 : listB N m u l = false := by unfold listB; rw [hg]; rfl
  have hc0 : confR N m u l = false := by unfold confR; rw [hl0]; rfl
  refine ASpec.of Tryz.func77 rfl rfl fun C hC => ?_
  refine AC.seq ?_
  refine AC.region ?_
  refine AL.q (by exact h_boxF rfl rfl) rfl ?_
  refine AL.q (by exact h_boxF rfl rfl) rfl ?_
  refine AL.p (by first | exact as1 rfl | exact as2 rfl | exact as3 rfl | exact as4 rfl | exact as5 rfl | exact as6 rfl | exact as7 rfl | exact as8 rfl | exact as9 rfl) rfl ?_
  refine AL.p (by first | exact as1 rfl | exact as2 rfl | exact as3 rfl | exact as4 rfl | exact as5 rfl | exact as6 rfl | exact as7 rfl | exact as8 rfl | exact as9 rfl) rfl ?_
  refine AL.nil ?_
  refine th_n ?_
  refine AC.seq ?_
  refine AC.region ?_
  refine AL.p (by first | exact g_load_ref rfl rfl rfl | exact g_load_ptr rfl rfl rfl rfl rfl | exact g_load_refN rfl rfl rfl rfl | exact g_load_ptrN rfl rfl rfl rfl rfl | exact g_load_arr1 rfl rfl rfl rfl (by assumption) | exact g_load_arr rfl rfl rfl rfl (by first | rfl | omega) (by first | assumption | rfl) (by first | assumption | rfl)) rfl ?_
  refine AL.p (by first | exact mv1 rfl | exact mv2 rfl | exact mv3 rfl | exact mv4 rfl | exact mv5 rfl | exact mv6 rfl | exact mv7 rfl | exact mv8 rfl | exact mv9 rfl) rfl ?_
  refine AL.p (by first | exact g_load_ref rfl rfl rfl | exact g_load_ptr rfl rfl rfl rfl rfl | exact g_load_refN rfl rfl rfl rfl | exact g_load_ptrN rfl rfl rfl rfl rfl | exact g_load_arr1 rfl rfl rfl rfl (by assumption) | exact g_load_arr rfl rfl rfl rfl (by first | rfl | omega) (by first | assumption | rfl) (by first | assumption | rfl)) rfl ?_
  refine AL.q (by exact h_fun (cs := []) en_branchingOf rfl rfl (by repeat (first | exact rfl | exact DLead.same | exact DLead.nil | refine ⟨_, _, rfl, ?_, ?_⟩ | refine ⟨_, rfl, ?_⟩)) (by repeat (first | exact True.intro | refine And.intro ?_ ?_ | exact DLead.same | exact DLead.eqI (by omega) | exact DLead.nil | exact rfl | refine ⟨_, _, rfl, rfl, ?_⟩ | refine ⟨_, rfl, ?_⟩ | refine ⟨_, _, rfl, ?_, ?_⟩)) hS rfl rfl rfl rfl) rfl ?_
  refine AL.p (by first | exact mv1 rfl | exact mv2 rfl | exact mv3 rfl | exact mv4 rfl | exact mv5 rfl | exact mv6 rfl | exact mv7 rfl | exact mv8 rfl | exact mv9 rfl) rfl ?_
  refine AL.p (by first | exact g_extract (r := .d _) rfl rfl | exact g_extract (r := .own _ _) rfl rfl | exact g_extract (r := .agg _) rfl rfl | exact g_extract (r := .ptr _ _) rfl rfl | exact g_extract (r := .dead) rfl rfl) rfl ?_
  refine AL.p (by first | exact g_extract (r := .d _) rfl rfl | exact g_extract (r := .own _ _) rfl rfl | exact g_extract (r := .agg _) rfl rfl | exact g_extract (r := .ptr _ _) rfl rfl | exact g_extract (r := .dead) rfl rfl) rfl ?_
  refine AL.p (by first | exact as1 rfl | exact as2 rfl | exact as3 rfl | exact as4 rfl | exact as5 rfl | exact as6 rfl | exact as7 rfl | exact as8 rfl | exact as9 rfl) rfl ?_
  refine AL.p (by first | exact as1 rfl | exact as2 rfl | exact as3 rfl | exact as4 rfl | exact as5 rfl | exact as6 rfl | exact as7 rfl | exact as8 rfl | exact as9 rfl) rfl ?_
  refine AL.nil ?_
  refine th_n ?_
  refine AC.seq ?_
  refine AC.seq ?_
  refine AC.region ?_
  refine AL.p (by first | exact mv1 rfl | exact mv2 rfl | exact mv3 rfl | exact mv4 rfl | exact mv5 rfl | exact mv6 rfl | exact mv7 rfl | exact mv8 rfl | exact mv9 rfl) rfl ?_
  refine AL.p (by first | exact g_not rfl | exact g_neg rfl (by first | exact wrap_i64 (by omega) | exact wrap_u8 (by omega) | exact wrap_u64 (by omega) | rfl)) rfl ?_
  refine AL.p (by first | exact mv1 rfl | exact mv2 rfl | exact mv3 rfl | exact mv4 rfl | exact mv5 rfl | exact mv6 rfl | exact mv7 rfl | exact mv8 rfl | exact mv9 rfl) rfl ?_
  first | refine AL.caseG rfl rfl (fun h0 => ?_) (fun h0 => ?_) | refine AL.caseGN rfl rfl (fun h0 => ?_) (fun h0 => ?_) | refine AL.caseGB rfl rfl (fun h0 => ?_) (fun h0 => ?_) | refine AL.caseGNB rfl rfl (fun h0 => ?_) (fun h0 => ?_)
  · refine AL.not rfl rfl rfl rfl rfl ?_
    refine AL.not rfl rfl rfl rfl rfl ?_
    refine AL.not rfl rfl rfl rfl rfl ?_
    refine AL.not rfl rfl rfl rfl rfl ?_
    refine AL.not rfl rfl rfl rfl rfl ?_
    refine AL.not rfl rfl rfl rfl rfl ?_
    refine AL.p (by first | exact g_pickT (r := .d _) rfl rfl | exact g_pickF (r := .d _) rfl rfl) rfl ?_
    refine AL.nil ?_
    refine th_n ?_
    refine AC.condT rfl ?_
    refine AC.seq ?_
    refine AC.region ?_
    refine AL.p (by first | exact as1 rfl | exact as2 rfl | exact as3 rfl | exact as4 rfl | exact as5 rfl | exact as6 rfl | exact as7 rfl | exact as8 rfl | exact as9 rfl) rfl ?_
    refine AL.p (by first | exact as1 rfl | exact as2 rfl | exact as3 rfl | exact as4 rfl | exact as5 rfl | exact as6 rfl | exact as7 rfl | exact as8 rfl | exact as9 rfl) rfl ?_
    refine AL.nil ?_
    refine th_n ?_
    refine AC.ret ?_
    refine th_r ?_
    refine bq_r ?_
    exact ret2 rfl (by rw [hc0]) (by rw [hl0])
  · refine AL.yes rfl rfl rfl ?_
    refine AL.p (by first | exact mv1 rfl | exact mv2 rfl | exact mv3 rfl | exact mv4 rfl | exact mv5 rfl | exact mv6 rfl | exact mv7 rfl | exact mv8 rfl | exact mv9 rfl) rfl ?_
    refine AL.yes rfl rfl rfl ?_
    refine AL.p (by first | exact g_fa_ref rfl rfl rfl rfl rfl rfl | exact g_fa_ptr rfl rfl rfl rfl rfl) rfl ?_
    refine AL.yes rfl rfl rfl ?_
    refine AL.p (by first | exact g_load_ref rfl rfl rfl | exact g_load_ptr rfl rfl rfl rfl rfl | exact g_load_refN rfl rfl rfl rfl | exact g_load_ptrN rfl rfl rfl rfl rfl | exact g_load_arr1 rfl rfl rfl rfl (by assumption) | exact g_load_arr rfl rfl rfl rfl (by first | rfl | omega) (by first | assumption | rfl) (by first | assumption | rfl)) rfl ?_
    refine AL.yes rfl rfl rfl ?_
    refine AL.p (by first | exact g_len_view rfl rfl (by first | exact List.length_map _ | rfl) | exact g_len_str rfl rfl rfl | exact g_len_nil rfl rfl | exact g_len_own (sz := 1) (els := []) (e' := 0) rfl rfl (by simp only [maxLen]; omega) | exact g_len_tight rfl rfl (by first | exact List.length_map _ | rfl)) rfl ?_
    refine AL.yes rfl rfl rfl ?_
    refine AL.q (by exact h_pure en_isIncreasing rfl rfl (by repeat (first | exact rfl | exact DLead.same | exact DLead.nil | refine ⟨_, _, rfl, ?_, ?_⟩ | refine ⟨_, rfl, ?_⟩ | exact ⟨_, rfl, rfl⟩)) (isIncreasing_spec _ _ (by first | assumption | omega) (by first | assumption | omega)) rfl) rfl ?_
    refine AL.yes rfl rfl rfl ?_
    refine AL.p (by first | exact g_not rfl | exact g_neg rfl (by first | exact wrap_i64 (by omega) | exact wrap_u8 (by omega) | exact wrap_u64 (by omega) | rfl)) rfl ?_
    refine AL.p (by first | exact g_pickT (r := .d _) rfl rfl | exact g_pickF (r := .d _) rfl rfl) rfl ?_
    refine AL.nil ?_
    refine th_n ?_
    first | refine AC.condD rfl (fun h1 => ?_) (fun h1 => ?_) | refine AC.condND rfl (fun h1 => ?_) (fun h1 => ?_) | refine AC.condB rfl (fun h1 => ?_) (fun h1 => ?_) | refine AC.condNB rfl (fun h1 => ?_) (fun h1 => ?_)
    · refine AC.seq ?_
      refine AC.region ?_
      refine AL.p (by first | exact as1 rfl | exact as2 rfl | exact as3 rfl | exact as4 rfl | exact as5 rfl | exact as6 rfl | exact as7 rfl | exact as8 rfl | exact as9 rfl) rfl ?_
      refine AL.p (by first | exact as1 rfl | exact as2 rfl | exact as3 rfl | exact as4 rfl | exact as5 rfl | exact as6 rfl | exact as7 rfl | exact as8 rfl | exact as9 rfl) rfl ?_
      refine AL.nil ?_
      refine th_n ?_
      refine AC.ret ?_
      refine th_r ?_
      refine bq_r ?_
      exact ret2 rfl (by rw [hc0]) (by rw [hl0])
    · refine AC.skip ?_
      refine th_n ?_
      refine AC.seq ?_
      exact absurd h0 (by decide)
set_option maxHeartbeats 2000000 in
theorem iIsConf_t (N : Net) (m : List UInt8) (u : Unf) (l : List Int) (hB : NetL N) (hm : m.length ≤ 2000000) (hu : UnfL u) (hl : l.length ≤ 2000000) (hg : goodU N m u = true) : ASpec Tryz.prog 77 [netA N, aS (bstr m), unfA u, .d (vI l)] [] (Pure1 (.tup [aT (confR N m u l), aT (listB N m u l)])) := by
  have hS := branchingOf_spec N m u hB hm hu
  have hue := hu.e
  have hT := (goodU_iff hg).tru
  have hge := (goodU_iff hg).e
  rw [brRes_t hg] at hS
  have hl0 : listB N m u l = rising l 0 ((u.es.length : Int) - 1) := by unfold listB; rw [hg]; rfl
  have hc0 : confR N m u l = (rising l 0 ((u.es.length : Int) - 1) && confI u l) := by unfold confR; rw [hl0]
  obtain ⟨L, hL⟩ : ∃ L, L = locL N m u := ⟨_, rfl⟩
  obtain ⟨A, hA⟩ : ∃ A, A = agaA N m u := ⟨_, rfl⟩
  rw [← hL, ← hA] at hT hS
  have hIn := isIncreasing_spec l u.es.length hl (by omega)
  have hri : ∀ b, rising l 0 ((u.es.length : Int) - 1) = b → b = true → rising l 0 ((u.es.length : Int) - 1) = true := fun b h1 h2 => h1.trans h2
  obtain ⟨r, hr⟩ : ∃ r, r = rising l 0 ((u.es.length : Int) - 1) := ⟨_, rfl⟩
  rw [← hr] at hIn hl0 hc0 hri
  refine ASpec.of Tryz.func77 rfl rfl fun C hC => ?_
  refine AC.seq ?_
  refine AC.region ?_
  refine AL.q (by exact h_boxF rfl rfl) rfl ?_
  refine AL.q (by exact h_boxF rfl rfl) rfl ?_
  refine AL.p (by first | exact as1 rfl | exact as2 rfl | exact as3 rfl | exact as4 rfl | exact as5 rfl | exact as6 rfl | exact as7 rfl | exact as8 rfl | exact as9 rfl) rfl ?_
  refine AL.p (by first | exact as1 rfl | exact as2 rfl | exact as3 rfl | exact as4 rfl | exact as5 rfl | exact as6 rfl | exact as7 rfl | exact as8 rfl | exact as9 rfl) rfl ?_
  refine AL.nil ?_
  refine th_n ?_
  refine AC.seq ?_
  refine AC.region ?_
  refine AL.p (by first | exact g_load_ref rfl rfl rfl | exact g_load_ptr rfl rfl rfl rfl rfl | exact g_load_refN rfl rfl rfl rfl | exact g_load_ptrN rfl rfl rfl rfl rfl | exact g_load_arr1 rfl rfl rfl rfl (by assumption) | exact g_load_arr rfl rfl rfl rfl (by first | rfl | omega) (by first | assumption | rfl) (by first | assumption | rfl)) rfl ?_
  refine AL.p (by first | exact mv1 rfl | exact mv2 rfl | exact mv3 rfl | exact mv4 rfl | exact mv5 rfl | exact mv6 rfl | exact mv7 rfl | exact mv8 rfl | exact mv9 rfl) rfl ?_
  refine AL.p (by first | exact g_load_ref rfl rfl rfl | exact g_load_ptr rfl rfl rfl rfl rfl | exact g_load_refN rfl rfl rfl rfl | exact g_load_ptrN rfl rfl rfl rfl rfl | exact g_load_arr1 rfl rfl rfl rfl (by assumption) | exact g_load_arr rfl rfl rfl rfl (by first | rfl | omega) (by first | assumption | rfl) (by first | assumption | rfl)) rfl ?_
  refine AL.q (by exact h_fun (cs := []) en_branchingOf rfl rfl (by repeat (first | exact rfl | exact DLead.same | exact DLead.nil | refine ⟨_, _, rfl, ?_, ?_⟩ | refine ⟨_, rfl, ?_⟩)) (by repeat (first | exact True.intro | refine And.intro ?_ ?_ | exact DLead.same | exact DLead.eqI (by omega) | exact DLead.nil | exact rfl | refine ⟨_, _, rfl, rfl, ?_⟩ | refine ⟨_, rfl, ?_⟩ | refine ⟨_, _, rfl, ?_, ?_⟩)) hS rfl rfl rfl rfl) rfl ?_
  refine AL.p (by first | exact mv1 rfl | exact mv2 rfl | exact mv3 rfl | exact mv4 rfl | exact mv5 rfl | exact mv6 rfl | exact mv7 rfl | exact mv8 rfl | exact mv9 rfl) rfl ?_
  refine AL.p (by first | exact g_extract (r := .d _) rfl rfl | exact g_extract (r := .own _ _) rfl rfl | exact g_extract (r := .agg _) rfl rfl | exact g_extract (r := .ptr _ _) rfl rfl | exact g_extract (r := .dead) rfl rfl) rfl ?_
  refine AL.p (by first | exact g_extract (r := .d _) rfl rfl | exact g_extract (r := .own _ _) rfl rfl | exact g_extract (r := .agg _) rfl rfl | exact g_extract (r := .ptr _ _) rfl rfl | exact g_extract (r := .dead) rfl rfl) rfl ?_
  refine AL.p (by first | exact as1 rfl | exact as2 rfl | exact as3 rfl | exact as4 rfl | exact as5 rfl | exact as6 rfl | exact as7 rfl | exact as8 rfl | exact as9 rfl) rfl ?_
  refine AL.p (by first | exact as1 rfl | exact as2 rfl | exact as3 rfl | exact as4 rfl | exact as5 rfl | exact as6 rfl | exact as7 rfl | exact as8 rfl | exact as9 rfl) rfl ?_
  refine AL.nil ?_
  refine th_n ?_
  refine AC.seq ?_
  refine AC.seq ?_
  refine AC.region ?_
  refine AL.p (by first | exact mv1 rfl | exact mv2 rfl | exact mv3 rfl | exact mv4 rfl | exact mv5 rfl | exact mv6 rfl | exact mv7 rfl | exact mv8 rfl | exact mv9 rfl) rfl ?_
  refine AL.p (by first | exact g_not rfl | exact g_neg rfl (by first | exact wrap_i64 (by omega) | exact wrap_u8 (by omega) | exact wrap_u64 (by omega) | rfl)) rfl ?_
  refine AL.p (by first | exact mv1 rfl | exact mv2 rfl | exact mv3 rfl | exact mv4 rfl | exact mv5 rfl | exact mv6 rfl | exact mv7 rfl | exact mv8 rfl | exact mv9 rfl) rfl ?_
  first | refine AL.caseG rfl rfl (fun h0 => ?_) (fun h0 => ?_) | refine AL.caseGN rfl rfl (fun h0 => ?_) (fun h0 => ?_) | refine AL.caseGB rfl rfl (fun h0 => ?_) (fun h0 => ?_) | refine AL.caseGNB rfl rfl (fun h0 => ?_) (fun h0 => ?_)
  · refine AL.not rfl rfl rfl rfl rfl ?_
    refine AL.not rfl rfl rfl rfl rfl ?_
    refine AL.not rfl rfl rfl rfl rfl ?_
    refine AL.not rfl rfl rfl rfl rfl ?_
    refine AL.not rfl rfl rfl rfl rfl ?_
    refine AL.not rfl rfl rfl rfl rfl ?_
    refine AL.p (by first | exact g_pickT (r := .d _) rfl rfl | exact g_pickF (r := .d _) rfl rfl) rfl ?_
    refine AL.nil ?_
    refine th_n ?_
    refine AC.condT rfl ?_
    refine AC.seq ?_
    refine AC.region ?_
    refine AL.p (by first | exact as1 rfl | exact as2 rfl | exact as3 rfl | exact as4 rfl | exact as5 rfl | exact as6 rfl | exact as7 rfl | exact as8 rfl | exact as9 rfl) rfl ?_
    refine AL.p (by first | exact as1 rfl | exact as2 rfl | exact as3 rfl | exact as4 rfl | exact as5 rfl | exact as6 rfl | exact as7 rfl | exact as8 rfl | exact as9 rfl) rfl ?_
    refine AL.nil ?_
    refine th_n ?_
    refine AC.ret ?_
    refine th_r ?_
    refine bq_r ?_
    first | exact absurd h0 (by decide) | exact ret2 rfl (by rw [hc0, (Bool.not_eq_true' _).mp h1]; rfl) (by rw [hl0, (Bool.not_eq_true' _).mp h1])
  · refine AL.yes rfl rfl rfl ?_
    refine AL.p (by first | exact mv1 rfl | exact mv2 rfl | exact mv3 rfl | exact mv4 rfl | exact mv5 rfl | exact mv6 rfl | exact mv7 rfl | exact mv8 rfl | exact mv9 rfl) rfl ?_
    refine AL.yes rfl rfl rfl ?_
    refine AL.p (by first | exact g_fa_ref rfl rfl rfl rfl rfl rfl | exact g_fa_ptr rfl rfl rfl rfl rfl) rfl ?_
    refine AL.yes rfl rfl rfl ?_
    refine AL.p (by first | exact g_load_ref rfl rfl rfl | exact g_load_ptr rfl rfl rfl rfl rfl | exact g_load_refN rfl rfl rfl rfl | exact g_load_ptrN rfl rfl rfl rfl rfl | exact g_load_arr1 rfl rfl rfl rfl (by assumption) | exact g_load_arr rfl rfl rfl rfl (by first | rfl | omega) (by first | assumption | rfl) (by first | assumption | rfl)) rfl ?_
    refine AL.yes rfl rfl rfl ?_
    refine AL.p (by first | exact g_len_view rfl rfl (by first | exact List.length_map _ | rfl) | exact g_len_str rfl rfl rfl | exact g_len_nil rfl rfl | exact g_len_own (sz := 1) (els := []) (e' := 0) rfl rfl (by simp only [maxLen]; omega) | exact g_len_tight rfl rfl (by first | exact List.length_map _ | rfl)) rfl ?_
    refine AL.yes rfl rfl rfl ?_
    refine AL.q (by exact h_pure en_isIncreasing rfl rfl (by repeat (first | exact rfl | exact DLead.same | exact DLead.nil | refine ⟨_, _, rfl, ?_, ?_⟩ | refine ⟨_, rfl, ?_⟩)) hIn rfl) rfl ?_
    refine AL.yes rfl rfl rfl ?_
    refine AL.p (by first | exact g_not rfl | exact g_neg rfl (by first | exact wrap_i64 (by omega) | exact wrap_u8 (by omega) | exact wrap_u64 (by omega) | rfl)) rfl ?_
    refine AL.p (by first | exact g_pickT (r := .d _) rfl rfl | exact g_pickF (r := .d _) rfl rfl) rfl ?_
    refine AL.nil ?_
    refine th_n ?_
    first | refine AC.condD rfl (fun h1 => ?_) (fun h1 => ?_) | refine AC.condND rfl (fun h1 => ?_) (fun h1 => ?_) | refine AC.condB rfl (fun h1 => ?_) (fun h1 => ?_) | refine AC.condNB rfl (fun h1 => ?_) (fun h1 => ?_)
    · refine AC.seq ?_
      refine AC.region ?_
      refine AL.p (by first | exact as1 rfl | exact as2 rfl | exact as3 rfl | exact as4 rfl | exact as5 rfl | exact as6 rfl | exact as7 rfl | exact as8 rfl | exact as9 rfl) rfl ?_
      refine AL.p (by first | exact as1 rfl | exact as2 rfl | exact as3 rfl | exact as4 rfl | exact as5 rfl | exact as6 rfl | exact as7 rfl | exact as8 rfl | exact as9 rfl) rfl ?_
      refine AL.nil ?_
      refine th_n ?_
      refine AC.ret ?_
      refine th_r ?_
      refine bq_r ?_
      first | exact absurd h0 (by decide) | exact ret2 rfl (by rw [hc0, (Bool.not_eq_true' _).mp h1]; rfl) (by rw [hl0, (Bool.not_eq_true' _).mp h1])
    · refine AC.skip ?_
      refine th_n ?_
      refine AC.seq ?_
      have h1' : r = true := (Bool.not_eq_false' _).mp h1
      have hrr := hr.symm.trans h1'
      have hin := list_in hrr
      have hSe := setOf_spec l hl (fun e he => by have := hin e he; omega)
      have hCo := brConf_spec N u L A (setI l) hT.w (fun f hf => by have := hin _ ((setI_bit (fun e he => by have := hin e he; omega) f).1 hf); omega)
      rw [conf_both hT hrr] at hCo
      obtain ⟨co, hco⟩ : ∃ b, b = confI u l := ⟨_, rfl⟩
      rw [← hco] at hCo
      refine AC.region ?_
      refine AL.p (by first | exact mv1 rfl | exact mv2 rfl | exact mv3 rfl | exact mv4 rfl | exact mv5 rfl | exact mv6 rfl | exact mv7 rfl | exact mv8 rfl | exact mv9 rfl) rfl ?_
      refine AL.p (by first | exact mv1 rfl | exact mv2 rfl | exact mv3 rfl | exact mv4 rfl | exact mv5 rfl | exact mv6 rfl | exact mv7 rfl | exact mv8 rfl | exact mv9 rfl) rfl ?_
      refine AL.q (by exact h_pure en_setOf rfl rfl (by repeat (first | exact rfl | exact DLead.same | exact DLead.nil | refine ⟨_, _, rfl, ?_, ?_⟩ | refine ⟨_, rfl, ?_⟩)) hSe rfl) rfl ?_
      refine AL.q (by exact h_borrow [16, 17, 18, 19, 20] en_brConf rfl rfl hCo (br_lent [16, 17, 18, 19, 20] 16 17 18 19 20 rfl rfl rfl rfl rfl rfl rfl rfl rfl rfl (.cons (.of .d) .nil)) rfl) rfl ?_
      refine AL.p (by first | exact as1 rfl | exact as2 rfl | exact as3 rfl | exact as4 rfl | exact as5 rfl | exact as6 rfl | exact as7 rfl | exact as8 rfl | exact as9 rfl) rfl ?_
      refine AL.p (by first | exact as1 rfl | exact as2 rfl | exact as3 rfl | exact as4 rfl | exact as5 rfl | exact as6 rfl | exact as7 rfl | exact as8 rfl | exact as9 rfl) rfl ?_
      refine AL.nil ?_
      refine th_n ?_
      refine AC.ret ?_
      refine bq_r ?_
      exact ret2 rfl (by rw [hc0, h1', hco]; rfl) (by rw [hl0, h1'])
theorem en_iIsConf : Enters Tryz.prog 77 := enters_of Tryz.func77 rfl rfl
theorem iIsConf_spec (N : Net) (m : List UInt8) (u : Unf) (l : List Int) (hB : NetL N) (hm : m.length ≤ 2000000) (hu : UnfL u) (hl : l.length ≤ 2000000) : ASpec Tryz.prog 77 [netA N, aS (bstr m), unfA u, .d (vI l)] [] (Pure1 (.tup [aT (confR N m u l), aT (listB N m u l)])) := by
  cases hg : goodU N m u with
  | true => exact iIsConf_t N m u l hB hm hu hl hg
  | false => exact iIsConf_f N m u l hB hm hu hl hg
end Go.Proofs.YtolfgbcnielnoaaGreat

set_option linter.all false
set_option maxRecDepth 20000
namespace Go.Proofs.YtolfgbcnielnoaaGreat
open Go.RowKit

theorem cutK_congr {q r : Nat → Bool} (h : ∀ c, q c = r c) (k : Nat) : cutK q k = cutK r k := by rw [show q = r from funext h]
end Go.Proofs.YtolfgbcnielnoaaGreat

set_option linter.all false
set_option maxRecDepth 20000
namespace Go.Proofs.YtolfgbcnielnoaaGreat
open Go.RowKit

theorem and_l0 {a b : Bool} (h : (!a) = true) : (a && b) = false := by rw [(Bool.not_eq_true' _).mp h]; rfl
theorem and_r0 {a b : Bool} (h : (!b) = true) : (a && b) = false := by rw [(Bool.not_eq_true' _).mp h, Bool.and_false]
def confRes (N : Net) (m : List UInt8) (u : Unf) (l : List Int) : AV → List (Nat × Chunk) → Prop := if confR N m u l = true then Fun1 (.tup [.ptr 0 0, aU (setI l), aT true]) (brChs N u (locL N m u) (agaA N m u)) else Pure1 (.tup [.dead, .dead, aT false])
theorem conf_iff {N : Net} {m : List UInt8} {u : Unf} {l : List Int} (h : confR N m u l = true) : listB N m u l = true ∧ confI u l = true := by unfold confR at h; rwa [Bool.and_eq_true] at h
set_option maxHeartbeats 2000000 in
theorem confOf_f (N : Net) (m : List UInt8) (u : Unf) (l : List Int) (hB : NetL N) (hm : m.length ≤ 2000000) (hu : UnfL u) (hl : l.length ≤ 2000000) (hc : confR N m u l = false) : ASpec Tryz.prog 50 [netA N, aS (bstr m), unfA u, .d (vI l)] [] (confRes N m u l) := by
  have hI := iIsConf_spec N m u l hB hm hu hl
  rw [hc] at hI
  obtain ⟨g, hg⟩ : ∃ g, g = listB N m u l := ⟨_, rfl⟩
  rw [← hg] at hI
  rw [show confRes N m u l = Pure1 (.tup [.dead, .dead, aT false]) from if_neg (by rw [hc]; exact Bool.false_ne_true)]
  refine ASpec.of Tryz.func50 rfl rfl fun C hC => ?_
  refine AC.seq ?_
  refine AC.region ?_
  refine AL.q (by exact h_boxF rfl rfl) rfl ?_
  refine AL.q (by exact h_boxF rfl rfl) rfl ?_
  refine AL.p (by first | exact as1 rfl | exact as2 rfl | exact as3 rfl | exact as4 rfl | exact as5 rfl | exact as6 rfl | exact as7 rfl | exact as8 rfl | exact as9 rfl) rfl ?_
  refine AL.p (by first | exact as1 rfl | exact as2 rfl | exact as3 rfl | exact as4 rfl | exact as5 rfl | exact as6 rfl | exact as7 rfl | exact as8 rfl | exact as9 rfl) rfl ?_
  refine AL.p (by first | exact as1 rfl | exact as2 rfl | exact as3 rfl | exact as4 rfl | exact as5 rfl | exact as6 rfl | exact as7 rfl | exact as8 rfl | exact as9 rfl) rfl ?_
  refine AL.nil ?_
  refine th_n ?_
  refine AC.seq ?_
  refine AC.region ?_
  refine AL.p (by first | exact g_load_ref rfl rfl rfl | exact g_load_ptr rfl rfl rfl rfl rfl | exact g_load_refN rfl rfl rfl rfl | exact g_load_ptrN rfl rfl rfl rfl rfl | exact g_load_arr1 rfl rfl rfl rfl (by assumption) | exact g_load_arr rfl rfl rfl rfl (by first | rfl | omega) (by first | assumption | rfl) (by first | assumption | rfl)) rfl ?_
  refine AL.p (by first | exact mv1 rfl | exact mv2 rfl | exact mv3 rfl | exact mv4 rfl | exact mv5 rfl | exact mv6 rfl | exact mv7 rfl | exact mv8 rfl | exact mv9 rfl) rfl ?_
  refine AL.p (by first | exact g_load_ref rfl rfl rfl | exact g_load_ptr rfl rfl rfl rfl rfl | exact g_load_refN rfl rfl rfl rfl | exact g_load_ptrN rfl rfl rfl rfl rfl | exact g_load_arr1 rfl rfl rfl rfl (by assumption) | exact g_load_arr rfl rfl rfl rfl (by first | rfl | omega) (by first | assumption | rfl) (by first | assumption | rfl)) rfl ?_
  refine AL.p (by first | exact mv1 rfl | exact mv2 rfl | exact mv3 rfl | exact mv4 rfl | exact mv5 rfl | exact mv6 rfl | exact mv7 rfl | exact mv8 rfl | exact mv9 rfl) rfl ?_
  refine AL.q (by exact h_pure en_iIsConf rfl rfl (by repeat (first | exact rfl | exact DLead.same | exact DLead.nil | refine ⟨_, _, rfl, ?_, ?_⟩ | refine ⟨_, rfl, ?_⟩ | exact ⟨_, rfl, rfl⟩)) hI rfl) rfl ?_
  refine AL.p (by first | exact mv1 rfl | exact mv2 rfl | exact mv3 rfl | exact mv4 rfl | exact mv5 rfl | exact mv6 rfl | exact mv7 rfl | exact mv8 rfl | exact mv9 rfl) rfl ?_
  refine AL.p (by first | exact g_extract (r := .d _) rfl rfl | exact g_extract (r := .own _ _) rfl rfl | exact g_extract (r := .agg _) rfl rfl | exact g_extract (r := .ptr _ _) rfl rfl | exact g_extract (r := .dead) rfl rfl) rfl ?_
  refine AL.p (by first | exact g_extract (r := .d _) rfl rfl | exact g_extract (r := .own _ _) rfl rfl | exact g_extract (r := .agg _) rfl rfl | exact g_extract (r := .ptr _ _) rfl rfl | exact g_extract (r := .dead) rfl rfl) rfl ?_
  refine AL.p (by first | exact as1 rfl | exact as2 rfl | exact as3 rfl | exact as4 rfl | exact as5 rfl | exact as6 rfl | exact as7 rfl | exact as8 rfl | exact as9 rfl) rfl ?_
  refine AL.p (by first | exact as1 rfl | exact as2 rfl | exact as3 rfl | exact as4 rfl | exact as5 rfl | exact as6 rfl | exact as7 rfl | exact as8 rfl | exact as9 rfl) rfl ?_
  refine AL.nil ?_
  refine th_n ?_
  refine AC.seq ?_
  refine AC.seq ?_
  refine AC.region ?_
  refine AL.p (by first | exact mv1 rfl | exact mv2 rfl | exact mv3 rfl | exact mv4 rfl | exact mv5 rfl | exact mv6 rfl | exact mv7 rfl | exact mv8 rfl | exact mv9 rfl) rfl ?_
  refine AL.p (by first | exact g_not rfl | exact g_neg rfl (by first | exact wrap_i64 (by omega) | exact wrap_u8 (by omega) | exact wrap_u64 (by omega) | rfl)) rfl ?_
  refine AL.p (by first | exact mv1 rfl | exact mv2 rfl | exact mv3 rfl | exact mv4 rfl | exact mv5 rfl | exact mv6 rfl | exact mv7 rfl | exact mv8 rfl | exact mv9 rfl) rfl ?_
  first | refine AL.caseG rfl rfl (fun h0 => ?_) (fun h0 => ?_) | refine AL.caseGN rfl rfl (fun h0 => ?_) (fun h0 => ?_) | refine AL.caseGB rfl rfl (fun h0 => ?_) (fun h0 => ?_) | refine AL.caseGNB rfl rfl (fun h0 => ?_) (fun h0 => ?_)
  · refine AL.not rfl rfl rfl rfl rfl ?_
    refine AL.not rfl rfl rfl rfl rfl ?_
    refine AL.p (by first | exact g_pickT (r := .d _) rfl rfl | exact g_pickF (r := .d _) rfl rfl) rfl ?_
    refine AL.nil ?_
    refine th_n ?_
    refine AC.condT rfl ?_
    refine AC.seq ?_
    refine AC.region ?_
    refine AL.p (by first | exact as1 rfl | exact as2 rfl | exact as3 rfl | exact as4 rfl | exact as5 rfl | exact as6 rfl | exact as7 rfl | exact as8 rfl | exact as9 rfl) rfl ?_
    refine AL.p (by first | exact as1 rfl | exact as2 rfl | exact as3 rfl | exact as4 rfl | exact as5 rfl | exact as6 rfl | exact as7 rfl | exact as8 rfl | exact as9 rfl) rfl ?_
    refine AL.p (by first | exact as1 rfl | exact as2 rfl | exact as3 rfl | exact as4 rfl | exact as5 rfl | exact as6 rfl | exact as7 rfl | exact as8 rfl | exact as9 rfl) rfl ?_
    refine AL.nil ?_
    refine th_n ?_
    refine AC.ret ?_
    refine th_r ?_
    refine bq_r ?_
    exact ret0 rfl (by repeat (first | exact rfl | exact DLead.same | exact DLead.nil | exact True.intro | refine ⟨_, _, rfl, ?_, ?_⟩ | refine ⟨_, rfl, ?_⟩))
  · refine AL.yes rfl rfl rfl ?_
    refine AL.p (by first | exact mv1 rfl | exact mv2 rfl | exact mv3 rfl | exact mv4 rfl | exact mv5 rfl | exact mv6 rfl | exact mv7 rfl | exact mv8 rfl | exact mv9 rfl) rfl ?_
    refine AL.yes rfl rfl rfl ?_
    refine AL.p (by first | exact g_not rfl | exact g_neg rfl (by first | exact wrap_i64 (by omega) | exact wrap_u8 (by omega) | exact wrap_u64 (by omega) | rfl)) rfl ?_
    refine AL.p (by first | exact g_pickT (r := .d _) rfl rfl | exact g_pickF (r := .d _) rfl rfl) rfl ?_
    refine AL.nil ?_
    refine th_n ?_
    first | refine AC.condD rfl (fun h1 => ?_) (fun h1 => ?_) | refine AC.condND rfl (fun h1 => ?_) (fun h1 => ?_) | refine AC.condB rfl (fun h1 => ?_) (fun h1 => ?_) | refine AC.condNB rfl (fun h1 => ?_) (fun h1 => ?_)
    · refine AC.seq ?_
      refine AC.region ?_
      refine AL.p (by first | exact as1 rfl | exact as2 rfl | exact as3 rfl | exact as4 rfl | exact as5 rfl | exact as6 rfl | exact as7 rfl | exact as8 rfl | exact as9 rfl) rfl ?_
      refine AL.p (by first | exact as1 rfl | exact as2 rfl | exact as3 rfl | exact as4 rfl | exact as5 rfl | exact as6 rfl | exact as7 rfl | exact as8 rfl | exact as9 rfl) rfl ?_
      refine AL.p (by first | exact as1 rfl | exact as2 rfl | exact as3 rfl | exact as4 rfl | exact as5 rfl | exact as6 rfl | exact as7 rfl | exact as8 rfl | exact as9 rfl) rfl ?_
      refine AL.nil ?_
      refine th_n ?_
      refine AC.ret ?_
      refine th_r ?_
      refine bq_r ?_
      exact ret0 rfl (by repeat (first | exact rfl | exact DLead.same | exact DLead.nil | exact True.intro | refine ⟨_, _, rfl, ?_, ?_⟩ | refine ⟨_, rfl, ?_⟩))
    · refine AC.skip ?_
      refine th_n ?_
      refine AC.seq ?_
      exact absurd h1 (by decide)
set_option maxHeartbeats 2000000 in
theorem confOf_t (N : Net) (m : List UInt8) (u : Unf) (l : List Int) (hB : NetL N) (hm : m.length ≤ 2000000) (hu : UnfL u) (hl : l.length ≤ 2000000) (hc : confR N m u l = true) : ASpec Tryz.prog 50 [netA N, aS (bstr m), unfA u, .d (vI l)] [] (confRes N m u l) := by
  have hI := iIsConf_spec N m u l hB hm hu hl
  obtain ⟨hlb, hci⟩ := conf_iff hc
  rw [hc, hlb] at hI
  obtain ⟨hG, hr, hll⟩ := listB_iff hlb
  have hge := hG.e
  have hgu : goodU N m u = true := by unfold listB at hlb; rw [Bool.and_eq_true] at hlb; exact hlb.1
  have hS := branchingOf_spec N m u hB hm hu
  rw [brRes_t hgu] at hS
  have hin := list_in hr
  have hSe := setOf_spec l hl (fun e he => by have := hin e he; omega)
  rw [show confRes N m u l = Fun1 (.tup [.ptr 0 0, aU (setI l), aT true]) (brChs N u (locL N m u) (agaA N m u)) from if_pos hc]
  obtain ⟨L, hL⟩ : ∃ L, L = locL N m u := ⟨_, rfl⟩
  obtain ⟨A, hA⟩ : ∃ A, A = agaA N m u := ⟨_, rfl⟩
  rw [← hL, ← hA] at hS ⊢
  refine ASpec.of Tryz.func50 rfl rfl fun C hC => ?_
  refine AC.seq ?_
  refine AC.region ?_
  refine AL.q (by exact h_boxF rfl rfl) rfl ?_
  refine AL.q (by exact h_boxF rfl rfl) rfl ?_
  refine AL.p (by first | exact as1 rfl | exact as2 rfl | exact as3 rfl | exact as4 rfl | exact as5 rfl | exact as6 rfl | exact as7 rfl | exact as8 rfl | exact as9 rfl) rfl ?_
  refine AL.p (by first | exact as1 rfl | exact as2 rfl | exact as3 rfl | exact as4 rfl | exact as5 rfl | exact as6 rfl | exact as7 rfl | exact as8 rfl | exact as9 rfl) rfl ?_
  refine AL.p (by first | exact as1 rfl | exact as2 rfl | exact as3 rfl | exact as4 rfl | exact as5 rfl | exact as6 rfl | exact as7 rfl | exact as8 rfl | exact as9 rfl) rfl ?_
  refine AL.nil ?_
  refine th_n ?_
  refine AC.seq ?_
  refine AC.region ?_
  refine AL.p (by first | exact g_load_ref rfl rfl rfl | exact g_load_ptr rfl rfl rfl rfl rfl | exact g_load_refN rfl rfl rfl rfl | exact g_load_ptrN rfl rfl rfl rfl rfl | exact g_load_arr1 rfl rfl rfl rfl (by assumption) | exact g_load_arr rfl rfl rfl rfl (by first | rfl | omega) (by first | assumption | rfl) (by first | assumption | rfl)) rfl ?_
  refine AL.p (by first | exact mv1 rfl | exact mv2 rfl | exact mv3 rfl | exact mv4 rfl | exact mv5 rfl | exact mv6 rfl | exact mv7 rfl | exact mv8 rfl | exact mv9 rfl) rfl ?_
  refine AL.p (by first | exact g_load_ref rfl rfl rfl | exact g_load_ptr rfl rfl rfl rfl rfl | exact g_load_refN rfl rfl rfl rfl | exact g_load_ptrN rfl rfl rfl rfl rfl | exact g_load_arr1 rfl rfl rfl rfl (by assumption) | exact g_load_arr rfl rfl rfl rfl (by first | rfl | omega) (by first | assumption | rfl) (by first | assumption | rfl)) rfl ?_
  refine AL.p (by first | exact mv1 rfl | exact mv2 rfl | exact mv3 rfl | exact mv4 rfl | exact mv5 rfl | exact mv6 rfl | exact mv7 rfl | exact mv8 rfl | exact mv9 rfl) rfl ?_
  refine AL.q (by exact h_pure en_iIsConf rfl rfl (by repeat (first | exact rfl | exact DLead.same | exact DLead.nil | refine ⟨_, _, rfl, ?_, ?_⟩ | refine ⟨_, rfl, ?_⟩ | exact ⟨_, rfl, rfl⟩)) hI rfl) rfl ?_
  refine AL.p (by first | exact mv1 rfl | exact mv2 rfl | exact mv3 rfl | exact mv4 rfl | exact mv5 rfl | exact mv6 rfl | exact mv7 rfl | exact mv8 rfl | exact mv9 rfl) rfl ?_
  refine AL.p (by first | exact g_extract (r := .d _) rfl rfl | exact g_extract (r := .own _ _) rfl rfl | exact g_extract (r := .agg _) rfl rfl | exact g_extract (r := .ptr _ _) rfl rfl | exact g_extract (r := .dead) rfl rfl) rfl ?_
  refine AL.p (by first | exact g_extract (r := .d _) rfl rfl | exact g_extract (r := .own _ _) rfl rfl | exact g_extract (r := .agg _) rfl rfl | exact g_extract (r := .ptr _ _) rfl rfl | exact g_extract (r := .dead) rfl rfl) rfl ?_
  refine AL.p (by first | exact as1 rfl | exact as2 rfl | exact as3 rfl | exact as4 rfl | exact as5 rfl | exact as6 rfl | exact as7 rfl | exact as8 rfl | exact as9 rfl) rfl ?_
  refine AL.p (by first | exact as1 rfl | exact as2 rfl | exact as3 rfl | exact as4 rfl | exact as5 rfl | exact as6 rfl | exact as7 rfl | exact as8 rfl | exact as9 rfl) rfl ?_
  refine AL.nil ?_
  refine th_n ?_
  refine AC.seq ?_
  refine AC.seq ?_
  refine AC.region ?_
  refine AL.p (by first | exact mv1 rfl | exact mv2 rfl | exact mv3 rfl | exact mv4 rfl | exact mv5 rfl | exact mv6 rfl | exact mv7 rfl | exact mv8 rfl | exact mv9 rfl) rfl ?_
  refine AL.p (by first | exact g_not rfl | exact g_neg rfl (by first | exact wrap_i64 (by omega) | exact wrap_u8 (by omega) | exact wrap_u64 (by omega) | rfl)) rfl ?_
  refine AL.p (by first | exact mv1 rfl | exact mv2 rfl | exact mv3 rfl | exact mv4 rfl | exact mv5 rfl | exact mv6 rfl | exact mv7 rfl | exact mv8 rfl | exact mv9 rfl) rfl ?_
  first | refine AL.caseG rfl rfl (fun h0 => ?_) (fun h0 => ?_) | refine AL.caseGN rfl rfl (fun h0 => ?_) (fun h0 => ?_) | refine AL.caseGB rfl rfl (fun h0 => ?_) (fun h0 => ?_) | refine AL.caseGNB rfl rfl (fun h0 => ?_) (fun h0 => ?_)
  · refine AL.not rfl rfl rfl rfl rfl ?_
    refine AL.not rfl rfl rfl rfl rfl ?_
    refine AL.p (by first | exact g_pickT (r := .d _) rfl rfl | exact g_pickF (r := .d _) rfl rfl) rfl ?_
    refine AL.nil ?_
    refine th_n ?_
    refine AC.condT rfl ?_
    refine AC.seq ?_
    refine AC.region ?_
    refine AL.p (by first | exact as1 rfl | exact as2 rfl | exact as3 rfl | exact as4 rfl | exact as5 rfl | exact as6 rfl | exact as7 rfl | exact as8 rfl | exact as9 rfl) rfl ?_
    refine AL.p (by first | exact as1 rfl | exact as2 rfl | exact as3 rfl | exact as4 rfl | exact as5 rfl | exact as6 rfl | exact as7 rfl | exact as8 rfl | exact as9 rfl) rfl ?_
    refine AL.p (by first | exact as1 rfl | exact as2 rfl | exact as3 rfl | exact as4 rfl | exact as5 rfl | exact as6 rfl | exact as7 rfl | exact as8 rfl | exact as9 rfl) rfl ?_
    refine AL.nil ?_
    refine th_n ?_
    refine AC.ret ?_
    refine th_r ?_
    refine bq_r ?_
    first | exact absurd h0 (by decide) | exact absurd h1 (by decide)
  · refine AL.yes rfl rfl rfl ?_
    refine AL.p (by first | exact mv1 rfl | exact mv2 rfl | exact mv3 rfl | exact mv4 rfl | exact mv5 rfl | exact mv6 rfl | exact mv7 rfl | exact mv8 rfl | exact mv9 rfl) rfl ?_
    refine AL.yes rfl rfl rfl ?_
    refine AL.p (by first | exact g_not rfl | exact g_neg rfl (by first | exact wrap_i64 (by omega) | exact wrap_u8 (by omega) | exact wrap_u64 (by omega) | rfl)) rfl ?_
    refine AL.p (by first | exact g_pickT (r := .d _) rfl rfl | exact g_pickF (r := .d _) rfl rfl) rfl ?_
    refine AL.nil ?_
    refine th_n ?_
    first | refine AC.condD rfl (fun h1 => ?_) (fun h1 => ?_) | refine AC.condND rfl (fun h1 => ?_) (fun h1 => ?_) | refine AC.condB rfl (fun h1 => ?_) (fun h1 => ?_) | refine AC.condNB rfl (fun h1 => ?_) (fun h1 => ?_)
    · refine AC.seq ?_
      refine AC.region ?_
      refine AL.p (by first | exact as1 rfl | exact as2 rfl | exact as3 rfl | exact as4 rfl | exact as5 rfl | exact as6 rfl | exact as7 rfl | exact as8 rfl | exact as9 rfl) rfl ?_
      refine AL.p (by first | exact as1 rfl | exact as2 rfl | exact as3 rfl | exact as4 rfl | exact as5 rfl | exact as6 rfl | exact as7 rfl | exact as8 rfl | exact as9 rfl) rfl ?_
      refine AL.p (by first | exact as1 rfl | exact as2 rfl | exact as3 rfl | exact as4 rfl | exact as5 rfl | exact as6 rfl | exact as7 rfl | exact as8 rfl | exact as9 rfl) rfl ?_
      refine AL.nil ?_
      refine th_n ?_
      refine AC.ret ?_
      refine th_r ?_
      refine bq_r ?_
      first | exact absurd h0 (by decide) | exact absurd h1 (by decide)
    · refine AC.skip ?_
      refine th_n ?_
      refine AC.seq ?_
      refine AC.region ?_
      refine AL.p (by first | exact g_load_ref rfl rfl rfl | exact g_load_ptr rfl rfl rfl rfl rfl | exact g_load_refN rfl rfl rfl rfl | exact g_load_ptrN rfl rfl rfl rfl rfl | exact g_load_arr1 rfl rfl rfl rfl (by assumption) | exact g_load_arr rfl rfl rfl rfl (by first | rfl | omega) (by first | assumption | rfl) (by first | assumption | rfl)) rfl ?_
      refine AL.p (by first | exact mv1 rfl | exact mv2 rfl | exact mv3 rfl | exact mv4 rfl | exact mv5 rfl | exact mv6 rfl | exact mv7 rfl | exact mv8 rfl | exact mv9 rfl) rfl ?_
      refine AL.p (by first | exact g_load_ref rfl rfl rfl | exact g_load_ptr rfl rfl rfl rfl rfl | exact g_load_refN rfl rfl rfl rfl | exact g_load_ptrN rfl rfl rfl rfl rfl | exact g_load_arr1 rfl rfl rfl rfl (by assumption) | exact g_load_arr rfl rfl rfl rfl (by first | rfl | omega) (by first | assumption | rfl) (by first | assumption | rfl)) rfl ?_
      refine AL.q (by exact h_fun (cs := []) en_branchingOf rfl rfl (by repeat (first | exact rfl | exact DLead.same | exact DLead.nil | refine ⟨_, _, rfl, ?_, ?_⟩ | refine ⟨_, rfl, ?_⟩)) (by repeat (first | exact True.intro | refine And.intro ?_ ?_ | exact DLead.same | exact DLead.eqI (by omega) | exact DLead.nil | exact rfl | refine ⟨_, _, rfl, rfl, ?_⟩ | refine ⟨_, rfl, ?_⟩ | refine ⟨_, _, rfl, ?_, ?_⟩)) hS rfl rfl rfl rfl) rfl ?_
      refine AL.p (by first | exact mv1 rfl | exact mv2 rfl | exact mv3 rfl | exact mv4 rfl | exact mv5 rfl | exact mv6 rfl | exact mv7 rfl | exact mv8 rfl | exact mv9 rfl) rfl ?_
      refine AL.p (by first | exact g_extract (r := .d _) rfl rfl | exact g_extract (r := .own _ _) rfl rfl | exact g_extract (r := .agg _) rfl rfl | exact g_extract (r := .ptr _ _) rfl rfl | exact g_extract (r := .dead) rfl rfl) rfl ?_
      refine AL.p (by first | exact g_extract (r := .d _) rfl rfl | exact g_extract (r := .own _ _) rfl rfl | exact g_extract (r := .agg _) rfl rfl | exact g_extract (r := .ptr _ _) rfl rfl | exact g_extract (r := .dead) rfl rfl) rfl ?_
      refine AL.p (by first | exact as1 rfl | exact as2 rfl | exact as3 rfl | exact as4 rfl | exact as5 rfl | exact as6 rfl | exact as7 rfl | exact as8 rfl | exact as9 rfl) rfl ?_
      refine AL.p (by first | exact as1 rfl | exact as2 rfl | exact as3 rfl | exact as4 rfl | exact as5 rfl | exact as6 rfl | exact as7 rfl | exact as8 rfl | exact as9 rfl) rfl ?_
      refine AL.nil ?_
      refine th_n ?_
      refine AC.seq ?_
      refine AC.region ?_
      refine AL.p (by first | exact mv1 rfl | exact mv2 rfl | exact mv3 rfl | exact mv4 rfl | exact mv5 rfl | exact mv6 rfl | exact mv7 rfl | exact mv8 rfl | exact mv9 rfl) rfl ?_
      refine AL.p (by first | exact mv1 rfl | exact mv2 rfl | exact mv3 rfl | exact mv4 rfl | exact mv5 rfl | exact mv6 rfl | exact mv7 rfl | exact mv8 rfl | exact mv9 rfl) rfl ?_
      refine AL.q (by exact h_pure en_setOf rfl rfl (by repeat (first | exact rfl | exact DLead.same | exact DLead.nil | refine ⟨_, _, rfl, ?_, ?_⟩ | refine ⟨_, rfl, ?_⟩ | exact ⟨_, rfl, rfl⟩)) hSe rfl) rfl ?_
      refine AL.p (by first | exact as1 rfl | exact as2 rfl | exact as3 rfl | exact as4 rfl | exact as5 rfl | exact as6 rfl | exact as7 rfl | exact as8 rfl | exact as9 rfl) rfl ?_
      refine AL.p (by first | exact as1 rfl | exact as2 rfl | exact as3 rfl | exact as4 rfl | exact as5 rfl | exact as6 rfl | exact as7 rfl | exact as8 rfl | exact as9 rfl) rfl ?_
      refine AL.p (by first | exact as1 rfl | exact as2 rfl | exact as3 rfl | exact as4 rfl | exact as5 rfl | exact as6 rfl | exact as7 rfl | exact as8 rfl | exact as9 rfl) rfl ?_
      refine AL.nil ?_
      refine th_n ?_
      refine AC.ret ?_
      refine bq_r ?_
      exact retN [(0, _), (1, _), (2, _), (3, _), (4, _)] rfl (by repeat (first | exact rfl | exact DLead.same | exact DLead.nil | refine ⟨_, _, rfl, ?_, ?_⟩ | refine ⟨_, rfl, ?_⟩)) (by repeat (first | exact True.intro | refine And.intro ?_ ?_ | exact DLead.same | exact DLead.eqI (by omega) | exact DLead.nil | exact rfl | refine ⟨_, _, rfl, rfl, ?_⟩ | refine ⟨_, rfl, ?_⟩ | refine ⟨_, _, rfl, ?_, ?_⟩)) rfl rfl
theorem en_confOf : Enters Tryz.prog 50 := enters_of Tryz.func50 rfl rfl
end Go.Proofs.YtolfgbcnielnoaaGreat

set_option linter.all false
set_option maxRecDepth 20000
namespace Go.Proofs.YtolfgbcnielnoaaGreat
open Go.RowKit

set_option maxHeartbeats 1000000 in
theorem heldIntS_spec (k : Int) (n : Nat) (hn : n ≤ 1048576) (hk : 0 ≤ k ∧ k ≤ 1073741824) : ASpec Tryz.prog 18 [.d (vI (seqI k n)), aI k] [] (Pure1 (aI (k + n))) := by
  have hl := seqI_len k n
  refine ASpec.of Tryz.func18 rfl rfl fun C hC => ?_
  refine AC.seq ?_
  refine AC.region ?_
  refine AL.p (by first | exact as1 rfl | exact as2 rfl | exact as3 rfl | exact as4 rfl | exact as5 rfl | exact as6 rfl | exact as7 rfl | exact as8 rfl | exact as9 rfl) rfl ?_
  refine AL.nil ?_
  refine th_n ?_
  refine AC.seq ?_
  refine AC.seq ?_
  refine AC.region ?_
  refine AL.p (by first | exact as1 rfl | exact as2 rfl | exact as3 rfl | exact as4 rfl | exact as5 rfl | exact as6 rfl | exact as7 rfl | exact as8 rfl | exact as9 rfl) rfl ?_
  refine AL.nil ?_
  refine th_n ?_
  refine AC.block ?_
  refine AC.loop (ι := Nat) (fun i => ⟨21, 0, [(0, .d (vI (seqI k n))), (1, aI (k + i)), (5, aI i)], []⟩) (fun i => i ≤ n) (fun i => n - i) (0) ?_ (Nat.zero_le _) ?_
  · refine Weak.ren _ [] hC rfl ?_ ?_ rfl rfl rfl <;> repeat (first | exact True.intro | refine And.intro ?_ ?_ | exact DLead.same | exact DLead.eqI (by omega) | exact DLead.nil | exact rfl)
  · intro i hi
    refine AC.seq ?_
    refine AC.seq ?_
    refine AC.region ?_
    refine AL.p (by first | exact mv1 rfl | exact mv2 rfl | exact mv3 rfl | exact mv4 rfl | exact mv5 rfl | exact mv6 rfl | exact mv7 rfl | exact mv8 rfl | exact mv9 rfl) rfl ?_
    refine AL.p (by first | exact mv1 rfl | exact mv2 rfl | exact mv3 rfl | exact mv4 rfl | exact mv5 rfl | exact mv6 rfl | exact mv7 rfl | exact mv8 rfl | exact mv9 rfl) rfl ?_
    refine AL.p (by first | exact g_len_view rfl rfl (by first | exact List.length_map _ | rfl) | exact g_len_str rfl rfl rfl | exact g_len_nil rfl rfl | exact g_len_own (sz := 1) (els := []) (e' := 0) rfl rfl (by simp only [maxLen]; omega) | exact g_len_tight rfl rfl (by first | exact List.length_map _ | rfl)) rfl ?_
    refine AL.p (by first | exact g_cmp rfl rfl rfl | exact g_scmp rfl rfl rfl | exact g_eqB rfl rfl rfl | exact g_neB rfl rfl rfl) rfl ?_
    refine AL.nil ?_
    refine th_n ?_
    first | refine AC.condD rfl (fun h0 => ?_) (fun h0 => ?_) | refine AC.condND rfl (fun h0 => ?_) (fun h0 => ?_) | refine AC.condB rfl (fun h0 => ?_) (fun h0 => ?_) | refine AC.condNB rfl (fun h0 => ?_) (fun h0 => ?_)
    · refine AC.skip ?_
      refine th_n ?_
      refine AC.seq ?_
      refine AC.block ?_
      refine AC.seq ?_
      refine AC.seq ?_
      have hi1 : i < n := by omega
      have hget : (ints (seqI k n))[i]? = some [dI (k + i)] := by simp [ints, seqI, hi1]
      refine AC.region ?_
      refine AL.p (by first | exact mv1 rfl | exact mv2 rfl | exact mv3 rfl | exact mv4 rfl | exact mv5 rfl | exact mv6 rfl | exact mv7 rfl | exact mv8 rfl | exact mv9 rfl) rfl ?_
      refine AL.p (by first | exact mv1 rfl | exact mv2 rfl | exact mv3 rfl | exact mv4 rfl | exact mv5 rfl | exact mv6 rfl | exact mv7 rfl | exact mv8 rfl | exact mv9 rfl) rfl ?_
      refine AL.p (by first | exact g_ia_view rfl rfl rfl rfl rfl (by first | rfl | assumption) (by first | assumption | rfl) | exact g_ia_own rfl rfl rfl rfl rfl (by first | rfl | assumption) (by omega) (by first | exact Nat.mul_one _ | rfl | omega)) rfl ?_
      refine AL.p (by first | exact g_load_ref rfl rfl rfl | exact g_load_ptr rfl rfl rfl rfl rfl | exact g_load_refN rfl rfl rfl rfl | exact g_load_ptrN rfl rfl rfl rfl rfl | exact g_load_arr1 rfl rfl rfl rfl (by assumption) | exact g_load_arr rfl rfl rfl rfl (by first | rfl | omega) (by first | assumption | rfl) (by first | assumption | rfl)) rfl ?_
      refine AL.p (by first | exact mv1 rfl | exact mv2 rfl | exact mv3 rfl | exact mv4 rfl | exact mv5 rfl | exact mv6 rfl | exact mv7 rfl | exact mv8 rfl | exact mv9 rfl) rfl ?_
      refine AL.p (by first | exact g_cmp rfl rfl rfl | exact g_scmp rfl rfl rfl | exact g_eqB rfl rfl rfl | exact g_neB rfl rfl rfl) rfl ?_
      refine AL.nil ?_
      refine th_n ?_
      first | refine AC.condD rfl (fun h1 => ?_) (fun h1 => ?_) | refine AC.condND rfl (fun h1 => ?_) (fun h1 => ?_) | refine AC.condB rfl (fun h1 => ?_) (fun h1 => ?_) | refine AC.condNB rfl (fun h1 => ?_) (fun h1 => ?_)
      · refine AC.seq ?_
        exact absurd h1 (by simp)
      · refine AC.skip ?_
        refine th_n ?_
        refine AC.region ?_
        refine AL.p (by first | exact mv1 rfl | exact mv2 rfl | exact mv3 rfl | exact mv4 rfl | exact mv5 rfl | exact mv6 rfl | exact mv7 rfl | exact mv8 rfl | exact mv9 rfl) rfl ?_
        refine AL.p (by first | exact g_arith rfl rfl rfl (by first | exact wrap_i64 (by omega) | exact wrap_u8 (by omega) | exact wrap_u64 (by omega) | rfl) | exact g_sadd rfl rfl (by first | assumption | omega | (simp only [ByteArray.size_append, bstr_size, List.length_take, List.length_drop, List.length_cons, List.length_nil]; omega))) rfl ?_
        refine AL.p (by first | exact as1 rfl | exact as2 rfl | exact as3 rfl | exact as4 rfl | exact as5 rfl | exact as6 rfl | exact as7 rfl | exact as8 rfl | exact as9 rfl) rfl ?_
        refine AL.nil ?_
        refine ib_n ?_
        refine th_n ?_
        refine AC.region ?_
        refine AL.p (by first | exact mv1 rfl | exact mv2 rfl | exact mv3 rfl | exact mv4 rfl | exact mv5 rfl | exact mv6 rfl | exact mv7 rfl | exact mv8 rfl | exact mv9 rfl) rfl ?_
        refine AL.p (by first | exact g_arith rfl rfl rfl (by first | exact wrap_i64 (by omega) | exact wrap_u8 (by omega) | exact wrap_u64 (by omega) | rfl) | exact g_sadd rfl rfl (by first | assumption | omega | (simp only [ByteArray.size_append, bstr_size, List.length_take, List.length_drop, List.length_cons, List.length_nil]; omega))) rfl ?_
        refine AL.p (by first | exact as1 rfl | exact as2 rfl | exact as3 rfl | exact as4 rfl | exact as5 rfl | exact as6 rfl | exact as7 rfl | exact as8 rfl | exact as9 rfl) rfl ?_
        refine AL.nil ?_
        refine th_n ?_
        exact ⟨i + 1, hi1, by omega, Weak.ren _ [] hC rfl (by repeat (first | exact True.intro | refine And.intro ?_ ?_ | exact DLead.same | exact DLead.eqI (by omega) | exact DLead.nil | exact rfl)) (by repeat (first | exact True.intro | refine And.intro ?_ ?_ | exact DLead.same | exact DLead.eqI (by omega) | exact DLead.nil | exact rfl | refine ⟨_, _, rfl, rfl, ?_⟩ | refine ⟨_, rfl, ?_⟩ | refine ⟨_, _, rfl, ?_, ?_⟩)) rfl rfl rfl⟩
    · refine AC.exit ?_
      refine th_e ?_
      refine th_e ?_
      refine ib_y ?_
      refine th_n ?_
      refine AC.seq ?_
      refine AC.region ?_
      refine AL.p (by first | exact mv1 rfl | exact mv2 rfl | exact mv3 rfl | exact mv4 rfl | exact mv5 rfl | exact mv6 rfl | exact mv7 rfl | exact mv8 rfl | exact mv9 rfl) rfl ?_
      refine AL.p (by first | exact as1 rfl | exact as2 rfl | exact as3 rfl | exact as4 rfl | exact as5 rfl | exact as6 rfl | exact as7 rfl | exact as8 rfl | exact as9 rfl) rfl ?_
      refine AL.nil ?_
      refine th_n ?_
      refine AC.ret ?_
      refine bq_r ?_
      obtain rfl : i = n := by omega
      exact ret1 rfl rfl
theorem en_heldIntS : Enters Tryz.prog 18 := enters_of Tryz.func18 rfl rfl
/-- A list in blocks of its own, and a truth. -/
def TupT (l : List Int) (b : Bool) : AV → List (Nat × Chunk) → Prop := fun r chs => ∃ v S, r = .tup [.d (.val v), aT b] ∧ chs = [(0, .pred S fun w => TRep w S (vI l) v)]
theorem Weak.nilT {C : Ctx} {s : ASt} : Weak C s { n := s.n, nx := s.nx + 8, sl := s.sl, ch := (s.nx, some (.pred (fun _ => False) fun w => TRep w (fun _ => False) (vI []) (.slice none 0 0))) :: (s.nx, some (.pred (fun _ => False) fun w => TL w (fun _ => False) [] [])) :: s.ch } :=
  Weak.emptyT.trans (Weak.cons (K := fun w => TL w (fun _ => False) [] []) s.nx (s := { n := s.n, nx := s.nx + 8, sl := s.sl, ch := (s.nx, some (.pred (fun _ => False) fun w => TL w (fun _ => False) [] [])) :: s.ch }) _ (by simp [ASt.chunk, getL_cons]) (fun w _ => .nil fun _ h => h) (fun w w' hk h => h.turn hk))
set_option linter.all false
set_option maxRecDepth 20000
end Go.Proofs.YtolfgbcnielnoaaGreat
namespace Go.Proofs.YtolfgbcnielnoaaGreat
open Go.RowKit

theorem szI_sum {n : Nat} {left : Int} (h : 0 ≤ szI n left) : szI n left + n ≤ left := by
  unfold szI at *
  split at h
  · omega
  · split <;> omega
theorem szT_sum {t : Tn} {left : Int} (h : 0 ≤ szT t left) : szT t left + (wT t : Nat) ≤ left := by
  unfold szT at *
  unfold wT
  split at h
  · omega
  · rename_i h1
    rw [if_neg h1]
    have := szI_sum h
    have := szI_sum (n := t.pre.length) (left := left) (by omega)
    omega
theorem szTs_sum : ∀ (ts : List Tn) (left : Int), 0 ≤ szTs ts left → szTs ts left + (sumL wT ts : Nat) ≤ left
  | [], left, h => by simp [szTs, sumL]
  | t :: ts, left, h => by
    simp only [szTs, sumL] at *
    split at h
    · omega
    · rename_i h1
      rw [if_neg h1]
      have := szTs_sum ts _ h
      have := szT_sum (t := t) (left := left) (by omega)
      omega
theorem szNt_sum {ts : List Tn} {left : Int} (h : 0 ≤ szNt ts left) : szNt ts left + (sumL wT ts : Nat) ≤ left := by
  unfold szNt at *
  split at h
  · omega
  · rename_i h1
    rw [if_neg h1]
    have := szTs_sum ts _ h
    omega
theorem szEs_sum : ∀ (ts : List Ev) (left : Int), 0 ≤ szEs ts left → szEs ts left + (sumL wE ts : Nat) ≤ left + ts.length
  | [], left, h => by simp [szEs, sumL]
  | t :: ts, left, h => by
    simp only [szEs, sumL, List.length_cons, wE] at *
    split at h
    · omega
    · rename_i h1
      rw [if_neg h1]
      have := szEs_sum ts _ h
      have := szI_sum (n := t.pre.length) (left := left) (by have : szE t left = szI t.pre.length left := rfl; omega)
      have : szE t left = szI t.pre.length left := rfl
      omega
theorem sumC (cs : List Cond) : sumL wC cs = 2 * cs.length := by
  induction cs with
  | nil => rfl
  | cons c cs ih => simp only [sumL, wC, ih, List.length_cons]; omega
theorem szU_sum {u : Unf} {left : Int} (h : 0 ≤ szU u left) : (sumL wC u.cs : Nat) + (sumL wE u.es : Nat) ≤ 2 * left := by
  have hc := sumC u.cs
  unfold szU at h
  split at h
  · omega
  · rename_i h1
    have h2 := szI_sum (n := u.cs.length) (left := left) (by omega)
    unfold szEt at h
    split at h
    · omega
    · have := szEs_sum u.es _ h
      omega
theorem TupT.solid {l : List Int} {b : Bool} (r : AV) (chs : List (Nat × Chunk)) (h : TupT l b r chs) : r.solid = true ∧ ∀ id c, getL id chs = some c → c.solid := by
  obtain ⟨v, S, rfl, rfl⟩ := h
  refine ⟨rfl, fun id c hc => ?_⟩
  obtain ⟨_, rfl⟩ := getL_one hc
  exact trivial
theorem TupT.thaw {P : Program} {f : FuncId} {ars : List AV} {l : List Int} {b : Bool} (h : ASpec P f ars [] (TupT l b)) : ASpec P f ars [] (Pure1 (.tup [.d (vI l), aT b])) := by
  intro w m Fin vs h1 h2 h3 h4 h5 h6
  refine Calls.mono (h w m Fin vs h1 h2 h3 h4 h5 h6) ?_
  rintro e w' ⟨v, r, chs', m', F', rfl, ⟨v1, S, rfl, rfl⟩, g1, g2, g3, g4, g5, g6, g7⟩
  refine ⟨v, _, [], m', fun k => (Fin k ∨ (∃ id c p, getL id ([] : List (Nat × Chunk)) = some c ∧ m id = some p ∧ occ p c k) ∨ w.heap.size ≤ k) ∧ k < w'.heap.size ∧ ∀ id c p, getL id ([] : List (Nat × Chunk)) = some c → m' id = some p → ¬ occ p c k, rfl, ⟨rfl, rfl⟩, g1, g2, fun k => Iff.rfl, g4, ?_, fun id c hc => by simp [getL] at hc, fun id id' c c' p p' b hc => by simp [getL] at hc⟩
  obtain ⟨p, q1, q2, q3⟩ := g6 0 _ rfl
  obtain ⟨rfl, k1, k2, k3⟩ := q2.predAt
  have hD : DRep (fun k => (Fin k ∨ (∃ id c p, getL id ([] : List (Nat × Chunk)) = some c ∧ m id = some p ∧ occ p c k) ∨ w.heap.size ≤ k) ∧ k < w'.heap.size ∧ ∀ id c p, getL id ([] : List (Nat × Chunk)) = some c → m' id = some p → ¬ occ p c k) w' (vI l) v1 := by
    refine k1.data.mono fun k hk => ⟨.inr (.inr ?_), k3 k hk, fun id c p hc => by simp [getL] at hc⟩
    rcases q3 k (.inr hk) with h | ⟨_, _, _, hc, _⟩
    · exact h
    · simp [getL] at hc
  cases g5 with
  | tup t1 t2 =>
    refine .tup t1 fun i c hc => ?_
    match i, hc with
    | 0, hc =>
      simp at hc; subst hc
      have := t2 0 _ rfl
      generalize Array.getD _ 0 undef = u at this ⊢
      cases this with
      | d h => cases h; exact .d hD
    | 1, hc =>
      simp at hc; subst hc
      exact (t2 1 _ rfl).flat rfl
    | i + 2, hc => simp at hc


end Go.Proofs.YtolfgbcnielnoaaGreat