/- Walks: firing, as both sides offer it. -/
import Derived.Test.YthhfhpeeinohiaaW6
set_option linter.all false
namespace Go.Proofs.Ythhfhpeeinohiaa
open Go.RowKit

def NetM (N : Net) (m : List UInt8) : Prop := ∀ x, x ∈ N.ts → InM x.pre m ∧ InM x.post m
def fireI (N : Net) (m : List UInt8) (t : Int) : List UInt8 × Bool :=
  match N.ts[t.toNat]? with
  | some x => if (decide (0 ≤ t) && decide (t ≤ (N.ts.length : Int) - 1)) && enabledI x m then fireT x m else ([], false)
  | none => ([], false)
theorem fireI_out {N : Net} {m : List UInt8} {t : Int} (h : (decide (0 ≤ t) && decide (t ≤ (N.ts.length : Int) - 1)) = false) : fireI N m t = ([], false) := by
  unfold fireI
  split
  · rw [h]; rfl
  · rfl
theorem fireI_at {N : Net} {m : List UInt8} {i : Nat} (hi : i < N.ts.length) : fireI N m (i : Int) = if enabledI N.ts[i] m then fireT N.ts[i] m else ([], false) := by
  unfold fireI
  have h : (decide ((0 : Int) ≤ (i : Int)) && decide ((i : Int) ≤ (N.ts.length : Int) - 1)) = true := by simp; omega
  rw [Int.toNat_natCast, List.getElem?_eq_getElem hi]
  simp only [h, Bool.true_and]

set_option maxHeartbeats 4000000 in
theorem ifire_spec (N : Net) (m : List UInt8) (t : Int) (hB : NetB N) (hM : NetM N m) (hm : m.length ≤ 2000000) : ASpec Try.prog 30 [netA N, aS (bstr m), aI t] [] (Pure1 (.tup [aS (bstr (fireI N m t).1), aT (fireI N m t).2])) := by
  have hl := hB.l
  refine ASpec.of Try.func30 rfl rfl fun C hC => ?_
  refine AC.seq ?_
  refine AC.region ?_
  refine AL.q (by exact h_boxF rfl rfl) rfl ?_
  refine AL.p (by first | exact g_assign (r := .d _) rfl | exact g_assign (r := .own _ _) rfl | exact g_assign (r := .ptr _ _) rfl | exact g_assign (r := .agg _) rfl | exact g_assign (r := .tup _) rfl | exact g_assign (r := .clo _ _) rfl | exact g_assign (r := .tight _ _ _) rfl | exact g_assign (r := .und) rfl | exact g_assign (r := .dead) rfl) rfl ?_
  refine AL.p (by first | exact g_assign (r := .d _) rfl | exact g_assign (r := .own _ _) rfl | exact g_assign (r := .ptr _ _) rfl | exact g_assign (r := .agg _) rfl | exact g_assign (r := .tup _) rfl | exact g_assign (r := .clo _ _) rfl | exact g_assign (r := .tight _ _ _) rfl | exact g_assign (r := .und) rfl | exact g_assign (r := .dead) rfl) rfl ?_
  refine AL.nil ?_
  refine th_n ?_
  refine AC.seq ?_
  refine AC.seq ?_
  refine AC.region ?_
  refine AL.p (by first | exact g_move (r := .d _) rfl | exact g_move (r := .own _ _) rfl | exact g_move (r := .ptr _ _) rfl | exact g_move (r := .agg _) rfl | exact g_move (r := .tup _) rfl | exact g_move (r := .clo _ _) rfl | exact g_move (r := .tight _ _ _) rfl | exact g_move (r := .und) rfl | exact g_move (r := .dead) rfl) rfl ?_
  refine AL.p (by first | exact g_fa_ref rfl rfl rfl rfl rfl rfl | exact g_fa_ptr rfl rfl rfl rfl rfl) rfl ?_
  refine AL.p (by first | exact g_load_ref rfl rfl rfl | exact g_load_ptr rfl rfl rfl rfl rfl | exact g_load_refN rfl rfl rfl rfl | exact g_load_ptrN rfl rfl rfl rfl rfl | exact g_load_arr1 rfl rfl rfl rfl (by assumption) | exact g_load_arr rfl rfl rfl rfl (by first | rfl | omega) (by first | assumption | rfl) (by first | assumption | rfl)) rfl ?_
  refine AL.p (by first | exact g_len_view rfl rfl (by first | exact List.length_map _ | rfl) | exact g_len_str rfl rfl rfl | exact g_len_nil rfl rfl | exact g_len_own (sz := 1) (els := []) (e' := 0) rfl rfl (by simp only [maxLen]; omega) | exact g_len_tight rfl rfl (by first | exact List.length_map _ | rfl)) rfl ?_
  refine AL.p (by exact g_arith rfl rfl rfl (by first | exact wrap_i64 (by omega) | exact wrap_u8 (by omega) | exact wrap_u64 (by omega) | rfl)) rfl ?_
  refine AL.q (by exact h_pure en_within rfl rfl (by repeat (first | exact rfl | exact DLead.same | exact DLead.nil | refine ⟨_, _, rfl, ?_, ?_⟩ | refine ⟨_, rfl, ?_⟩ | exact ⟨_, rfl, rfl⟩)) (within_spec _ _ _) rfl) rfl ?_
  refine AL.p (by first | exact g_not rfl | exact g_neg rfl (by first | exact wrap_i64 (by omega) | exact wrap_u8 (by omega) | exact wrap_u64 (by omega) | rfl)) rfl ?_
  refine AL.p (by first | exact g_move (r := .d _) rfl | exact g_move (r := .own _ _) rfl | exact g_move (r := .ptr _ _) rfl | exact g_move (r := .agg _) rfl | exact g_move (r := .tup _) rfl | exact g_move (r := .clo _ _) rfl | exact g_move (r := .tight _ _ _) rfl | exact g_move (r := .und) rfl | exact g_move (r := .dead) rfl) rfl ?_
  first | refine AL.caseG rfl rfl (fun h0 => ?_) (fun h0 => ?_) | refine AL.caseGN rfl rfl (fun h0 => ?_) (fun h0 => ?_) | refine AL.caseGB rfl rfl (fun h0 => ?_) (fun h0 => ?_) | refine AL.caseGNB rfl rfl (fun h0 => ?_) (fun h0 => ?_)
  · refine AL.not rfl rfl rfl rfl rfl ?_
    refine AL.not rfl rfl rfl rfl rfl ?_
    refine AL.not rfl rfl rfl rfl rfl ?_
    refine AL.not rfl rfl rfl rfl rfl ?_
    refine AL.not rfl rfl rfl rfl rfl ?_
    refine AL.not rfl rfl rfl rfl rfl ?_
    refine AL.not rfl rfl rfl rfl rfl ?_
    refine AL.not rfl rfl rfl rfl rfl ?_
    refine AL.p (by first | exact g_pickT (r := .d _) rfl rfl | exact g_pickF (r := .d _) rfl rfl) rfl ?_
    refine AL.nil ?_
    refine th_n ?_
    refine AC.condT rfl ?_
    refine AC.seq ?_
    refine AC.region ?_
    refine AL.p (by first | exact g_assign (r := .d _) rfl | exact g_assign (r := .own _ _) rfl | exact g_assign (r := .ptr _ _) rfl | exact g_assign (r := .agg _) rfl | exact g_assign (r := .tup _) rfl | exact g_assign (r := .clo _ _) rfl | exact g_assign (r := .tight _ _ _) rfl | exact g_assign (r := .und) rfl | exact g_assign (r := .dead) rfl) rfl ?_
    refine AL.p (by first | exact g_assign (r := .d _) rfl | exact g_assign (r := .own _ _) rfl | exact g_assign (r := .ptr _ _) rfl | exact g_assign (r := .agg _) rfl | exact g_assign (r := .tup _) rfl | exact g_assign (r := .clo _ _) rfl | exact g_assign (r := .tight _ _ _) rfl | exact g_assign (r := .und) rfl | exact g_assign (r := .dead) rfl) rfl ?_
    refine AL.nil ?_
    refine th_n ?_
    refine AC.ret ?_
    refine th_r ?_
    refine bq_r ?_
    first | exact ret2 rfl (by rw [fireI_out ((Bool.not_eq_true' _).mp h0)]; try rfl) (by rw [fireI_out ((Bool.not_eq_true' _).mp h0)]) | exact ret2 rfl (by rw [fireI_at ht, if_neg (by simpa using h1)]; try rfl) (by rw [fireI_at ht, if_neg (by simpa using h1)])
  · refine AL.yes rfl rfl rfl ?_
    obtain ⟨i, rfl⟩ : ∃ i : Nat, t = i := ⟨t.toNat, by simp at h0; omega⟩
    have ht : i < N.ts.length := by simp at h0; omega
    have hts := tsL_get ht
    have hl1 := (hB.t _ (List.getElem_mem ht)).1
    have hl2 := (hB.t _ (List.getElem_mem ht)).2
    have hp1 := (hM _ (List.getElem_mem ht)).1
    have hp2 := (hM _ (List.getElem_mem ht)).2
    refine AL.p (by first | exact g_fa_ref rfl rfl rfl rfl rfl rfl | exact g_fa_ptr rfl rfl rfl rfl rfl) rfl ?_
    refine AL.yes rfl rfl rfl ?_
    refine AL.p (by first | exact g_load_ref rfl rfl rfl | exact g_load_ptr rfl rfl rfl rfl rfl | exact g_load_refN rfl rfl rfl rfl | exact g_load_ptrN rfl rfl rfl rfl rfl | exact g_load_arr1 rfl rfl rfl rfl (by assumption) | exact g_load_arr rfl rfl rfl rfl (by first | rfl | omega) (by first | assumption | rfl) (by first | assumption | rfl)) rfl ?_
    refine AL.yes rfl rfl rfl ?_
    refine AL.p (by first | exact g_move (r := .d _) rfl | exact g_move (r := .own _ _) rfl | exact g_move (r := .ptr _ _) rfl | exact g_move (r := .agg _) rfl | exact g_move (r := .tup _) rfl | exact g_move (r := .clo _ _) rfl | exact g_move (r := .tight _ _ _) rfl | exact g_move (r := .und) rfl | exact g_move (r := .dead) rfl) rfl ?_
    refine AL.yes rfl rfl rfl ?_
    refine AL.p (by first | exact g_ia_view rfl rfl rfl rfl rfl (by first | rfl | assumption) (by first | assumption | rfl) | exact g_ia_own rfl rfl rfl rfl rfl (by first | rfl | assumption) (by omega) (by first | exact Nat.mul_one _ | rfl | omega)) rfl ?_
    refine AL.yes rfl rfl rfl ?_
    refine AL.p (by first | exact g_load_ref rfl rfl rfl | exact g_load_ptr rfl rfl rfl rfl rfl | exact g_load_refN rfl rfl rfl rfl | exact g_load_ptrN rfl rfl rfl rfl rfl | exact g_load_arr1 rfl rfl rfl rfl (by assumption) | exact g_load_arr rfl rfl rfl rfl (by first | rfl | omega) (by first | assumption | rfl) (by first | assumption | rfl)) rfl ?_
    refine AL.yes rfl rfl rfl ?_
    refine AL.p (by first | exact g_move (r := .d _) rfl | exact g_move (r := .own _ _) rfl | exact g_move (r := .ptr _ _) rfl | exact g_move (r := .agg _) rfl | exact g_move (r := .tup _) rfl | exact g_move (r := .clo _ _) rfl | exact g_move (r := .tight _ _ _) rfl | exact g_move (r := .und) rfl | exact g_move (r := .dead) rfl) rfl ?_
    refine AL.yes rfl rfl rfl ?_
    refine AL.q (by exact h_pure en_isEnabled rfl rfl (by repeat (first | exact rfl | exact DLead.same | exact DLead.nil | refine ⟨_, _, rfl, ?_, ?_⟩ | refine ⟨_, rfl, ?_⟩ | exact ⟨_, rfl, rfl⟩)) (isEnabled_spec _ _ (by first | assumption | omega) (by assumption)) rfl) rfl ?_
    refine AL.yes rfl rfl rfl ?_
    refine AL.p (by first | exact g_not rfl | exact g_neg rfl (by first | exact wrap_i64 (by omega) | exact wrap_u8 (by omega) | exact wrap_u64 (by omega) | rfl)) rfl ?_
    refine AL.p (by first | exact g_pickT (r := .d _) rfl rfl | exact g_pickF (r := .d _) rfl rfl) rfl ?_
    refine AL.nil ?_
    refine th_n ?_
    first | refine AC.condD rfl (fun h1 => ?_) (fun h1 => ?_) | refine AC.condND rfl (fun h1 => ?_) (fun h1 => ?_) | refine AC.condB rfl (fun h1 => ?_) (fun h1 => ?_) | refine AC.condNB rfl (fun h1 => ?_) (fun h1 => ?_)
    · refine AC.seq ?_
      refine AC.region ?_
      refine AL.p (by first | exact g_assign (r := .d _) rfl | exact g_assign (r := .own _ _) rfl | exact g_assign (r := .ptr _ _) rfl | exact g_assign (r := .agg _) rfl | exact g_assign (r := .tup _) rfl | exact g_assign (r := .clo _ _) rfl | exact g_assign (r := .tight _ _ _) rfl | exact g_assign (r := .und) rfl | exact g_assign (r := .dead) rfl) rfl ?_
      refine AL.p (by first | exact g_assign (r := .d _) rfl | exact g_assign (r := .own _ _) rfl | exact g_assign (r := .ptr _ _) rfl | exact g_assign (r := .agg _) rfl | exact g_assign (r := .tup _) rfl | exact g_assign (r := .clo _ _) rfl | exact g_assign (r := .tight _ _ _) rfl | exact g_assign (r := .und) rfl | exact g_assign (r := .dead) rfl) rfl ?_
      refine AL.nil ?_
      refine th_n ?_
      refine AC.ret ?_
      refine th_r ?_
      refine bq_r ?_
      first | exact ret2 rfl (by rw [fireI_out ((Bool.not_eq_true' _).mp h0)]; try rfl) (by rw [fireI_out ((Bool.not_eq_true' _).mp h0)]) | exact ret2 rfl (by rw [fireI_at ht, if_neg (by simpa using h1)]; try rfl) (by rw [fireI_at ht, if_neg (by simpa using h1)])
    · refine AC.skip ?_
      refine th_n ?_
      refine AC.seq ?_
      refine AC.region ?_
      refine AL.p (by first | exact g_move (r := .d _) rfl | exact g_move (r := .own _ _) rfl | exact g_move (r := .ptr _ _) rfl | exact g_move (r := .agg _) rfl | exact g_move (r := .tup _) rfl | exact g_move (r := .clo _ _) rfl | exact g_move (r := .tight _ _ _) rfl | exact g_move (r := .und) rfl | exact g_move (r := .dead) rfl) rfl ?_
      first | refine AL.p (by exact g_convI rfl rfl rfl (by first | exact wrap_i64 (by omega) | exact wrap_u8 (by omega) | exact wrap_u64 (by omega) | rfl)) rfl ?_ | refine AL.p (by exact g_strOfBytes rfl rfl rfl rfl rfl rfl (by first | rfl | assumption | omega)) rfl ?_ | refine AL.q (by exact h_bytesOfStr rfl rfl rfl rfl) rfl ?_
      refine AL.p (by first | exact g_assign (r := .d _) rfl | exact g_assign (r := .own _ _) rfl | exact g_assign (r := .ptr _ _) rfl | exact g_assign (r := .agg _) rfl | exact g_assign (r := .tup _) rfl | exact g_assign (r := .clo _ _) rfl | exact g_assign (r := .tight _ _ _) rfl | exact g_assign (r := .und) rfl | exact g_assign (r := .dead) rfl) rfl ?_
      refine AL.nil ?_
      refine th_n ?_
      refine AC.seq ?_
      refine AC.seq ?_
      refine AC.region ?_
      refine AL.p (by first | exact g_fa_ref rfl rfl rfl rfl rfl rfl | exact g_fa_ptr rfl rfl rfl rfl rfl) rfl ?_
      refine AL.p (by first | exact g_load_ref rfl rfl rfl | exact g_load_ptr rfl rfl rfl rfl rfl | exact g_load_refN rfl rfl rfl rfl | exact g_load_ptrN rfl rfl rfl rfl rfl | exact g_load_arr1 rfl rfl rfl rfl (by assumption) | exact g_load_arr rfl rfl rfl rfl (by first | rfl | omega) (by first | assumption | rfl) (by first | assumption | rfl)) rfl ?_
      refine AL.p (by first | exact g_move (r := .d _) rfl | exact g_move (r := .own _ _) rfl | exact g_move (r := .ptr _ _) rfl | exact g_move (r := .agg _) rfl | exact g_move (r := .tup _) rfl | exact g_move (r := .clo _ _) rfl | exact g_move (r := .tight _ _ _) rfl | exact g_move (r := .und) rfl | exact g_move (r := .dead) rfl) rfl ?_
      refine AL.p (by first | exact g_ia_view rfl rfl rfl rfl rfl (by first | rfl | assumption) (by first | assumption | rfl) | exact g_ia_own rfl rfl rfl rfl rfl (by first | rfl | assumption) (by omega) (by first | exact Nat.mul_one _ | rfl | omega)) rfl ?_
      refine AL.p (by first | exact g_fa_ref rfl rfl rfl rfl rfl rfl | exact g_fa_ptr rfl rfl rfl rfl rfl) rfl ?_
      refine AL.p (by first | exact g_load_ref rfl rfl rfl | exact g_load_ptr rfl rfl rfl rfl rfl | exact g_load_refN rfl rfl rfl rfl | exact g_load_ptrN rfl rfl rfl rfl rfl | exact g_load_arr1 rfl rfl rfl rfl (by assumption) | exact g_load_arr rfl rfl rfl rfl (by first | rfl | omega) (by first | assumption | rfl) (by first | assumption | rfl)) rfl ?_
      refine AL.p (by first | exact g_len_view rfl rfl (by first | exact List.length_map _ | rfl) | exact g_len_str rfl rfl rfl | exact g_len_nil rfl rfl | exact g_len_own (sz := 1) (els := []) (e' := 0) rfl rfl (by simp only [maxLen]; omega) | exact g_len_tight rfl rfl (by first | exact List.length_map _ | rfl)) rfl ?_
      refine AL.p (by first | exact g_move (r := .d _) rfl | exact g_move (r := .own _ _) rfl | exact g_move (r := .ptr _ _) rfl | exact g_move (r := .agg _) rfl | exact g_move (r := .tup _) rfl | exact g_move (r := .clo _ _) rfl | exact g_move (r := .tight _ _ _) rfl | exact g_move (r := .und) rfl | exact g_move (r := .dead) rfl) rfl ?_
      refine AL.nil ?_
      refine th_n ?_
      refine AC.block ?_
      refine AC.loop (ι := Nat) (fun k => ⟨69, 108, [(2, aI i), (3, .d (.ref (netD N))), (8, .own 100 m.length), (37, .d (vI N.ts[i].pre)), (38, aI N.ts[i].pre.length), (39, aI k)], [(100, some (.arr 5 1 (byteEls (clearAll (N.ts[i].pre.take k) m))))]⟩) (fun k => k ≤ N.ts[i].pre.length) (fun k => N.ts[i].pre.length - k) (0) ?_ (Nat.zero_le _) ?_
      · exact Weak.ren _ [(100, _)] hC rfl (by repeat (first | exact True.intro | refine And.intro ?_ ?_ | exact DLead.same | exact DLead.eqI (by omega) | exact DLead.nil | exact rfl | refine ⟨_, _, rfl, rfl, ?_⟩ | refine ⟨_, rfl, ?_⟩ | refine ⟨_, _, rfl, ?_, ?_⟩)) (by repeat (first | exact True.intro | refine And.intro ?_ ?_ | exact DLead.same | exact DLead.eqI (by omega) | exact DLead.nil | exact rfl | refine ⟨_, _, rfl, rfl, ?_⟩ | refine ⟨_, rfl, ?_⟩ | refine ⟨_, _, rfl, ?_, ?_⟩)) rfl rfl rfl
      · intro k hk
        refine AC.seq ?_
        refine AC.region ?_
        refine AL.p (by first | exact g_cmp rfl rfl rfl | exact g_scmp rfl rfl rfl | exact g_eqB rfl rfl rfl | exact g_neB rfl rfl rfl) rfl ?_
        refine AL.nil ?_
        refine th_n ?_
        refine AC.seq ?_
        first | refine AC.condD rfl (fun h2 => ?_) (fun h2 => ?_) | refine AC.condND rfl (fun h2 => ?_) (fun h2 => ?_) | refine AC.condB rfl (fun h2 => ?_) (fun h2 => ?_) | refine AC.condNB rfl (fun h2 => ?_) (fun h2 => ?_)
        · refine AC.skip ?_
          refine th_n ?_
          refine AC.seq ?_
          refine AC.block ?_
          refine AC.seq ?_
          have hk1 : k < N.ts[i].pre.length := by omega
          have hget := ints_at hk1
          have hpk := hp1 _ (List.getElem_mem hk1)
          have hI : N.ts[i].pre[k] = ((N.ts[i].pre[k].toNat : Nat) : Int) := by omega
          have hcl := clear_len (N.ts[i].pre.take k) m
          have hgm := byteEls_get (m := clearAll (N.ts[i].pre.take k) m) (k := N.ts[i].pre[k].toNat) (by omega)
          refine AC.region ?_
          refine AL.p (by first | exact g_ia_view rfl rfl rfl rfl rfl (by first | rfl | assumption) (by first | assumption | rfl) | exact g_ia_own rfl rfl rfl rfl rfl (by first | rfl | assumption) (by omega) (by first | exact Nat.mul_one _ | rfl | omega)) rfl ?_
          refine AL.p (by first | exact g_load_ref rfl rfl rfl | exact g_load_ptr rfl rfl rfl rfl rfl | exact g_load_refN rfl rfl rfl rfl | exact g_load_ptrN rfl rfl rfl rfl rfl | exact g_load_arr1 rfl rfl rfl rfl (by assumption) | exact g_load_arr rfl rfl rfl rfl (by first | rfl | omega) (by first | assumption | rfl) (by first | assumption | rfl)) rfl ?_
          refine AL.p (by first | exact g_assign (r := .d _) rfl | exact g_assign (r := .own _ _) rfl | exact g_assign (r := .ptr _ _) rfl | exact g_assign (r := .agg _) rfl | exact g_assign (r := .tup _) rfl | exact g_assign (r := .clo _ _) rfl | exact g_assign (r := .tight _ _ _) rfl | exact g_assign (r := .und) rfl | exact g_assign (r := .dead) rfl) rfl ?_
          refine AL.nil ?_
          refine th_n ?_
          refine AC.region ?_
          refine AL.p (by first | exact g_move (r := .d _) rfl | exact g_move (r := .own _ _) rfl | exact g_move (r := .ptr _ _) rfl | exact g_move (r := .agg _) rfl | exact g_move (r := .tup _) rfl | exact g_move (r := .clo _ _) rfl | exact g_move (r := .tight _ _ _) rfl | exact g_move (r := .und) rfl | exact g_move (r := .dead) rfl) rfl ?_
          refine AL.p (by first | exact g_move (r := .d _) rfl | exact g_move (r := .own _ _) rfl | exact g_move (r := .ptr _ _) rfl | exact g_move (r := .agg _) rfl | exact g_move (r := .tup _) rfl | exact g_move (r := .clo _ _) rfl | exact g_move (r := .tight _ _ _) rfl | exact g_move (r := .und) rfl | exact g_move (r := .dead) rfl) rfl ?_
          refine AL.p (by first | exact g_ia_view rfl rfl rfl rfl rfl (by first | rfl | assumption) (by first | assumption | rfl) | exact g_ia_own rfl rfl rfl rfl rfl (by first | rfl | assumption) (by omega) (by first | exact Nat.mul_one _ | rfl | omega)) rfl ?_
          refine AL.q (by first | exact h_store rfl rfl rfl rfl rfl rfl | exact h_store_arr1 rfl rfl rfl rfl (by first | exact .same | exact .nil) (by assumption) | exact h_store_arr rfl rfl rfl rfl (by first | exact .same | exact .nil) (by first | rfl | omega) (by first | assumption | rfl) (by omega)) rfl ?_
          refine AL.nil ?_
          refine ib_n ?_
          refine th_n ?_
          refine AC.region ?_
          refine AL.p (by first | exact g_arith rfl rfl rfl (by first | exact wrap_i64 (by omega) | exact wrap_u8 (by omega) | exact wrap_u64 (by omega) | rfl) | exact g_sadd rfl rfl (by first | assumption | omega | (simp only [ByteArray.size_append, bstr_size, List.length_take, List.length_drop, List.length_cons, List.length_nil]; omega))) rfl ?_
          refine AL.p (by first | exact g_move (r := .d _) rfl | exact g_move (r := .own _ _) rfl | exact g_move (r := .ptr _ _) rfl | exact g_move (r := .agg _) rfl | exact g_move (r := .tup _) rfl | exact g_move (r := .clo _ _) rfl | exact g_move (r := .tight _ _ _) rfl | exact g_move (r := .und) rfl | exact g_move (r := .dead) rfl) rfl ?_
          refine AL.nil ?_
          refine th_n ?_
          exact ⟨k + 1, by omega, by omega, Weak.ren _ [(100, _)] hC rfl (by repeat (first | exact True.intro | refine And.intro ?_ ?_ | exact DLead.same | exact DLead.eqI (by omega) | exact DLead.nil | exact rfl | refine ⟨_, _, rfl, rfl, ?_⟩ | refine ⟨_, rfl, ?_⟩ | refine ⟨_, _, rfl, ?_, ?_⟩)) (by refine ⟨⟨_, _, rfl, rfl, ?_⟩, trivial⟩; rw [clear_take hk1, ← byteEls_set]; rfl) rfl rfl rfl⟩
        · refine AC.exit ?_
          refine th_e ?_
          refine th_e ?_
          refine ib_y ?_
          refine th_n ?_
          refine AC.seq ?_
          refine AC.seq ?_
          refine AC.region ?_
          refine AL.p (by first | exact g_fa_ref rfl rfl rfl rfl rfl rfl | exact g_fa_ptr rfl rfl rfl rfl rfl) rfl ?_
          refine AL.p (by first | exact g_load_ref rfl rfl rfl | exact g_load_ptr rfl rfl rfl rfl rfl | exact g_load_refN rfl rfl rfl rfl | exact g_load_ptrN rfl rfl rfl rfl rfl | exact g_load_arr1 rfl rfl rfl rfl (by assumption) | exact g_load_arr rfl rfl rfl rfl (by first | rfl | omega) (by first | assumption | rfl) (by first | assumption | rfl)) rfl ?_
          refine AL.p (by first | exact g_move (r := .d _) rfl | exact g_move (r := .own _ _) rfl | exact g_move (r := .ptr _ _) rfl | exact g_move (r := .agg _) rfl | exact g_move (r := .tup _) rfl | exact g_move (r := .clo _ _) rfl | exact g_move (r := .tight _ _ _) rfl | exact g_move (r := .und) rfl | exact g_move (r := .dead) rfl) rfl ?_
          refine AL.p (by first | exact g_ia_view rfl rfl rfl rfl rfl (by first | rfl | assumption) (by first | assumption | rfl) | exact g_ia_own rfl rfl rfl rfl rfl (by first | rfl | assumption) (by omega) (by first | exact Nat.mul_one _ | rfl | omega)) rfl ?_
          refine AL.p (by first | exact g_fa_ref rfl rfl rfl rfl rfl rfl | exact g_fa_ptr rfl rfl rfl rfl rfl) rfl ?_
          refine AL.p (by first | exact g_load_ref rfl rfl rfl | exact g_load_ptr rfl rfl rfl rfl rfl | exact g_load_refN rfl rfl rfl rfl | exact g_load_ptrN rfl rfl rfl rfl rfl | exact g_load_arr1 rfl rfl rfl rfl (by assumption) | exact g_load_arr rfl rfl rfl rfl (by first | rfl | omega) (by first | assumption | rfl) (by first | assumption | rfl)) rfl ?_
          refine AL.p (by first | exact g_len_view rfl rfl (by first | exact List.length_map _ | rfl) | exact g_len_str rfl rfl rfl | exact g_len_nil rfl rfl | exact g_len_own (sz := 1) (els := []) (e' := 0) rfl rfl (by simp only [maxLen]; omega) | exact g_len_tight rfl rfl (by first | exact List.length_map _ | rfl)) rfl ?_
          refine AL.p (by first | exact g_move (r := .d _) rfl | exact g_move (r := .own _ _) rfl | exact g_move (r := .ptr _ _) rfl | exact g_move (r := .agg _) rfl | exact g_move (r := .tup _) rfl | exact g_move (r := .clo _ _) rfl | exact g_move (r := .tight _ _ _) rfl | exact g_move (r := .und) rfl | exact g_move (r := .dead) rfl) rfl ?_
          refine AL.nil ?_
          refine th_n ?_
          refine AC.block ?_
          refine AC.loop (ι := Nat × List UInt8) (fun x => ⟨69, 108, [(8, .own 100 m.length), (52, .d (vI N.ts[i].post)), (53, aI N.ts[i].post.length), (54, aI x.1)], [(100, some (.arr 5 1 (byteEls x.2)))]⟩) (fun x => x.1 ≤ N.ts[i].post.length ∧ x.2.length = m.length ∧ putAll (N.ts[i].post.drop x.1) x.2 = putAll N.ts[i].post (clearAll N.ts[i].pre m)) (fun x => N.ts[i].post.length - x.1) ((0, clearAll N.ts[i].pre m)) ?_ (⟨Nat.zero_le _, clear_len _ _, rfl⟩) ?_
          · have hkk : k = N.ts[i].pre.length := by omega
            subst hkk
            exact Weak.ren _ [(100, _)] hC rfl (by repeat (first | exact True.intro | refine And.intro ?_ ?_ | exact DLead.same | exact DLead.eqI (by omega) | exact DLead.nil | exact rfl | refine ⟨_, _, rfl, rfl, ?_⟩ | refine ⟨_, rfl, ?_⟩ | refine ⟨_, _, rfl, ?_, ?_⟩)) (by refine ⟨⟨_, _, rfl, rfl, ?_⟩, trivial⟩; rw [List.take_length]; rfl) rfl rfl rfl
          · rintro ⟨k, mm⟩ ⟨hk2, hmm, hput⟩
            dsimp only at hk2 hmm hput ⊢
            refine AC.seq ?_
            refine AC.region ?_
            refine AL.p (by first | exact g_cmp rfl rfl rfl | exact g_scmp rfl rfl rfl | exact g_eqB rfl rfl rfl | exact g_neB rfl rfl rfl) rfl ?_
            refine AL.nil ?_
            refine th_n ?_
            refine AC.seq ?_
            first | refine AC.condD rfl (fun h3 => ?_) (fun h3 => ?_) | refine AC.condND rfl (fun h3 => ?_) (fun h3 => ?_) | refine AC.condB rfl (fun h3 => ?_) (fun h3 => ?_) | refine AC.condNB rfl (fun h3 => ?_) (fun h3 => ?_)
            · refine AC.skip ?_
              refine th_n ?_
              refine AC.seq ?_
              refine AC.block ?_
              refine AC.seq ?_
              have hk3 : k < N.ts[i].post.length := by omega
              have hget := ints_at hk3
              have hpk := hp2 _ (List.getElem_mem hk3)
              have hI : N.ts[i].post[k] = ((N.ts[i].post[k].toNat : Nat) : Int) := by omega
              have hmm' : mm.length = m.length := hmm
              have hgm := byteEls_get (m := mm) (k := N.ts[i].post[k].toNat) (by omega)
              have hlt := (mm.getD N.ts[i].post[k].toNat 0).toNat_lt
              refine AC.region ?_
              refine AL.p (by first | exact g_ia_view rfl rfl rfl rfl rfl (by first | rfl | assumption) (by first | assumption | rfl) | exact g_ia_own rfl rfl rfl rfl rfl (by first | rfl | assumption) (by omega) (by first | exact Nat.mul_one _ | rfl | omega)) rfl ?_
              refine AL.p (by first | exact g_load_ref rfl rfl rfl | exact g_load_ptr rfl rfl rfl rfl rfl | exact g_load_refN rfl rfl rfl rfl | exact g_load_ptrN rfl rfl rfl rfl rfl | exact g_load_arr1 rfl rfl rfl rfl (by assumption) | exact g_load_arr rfl rfl rfl rfl (by first | rfl | omega) (by first | assumption | rfl) (by first | assumption | rfl)) rfl ?_
              refine AL.p (by first | exact g_assign (r := .d _) rfl | exact g_assign (r := .own _ _) rfl | exact g_assign (r := .ptr _ _) rfl | exact g_assign (r := .agg _) rfl | exact g_assign (r := .tup _) rfl | exact g_assign (r := .clo _ _) rfl | exact g_assign (r := .tight _ _ _) rfl | exact g_assign (r := .und) rfl | exact g_assign (r := .dead) rfl) rfl ?_
              refine AL.nil ?_
              refine th_n ?_
              refine AC.seq ?_
              refine AC.seq ?_
              refine AC.region ?_
              refine AL.p (by first | exact g_move (r := .d _) rfl | exact g_move (r := .own _ _) rfl | exact g_move (r := .ptr _ _) rfl | exact g_move (r := .agg _) rfl | exact g_move (r := .tup _) rfl | exact g_move (r := .clo _ _) rfl | exact g_move (r := .tight _ _ _) rfl | exact g_move (r := .und) rfl | exact g_move (r := .dead) rfl) rfl ?_
              refine AL.p (by first | exact g_move (r := .d _) rfl | exact g_move (r := .own _ _) rfl | exact g_move (r := .ptr _ _) rfl | exact g_move (r := .agg _) rfl | exact g_move (r := .tup _) rfl | exact g_move (r := .clo _ _) rfl | exact g_move (r := .tight _ _ _) rfl | exact g_move (r := .und) rfl | exact g_move (r := .dead) rfl) rfl ?_
              refine AL.p (by first | exact g_ia_view rfl rfl rfl rfl rfl (by first | rfl | assumption) (by first | assumption | rfl) | exact g_ia_own rfl rfl rfl rfl rfl (by first | rfl | assumption) (by omega) (by first | exact Nat.mul_one _ | rfl | omega)) rfl ?_
              refine AL.p (by first | exact g_load_ref rfl rfl rfl | exact g_load_ptr rfl rfl rfl rfl rfl | exact g_load_refN rfl rfl rfl rfl | exact g_load_ptrN rfl rfl rfl rfl rfl | exact g_load_arr1 rfl rfl rfl rfl (by assumption) | exact g_load_arr rfl rfl rfl rfl (by first | rfl | omega) (by first | assumption | rfl) (by first | assumption | rfl)) rfl ?_
              refine AL.p (by first | exact g_cmp rfl rfl rfl | exact g_scmp rfl rfl rfl | exact g_eqB rfl rfl rfl | exact g_neB rfl rfl rfl) rfl ?_
              refine AL.nil ?_
              refine th_n ?_
              first | refine AC.condD rfl (fun h4 => ?_) (fun h4 => ?_) | refine AC.condND rfl (fun h4 => ?_) (fun h4 => ?_) | refine AC.condB rfl (fun h4 => ?_) (fun h4 => ?_) | refine AC.condNB rfl (fun h4 => ?_) (fun h4 => ?_)
              · refine AC.seq ?_
                refine AC.region ?_
                refine AL.p (by first | exact g_assign (r := .d _) rfl | exact g_assign (r := .own _ _) rfl | exact g_assign (r := .ptr _ _) rfl | exact g_assign (r := .agg _) rfl | exact g_assign (r := .tup _) rfl | exact g_assign (r := .clo _ _) rfl | exact g_assign (r := .tight _ _ _) rfl | exact g_assign (r := .und) rfl | exact g_assign (r := .dead) rfl) rfl ?_
                refine AL.p (by first | exact g_assign (r := .d _) rfl | exact g_assign (r := .own _ _) rfl | exact g_assign (r := .ptr _ _) rfl | exact g_assign (r := .agg _) rfl | exact g_assign (r := .tup _) rfl | exact g_assign (r := .clo _ _) rfl | exact g_assign (r := .tight _ _ _) rfl | exact g_assign (r := .und) rfl | exact g_assign (r := .dead) rfl) rfl ?_
                refine AL.nil ?_
                refine th_n ?_
                refine AC.ret ?_
                refine th_r ?_
                refine ib_r ?_
                refine th_r ?_
                refine th_r ?_
                refine ib_r ?_
                refine th_r ?_
                refine bq_r ?_
                have hd : N.ts[i].post.drop k = N.ts[i].post[k] :: N.ts[i].post.drop (k + 1) := List.drop_eq_getElem_cons hk3
                have hn : putAll N.ts[i].post (clearAll N.ts[i].pre m) = none := by rw [← hput, hd, putAll, if_pos (by simpa [at0] using h4)]
                exact ret2 rfl (by rw [fireI_at ht, if_pos (by simpa using h1), fireT, hn]; rfl) (by rw [fireI_at ht, if_pos (by simpa using h1), fireT, hn])
              · refine AC.skip ?_
                refine th_n ?_
                refine AC.region ?_
                refine AL.p (by first | exact g_move (r := .d _) rfl | exact g_move (r := .own _ _) rfl | exact g_move (r := .ptr _ _) rfl | exact g_move (r := .agg _) rfl | exact g_move (r := .tup _) rfl | exact g_move (r := .clo _ _) rfl | exact g_move (r := .tight _ _ _) rfl | exact g_move (r := .und) rfl | exact g_move (r := .dead) rfl) rfl ?_
                refine AL.p (by first | exact g_move (r := .d _) rfl | exact g_move (r := .own _ _) rfl | exact g_move (r := .ptr _ _) rfl | exact g_move (r := .agg _) rfl | exact g_move (r := .tup _) rfl | exact g_move (r := .clo _ _) rfl | exact g_move (r := .tight _ _ _) rfl | exact g_move (r := .und) rfl | exact g_move (r := .dead) rfl) rfl ?_
                refine AL.p (by first | exact g_ia_view rfl rfl rfl rfl rfl (by first | rfl | assumption) (by first | assumption | rfl) | exact g_ia_own rfl rfl rfl rfl rfl (by first | rfl | assumption) (by omega) (by first | exact Nat.mul_one _ | rfl | omega)) rfl ?_
                refine AL.q (by first | exact h_store rfl rfl rfl rfl rfl rfl | exact h_store_arr1 rfl rfl rfl rfl (by first | exact .same | exact .nil) (by assumption) | exact h_store_arr rfl rfl rfl rfl (by first | exact .same | exact .nil) (by first | rfl | omega) (by first | assumption | rfl) (by omega)) rfl ?_
                refine AL.nil ?_
                refine ib_n ?_
                refine th_n ?_
                refine AC.region ?_
                refine AL.p (by first | exact g_arith rfl rfl rfl (by first | exact wrap_i64 (by omega) | exact wrap_u8 (by omega) | exact wrap_u64 (by omega) | rfl) | exact g_sadd rfl rfl (by first | assumption | omega | (simp only [ByteArray.size_append, bstr_size, List.length_take, List.length_drop, List.length_cons, List.length_nil]; omega))) rfl ?_
                refine AL.p (by first | exact g_move (r := .d _) rfl | exact g_move (r := .own _ _) rfl | exact g_move (r := .ptr _ _) rfl | exact g_move (r := .agg _) rfl | exact g_move (r := .tup _) rfl | exact g_move (r := .clo _ _) rfl | exact g_move (r := .tight _ _ _) rfl | exact g_move (r := .und) rfl | exact g_move (r := .dead) rfl) rfl ?_
                refine AL.nil ?_
                refine th_n ?_
                have hd : N.ts[i].post.drop k = N.ts[i].post[k] :: N.ts[i].post.drop (k + 1) := List.drop_eq_getElem_cons hk3
                have hn : putAll (N.ts[i].post.drop (k + 1)) (mm.set N.ts[i].post[k].toNat 49) = putAll N.ts[i].post (clearAll N.ts[i].pre m) := by rw [← hput, hd, putAll, if_neg (by simpa [at0] using h4)]
                exact ⟨(k + 1, mm.set N.ts[i].post[k].toNat 49), ⟨by show k + 1 ≤ _; omega, by show (mm.set _ _).length = _; rw [List.length_set]; exact hmm', hn⟩, by show _ - (k + 1) < _; omega, Weak.ren _ [(100, _)] hC rfl (by repeat (first | exact True.intro | refine And.intro ?_ ?_ | exact DLead.same | exact DLead.eqI (by omega) | exact DLead.nil | exact rfl | refine ⟨_, _, rfl, rfl, ?_⟩ | refine ⟨_, rfl, ?_⟩ | refine ⟨_, _, rfl, ?_, ?_⟩)) (by refine ⟨⟨_, _, rfl, rfl, ?_⟩, trivial⟩; rw [← byteEls_set]; rfl) rfl rfl rfl⟩
            · refine AC.exit ?_
              refine th_e ?_
              refine th_e ?_
              refine ib_y ?_
              refine th_n ?_
              refine AC.seq ?_
              refine AC.region ?_
              refine AL.p (by first | exact g_move (r := .d _) rfl | exact g_move (r := .own _ _) rfl | exact g_move (r := .ptr _ _) rfl | exact g_move (r := .agg _) rfl | exact g_move (r := .tup _) rfl | exact g_move (r := .clo _ _) rfl | exact g_move (r := .tight _ _ _) rfl | exact g_move (r := .und) rfl | exact g_move (r := .dead) rfl) rfl ?_
              first | refine AL.p (by exact g_convI rfl rfl rfl (by first | exact wrap_i64 (by omega) | exact wrap_u8 (by omega) | exact wrap_u64 (by omega) | rfl)) rfl ?_ | refine AL.p (by exact g_strOfBytes rfl rfl rfl rfl rfl rfl (by first | rfl | assumption | omega)) rfl ?_ | refine AL.q (by exact h_bytesOfStr rfl rfl rfl rfl) rfl ?_
              refine AL.p (by first | exact g_assign (r := .d _) rfl | exact g_assign (r := .own _ _) rfl | exact g_assign (r := .ptr _ _) rfl | exact g_assign (r := .agg _) rfl | exact g_assign (r := .tup _) rfl | exact g_assign (r := .clo _ _) rfl | exact g_assign (r := .tight _ _ _) rfl | exact g_assign (r := .und) rfl | exact g_assign (r := .dead) rfl) rfl ?_
              refine AL.p (by first | exact g_assign (r := .d _) rfl | exact g_assign (r := .own _ _) rfl | exact g_assign (r := .ptr _ _) rfl | exact g_assign (r := .agg _) rfl | exact g_assign (r := .tup _) rfl | exact g_assign (r := .clo _ _) rfl | exact g_assign (r := .tight _ _ _) rfl | exact g_assign (r := .und) rfl | exact g_assign (r := .dead) rfl) rfl ?_
              refine AL.nil ?_
              refine th_n ?_
              refine AC.ret ?_
              refine bq_r ?_
              have hkk : k = N.ts[i].post.length := by omega
              have hn : putAll N.ts[i].post (clearAll N.ts[i].pre m) = some mm := by rw [← hput, hkk, List.drop_length]; rfl
              exact ret2 rfl (by rw [fireI_at ht, if_pos (by simpa using h1), fireT, hn]) (by rw [fireI_at ht, if_pos (by simpa using h1), fireT, hn])
theorem en_ifire : Enters Try.prog 30 := enters_of Try.func30 rfl rfl
end Go.Proofs.Ythhfhpeeinohiaa
