/- Walks: sequences of firings; small laws. -/
import Derived.Test.YthhfhpeeinohiaaW8
import Derived.Test.YthhfhpeeinohiaaW2
set_option linter.all false
namespace Go.Proofs.Ythhfhpeeinohiaa
open Go.RowKit

theorem all_set {m : List UInt8} {p : Nat} {b : UInt8} (h : m.all bit = true) (hb : bit b = true) : (m.set p b).all bit = true := by
  rw [List.all_eq_true] at h ⊢
  intro x hx
  rcases List.mem_or_eq_of_mem_set hx with h' | rfl
  · exact h x h'
  · exact hb
theorem clear_bits (ps : List Int) : ∀ {m : List UInt8}, m.all bit = true → (clearAll ps m).all bit = true := by
  induction ps with
  | nil => intro m h; exact h
  | cons p ps ih => intro m h; exact ih (all_set h (by decide))
theorem put_bits : ∀ (ps : List Int) {m m' : List UInt8}, m.all bit = true → putAll ps m = some m' → m'.all bit = true ∧ m'.length = m.length
  | [], m, m', h, e => by simp only [putAll, Option.some.injEq] at e; subst e; exact ⟨h, rfl⟩
  | p :: ps, m, m', h, e => by
    simp only [putAll] at e
    split at e
    · cases e
    · have := put_bits ps (all_set (p := p.toNat) h (by decide : bit 49 = true)) e
      exact ⟨this.1, by rw [this.2, List.length_set]⟩
theorem fireT_bits {t : Tn} {m : List UInt8} {n : Int} (h : bitsB m n = true) (ho : (fireT t m).2 = true) : bitsB (fireT t m).1 n = true := by
  simp only [bitsB, Bool.and_eq_true, decide_eq_true_eq] at h ⊢
  unfold fireT at ho ⊢
  split at ho
  · rename_i m' e
    have := put_bits _ (clear_bits t.pre h.1) e
    exact ⟨this.1, by rw [this.2, clear_len]; exact h.2⟩
  · cases ho
theorem fireI_bits {N : Net} {m : List UInt8} {t n : Int} (h : bitsB m n = true) (ho : (fireI N m t).2 = true) : bitsB (fireI N m t).1 n = true := by
  unfold fireI at ho ⊢
  split at ho
  · rename_i x e
    split at ho
    · rename_i hc
      rw [if_pos hc]; exact fireT_bits h ho
    · cases ho
  · cases ho

def fireSeq (N : Net) : List UInt8 → List Int → Int → List UInt8 × Int × Bool
  | m, [], k => (m, k, true)
  | m, t :: ts, k => if (fireI N m t).2 then fireSeq N (fireI N m t).1 ts (k + 1) else (m, k, false)
def SeqI (N : Net) (m : List UInt8) (ts : List Int) : List UInt8 × Int × Bool := if (goodN N && bitsB m N.places) && decide ((ts.length : Int) ≤ 200) then fireSeq N m ts 0 else ([], 0, false)

theorem SeqI_yes {N : Net} {m : List UInt8} {ts : List Int} (h : ((goodN N && bitsB m N.places) && decide ((ts.length : Int) ≤ 200)) = true) : SeqI N m ts = fireSeq N m ts 0 := by rw [SeqI, h]; rfl
theorem SeqI_no {N : Net} {m : List UInt8} {ts : List Int} (h : ((goodN N && bitsB m N.places) && decide ((ts.length : Int) ≤ 200)) = false) : SeqI N m ts = ([], 0, false) := by rw [SeqI, h]; rfl

set_option maxHeartbeats 2000000 in
theorem iFireSeq_spec (N : Net) (m : List UInt8) (ts : List Int) (hB : NetB N) (hm : m.length ≤ 2000000) (hts : ts.length ≤ 1000000) : ASpec Try.prog 15 [netA N, aS (bstr m), .d (vI ts)] [] (Pure1 (.tup [aS (bstr (SeqI N m ts).1), aI (SeqI N m ts).2.1, aT (SeqI N m ts).2.2])) := by
  refine ASpec.of Try.func15 rfl rfl fun C hC => ?_
  refine AC.seq ?_
  refine AC.region ?_
  refine AL.q (by exact h_boxF rfl rfl) rfl ?_
  refine AL.p (by first | exact g_assign (r := .d _) rfl | exact g_assign (r := .own _ _) rfl | exact g_assign (r := .ptr _ _) rfl | exact g_assign (r := .agg _) rfl | exact g_assign (r := .tup _) rfl | exact g_assign (r := .clo _ _) rfl | exact g_assign (r := .tight _ _ _) rfl | exact g_assign (r := .und) rfl | exact g_assign (r := .dead) rfl) rfl ?_
  refine AL.p (by first | exact g_assign (r := .d _) rfl | exact g_assign (r := .own _ _) rfl | exact g_assign (r := .ptr _ _) rfl | exact g_assign (r := .agg _) rfl | exact g_assign (r := .tup _) rfl | exact g_assign (r := .clo _ _) rfl | exact g_assign (r := .tight _ _ _) rfl | exact g_assign (r := .und) rfl | exact g_assign (r := .dead) rfl) rfl ?_
  refine AL.p (by first | exact g_assign (r := .d _) rfl | exact g_assign (r := .own _ _) rfl | exact g_assign (r := .ptr _ _) rfl | exact g_assign (r := .agg _) rfl | exact g_assign (r := .tup _) rfl | exact g_assign (r := .clo _ _) rfl | exact g_assign (r := .tight _ _ _) rfl | exact g_assign (r := .und) rfl | exact g_assign (r := .dead) rfl) rfl ?_
  refine AL.nil ?_
  refine th_n ?_
  refine AC.seq ?_
  refine AC.seq ?_
  refine AC.region ?_
  refine AL.p (by first | exact g_load_ref rfl rfl rfl | exact g_load_ptr rfl rfl rfl rfl rfl | exact g_load_refN rfl rfl rfl rfl | exact g_load_ptrN rfl rfl rfl rfl rfl | exact g_load_arr1 rfl rfl rfl rfl (by assumption) | exact g_load_arr rfl rfl rfl rfl (by first | rfl | omega) (by first | assumption | rfl) (by first | assumption | rfl)) rfl ?_
  refine AL.p (by first | exact g_move (r := .d _) rfl | exact g_move (r := .own _ _) rfl | exact g_move (r := .ptr _ _) rfl | exact g_move (r := .agg _) rfl | exact g_move (r := .tup _) rfl | exact g_move (r := .clo _ _) rfl | exact g_move (r := .tight _ _ _) rfl | exact g_move (r := .und) rfl | exact g_move (r := .dead) rfl) rfl ?_
  refine AL.q (by exact h_pure en_IsValidMarking rfl rfl (by repeat (first | exact rfl | exact DLead.same | exact DLead.nil | refine ⟨_, _, rfl, ?_, ?_⟩ | refine ⟨_, rfl, ?_⟩ | exact ⟨_, rfl, rfl⟩)) (IsValidMarking_spec _ _ (by assumption) (by first | assumption | omega)) rfl) rfl ?_
  refine AL.p (by first | exact g_not rfl | exact g_neg rfl (by first | exact wrap_i64 (by omega) | exact wrap_u8 (by omega) | exact wrap_u64 (by omega) | rfl)) rfl ?_
  refine AL.p (by first | exact g_move (r := .d _) rfl | exact g_move (r := .own _ _) rfl | exact g_move (r := .ptr _ _) rfl | exact g_move (r := .agg _) rfl | exact g_move (r := .tup _) rfl | exact g_move (r := .clo _ _) rfl | exact g_move (r := .tight _ _ _) rfl | exact g_move (r := .und) rfl | exact g_move (r := .dead) rfl) rfl ?_
  first | refine AL.caseG rfl rfl (fun h0 => ?_) (fun h0 => ?_) | refine AL.caseGN rfl rfl (fun h0 => ?_) (fun h0 => ?_) | refine AL.caseGB rfl rfl (fun h0 => ?_) (fun h0 => ?_) | refine AL.caseGNB rfl rfl (fun h0 => ?_) (fun h0 => ?_)
  · refine AL.not rfl rfl rfl rfl rfl ?_
    refine AL.not rfl rfl rfl rfl rfl ?_
    refine AL.not rfl rfl rfl rfl rfl ?_
    refine AL.p (by first | exact g_pickT (r := .d _) rfl rfl | exact g_pickF (r := .d _) rfl rfl) rfl ?_
    refine AL.nil ?_
    refine th_n ?_
    refine AC.condT rfl ?_
    refine AC.seq ?_
    refine AC.region ?_
    refine AL.p (by first | exact g_assign (r := .d _) rfl | exact g_assign (r := .own _ _) rfl | exact g_assign (r := .ptr _ _) rfl | exact g_assign (r := .agg _) rfl | exact g_assign (r := .tup _) rfl | exact g_assign (r := .clo _ _) rfl | exact g_assign (r := .tight _ _ _) rfl | exact g_assign (r := .und) rfl | exact g_assign (r := .dead) rfl) rfl ?_
    refine AL.p (by first | exact g_assign (r := .d _) rfl | exact g_assign (r := .own _ _) rfl | exact g_assign (r := .ptr _ _) rfl | exact g_assign (r := .agg _) rfl | exact g_assign (r := .tup _) rfl | exact g_assign (r := .clo _ _) rfl | exact g_assign (r := .tight _ _ _) rfl | exact g_assign (r := .und) rfl | exact g_assign (r := .dead) rfl) rfl ?_
    refine AL.p (by first | exact g_assign (r := .d _) rfl | exact g_assign (r := .own _ _) rfl | exact g_assign (r := .ptr _ _) rfl | exact g_assign (r := .agg _) rfl | exact g_assign (r := .tup _) rfl | exact g_assign (r := .clo _ _) rfl | exact g_assign (r := .tight _ _ _) rfl | exact g_assign (r := .und) rfl | exact g_assign (r := .dead) rfl) rfl ?_
    refine AL.nil ?_
    refine th_n ?_
    refine AC.ret ?_
    refine th_r ?_
    refine bq_r ?_
    have hz : ((goodN N && bitsB m N.places) && decide ((ts.length : Int) ≤ 200)) = false := by first | (have hz := h1; rw [Bool.and_eq_false_iff]; exact .inr (by simp; omega)) | (rw [(Bool.not_eq_true' _).mp h0]; rfl)
    have hs := SeqI_no hz
    exact ret3 rfl (by rw [hs]; rfl) (by rw [hs]) (by rw [hs])
  · refine AL.yes rfl rfl rfl ?_
    refine AL.p (by first | exact g_move (r := .d _) rfl | exact g_move (r := .own _ _) rfl | exact g_move (r := .ptr _ _) rfl | exact g_move (r := .agg _) rfl | exact g_move (r := .tup _) rfl | exact g_move (r := .clo _ _) rfl | exact g_move (r := .tight _ _ _) rfl | exact g_move (r := .und) rfl | exact g_move (r := .dead) rfl) rfl ?_
    refine AL.yes rfl rfl rfl ?_
    refine AL.p (by first | exact g_len_view rfl rfl (by first | exact List.length_map _ | rfl) | exact g_len_str rfl rfl rfl | exact g_len_nil rfl rfl | exact g_len_own (sz := 1) (els := []) (e' := 0) rfl rfl (by simp only [maxLen]; omega) | exact g_len_tight rfl rfl (by first | exact List.length_map _ | rfl)) rfl ?_
    refine AL.yes rfl rfl rfl ?_
    refine AL.p (by first | exact g_cmp rfl rfl rfl | exact g_scmp rfl rfl rfl | exact g_eqB rfl rfl rfl | exact g_neB rfl rfl rfl) rfl ?_
    refine AL.p (by first | exact g_pickT (r := .d _) rfl rfl | exact g_pickF (r := .d _) rfl rfl) rfl ?_
    refine AL.nil ?_
    refine th_n ?_
    first | refine AC.condD rfl (fun h1 => ?_) (fun h1 => ?_) | refine AC.condND rfl (fun h1 => ?_) (fun h1 => ?_) | refine AC.condB rfl (fun h1 => ?_) (fun h1 => ?_) | refine AC.condNB rfl (fun h1 => ?_) (fun h1 => ?_)
    · refine AC.seq ?_
      refine AC.region ?_
      refine AL.p (by first | exact g_assign (r := .d _) rfl | exact g_assign (r := .own _ _) rfl | exact g_assign (r := .ptr _ _) rfl | exact g_assign (r := .agg _) rfl | exact g_assign (r := .tup _) rfl | exact g_assign (r := .clo _ _) rfl | exact g_assign (r := .tight _ _ _) rfl | exact g_assign (r := .und) rfl | exact g_assign (r := .dead) rfl) rfl ?_
      refine AL.p (by first | exact g_assign (r := .d _) rfl | exact g_assign (r := .own _ _) rfl | exact g_assign (r := .ptr _ _) rfl | exact g_assign (r := .agg _) rfl | exact g_assign (r := .tup _) rfl | exact g_assign (r := .clo _ _) rfl | exact g_assign (r := .tight _ _ _) rfl | exact g_assign (r := .und) rfl | exact g_assign (r := .dead) rfl) rfl ?_
      refine AL.p (by first | exact g_assign (r := .d _) rfl | exact g_assign (r := .own _ _) rfl | exact g_assign (r := .ptr _ _) rfl | exact g_assign (r := .agg _) rfl | exact g_assign (r := .tup _) rfl | exact g_assign (r := .clo _ _) rfl | exact g_assign (r := .tight _ _ _) rfl | exact g_assign (r := .und) rfl | exact g_assign (r := .dead) rfl) rfl ?_
      refine AL.nil ?_
      refine th_n ?_
      refine AC.ret ?_
      refine th_r ?_
      refine bq_r ?_
      have hz : ((goodN N && bitsB m N.places) && decide ((ts.length : Int) ≤ 200)) = false := by first | (have hz := h1; rw [Bool.and_eq_false_iff]; exact .inr (by simp; omega)) | (rw [(Bool.not_eq_true' _).mp h0]; rfl)
      have hs := SeqI_no hz
      exact ret3 rfl (by rw [hs]; rfl) (by rw [hs]) (by rw [hs])
    · refine AC.skip ?_
      refine th_n ?_
      refine AC.seq ?_
      refine AC.seq ?_
      have hg := (Bool.not_eq_false' _).mp h0
      have hg1 : goodN N = true := by rw [Bool.and_eq_true] at hg; exact hg.1
      have hg2 : bitsB m N.places = true := by rw [Bool.and_eq_true] at hg; exact hg.2
      have hpl := good_places hg1
      have hz : ((goodN N && bitsB m N.places) && decide ((ts.length : Int) ≤ 200)) = true := by rw [hg]; simp; omega
      refine AC.region ?_
      refine AL.p (by first | exact g_move (r := .d _) rfl | exact g_move (r := .own _ _) rfl | exact g_move (r := .ptr _ _) rfl | exact g_move (r := .agg _) rfl | exact g_move (r := .tup _) rfl | exact g_move (r := .clo _ _) rfl | exact g_move (r := .tight _ _ _) rfl | exact g_move (r := .und) rfl | exact g_move (r := .dead) rfl) rfl ?_
      refine AL.p (by first | exact g_len_view rfl rfl (by first | exact List.length_map _ | rfl) | exact g_len_str rfl rfl rfl | exact g_len_nil rfl rfl | exact g_len_own (sz := 1) (els := []) (e' := 0) rfl rfl (by simp only [maxLen]; omega) | exact g_len_tight rfl rfl (by first | exact List.length_map _ | rfl)) rfl ?_
      refine AL.p (by first | exact g_move (r := .d _) rfl | exact g_move (r := .own _ _) rfl | exact g_move (r := .ptr _ _) rfl | exact g_move (r := .agg _) rfl | exact g_move (r := .tup _) rfl | exact g_move (r := .clo _ _) rfl | exact g_move (r := .tight _ _ _) rfl | exact g_move (r := .und) rfl | exact g_move (r := .dead) rfl) rfl ?_
      refine AL.nil ?_
      refine th_n ?_
      refine AC.block ?_
      refine AC.loop (ι := Nat × List UInt8) (fun x => ⟨45, 0, [(1, aS (bstr x.2)), (2, .d (vI ts)), (3, .d (.ref (netD N))), (22, .d (vI ts)), (23, aI ts.length), (24, aI x.1)], []⟩) (fun x => x.1 ≤ ts.length ∧ bitsB x.2 N.places = true ∧ fireSeq N x.2 (ts.drop x.1) x.1 = fireSeq N m ts 0) (fun x => ts.length - x.1) ((0, m)) ?_ (⟨Nat.zero_le _, hg2, rfl⟩) ?_
      · refine Weak.ren _ [] hC rfl ?_ ?_ rfl rfl rfl <;> repeat (first | exact True.intro | refine And.intro ?_ ?_ | exact DLead.same | exact DLead.eqI (by omega) | exact DLead.nil | exact rfl)
      · rintro ⟨k, mm⟩ ⟨hk, hmb, hseq⟩
        dsimp only at hk hmb hseq ⊢
        have hmm := bits_len hmb
        have hM : NetM N mm := good_netM hg1 hmb
        refine AC.seq ?_
        refine AC.region ?_
        refine AL.p (by first | exact g_cmp rfl rfl rfl | exact g_scmp rfl rfl rfl | exact g_eqB rfl rfl rfl | exact g_neB rfl rfl rfl) rfl ?_
        refine AL.nil ?_
        refine th_n ?_
        refine AC.seq ?_
        first | refine AC.condD rfl (fun h2 => ?_) (fun h2 => ?_) | refine AC.condND rfl (fun h2 => ?_) (fun h2 => ?_) | refine AC.condB rfl (fun h2 => ?_) (fun h2 => ?_) | refine AC.condNB rfl (fun h2 => ?_) (fun h2 => ?_)
        · refine AC.skip ?_
          refine th_n ?_
          refine AC.seq ?_
          refine AC.block ?_
          refine AC.seq ?_
          have hk1 : k < ts.length := by omega
          have hget := ints_at hk1
          have hd : ts.drop k = ts[k] :: ts.drop (k + 1) := List.drop_eq_getElem_cons hk1
          refine AC.region ?_
          refine AL.p (by first | exact g_move (r := .d _) rfl | exact g_move (r := .own _ _) rfl | exact g_move (r := .ptr _ _) rfl | exact g_move (r := .agg _) rfl | exact g_move (r := .tup _) rfl | exact g_move (r := .clo _ _) rfl | exact g_move (r := .tight _ _ _) rfl | exact g_move (r := .und) rfl | exact g_move (r := .dead) rfl) rfl ?_
          refine AL.p (by first | exact g_ia_view rfl rfl rfl rfl rfl (by first | rfl | assumption) (by first | assumption | rfl) | exact g_ia_own rfl rfl rfl rfl rfl (by first | rfl | assumption) (by omega) (by first | exact Nat.mul_one _ | rfl | omega)) rfl ?_
          refine AL.p (by first | exact g_load_ref rfl rfl rfl | exact g_load_ptr rfl rfl rfl rfl rfl | exact g_load_refN rfl rfl rfl rfl | exact g_load_ptrN rfl rfl rfl rfl rfl | exact g_load_arr1 rfl rfl rfl rfl (by assumption) | exact g_load_arr rfl rfl rfl rfl (by first | rfl | omega) (by first | assumption | rfl) (by first | assumption | rfl)) rfl ?_
          refine AL.p (by first | exact g_assign (r := .d _) rfl | exact g_assign (r := .own _ _) rfl | exact g_assign (r := .ptr _ _) rfl | exact g_assign (r := .agg _) rfl | exact g_assign (r := .tup _) rfl | exact g_assign (r := .clo _ _) rfl | exact g_assign (r := .tight _ _ _) rfl | exact g_assign (r := .und) rfl | exact g_assign (r := .dead) rfl) rfl ?_
          refine AL.p (by first | exact g_assign (r := .d _) rfl | exact g_assign (r := .own _ _) rfl | exact g_assign (r := .ptr _ _) rfl | exact g_assign (r := .agg _) rfl | exact g_assign (r := .tup _) rfl | exact g_assign (r := .clo _ _) rfl | exact g_assign (r := .tight _ _ _) rfl | exact g_assign (r := .und) rfl | exact g_assign (r := .dead) rfl) rfl ?_
          refine AL.nil ?_
          refine th_n ?_
          refine AC.seq ?_
          refine AC.region ?_
          refine AL.p (by first | exact g_load_ref rfl rfl rfl | exact g_load_ptr rfl rfl rfl rfl rfl | exact g_load_refN rfl rfl rfl rfl | exact g_load_ptrN rfl rfl rfl rfl rfl | exact g_load_arr1 rfl rfl rfl rfl (by assumption) | exact g_load_arr rfl rfl rfl rfl (by first | rfl | omega) (by first | assumption | rfl) (by first | assumption | rfl)) rfl ?_
          refine AL.p (by first | exact g_move (r := .d _) rfl | exact g_move (r := .own _ _) rfl | exact g_move (r := .ptr _ _) rfl | exact g_move (r := .agg _) rfl | exact g_move (r := .tup _) rfl | exact g_move (r := .clo _ _) rfl | exact g_move (r := .tight _ _ _) rfl | exact g_move (r := .und) rfl | exact g_move (r := .dead) rfl) rfl ?_
          refine AL.p (by first | exact g_move (r := .d _) rfl | exact g_move (r := .own _ _) rfl | exact g_move (r := .ptr _ _) rfl | exact g_move (r := .agg _) rfl | exact g_move (r := .tup _) rfl | exact g_move (r := .clo _ _) rfl | exact g_move (r := .tight _ _ _) rfl | exact g_move (r := .und) rfl | exact g_move (r := .dead) rfl) rfl ?_
          refine AL.q (by exact h_pure en_ifire rfl rfl (by repeat (first | exact rfl | exact DLead.same | exact DLead.nil | refine ⟨_, _, rfl, ?_, ?_⟩ | refine ⟨_, rfl, ?_⟩ | exact ⟨_, rfl, rfl⟩)) (ifire_spec _ _ _ (by assumption) (by assumption) (by first | assumption | omega)) rfl) rfl ?_
          refine AL.p (by first | exact g_move (r := .d _) rfl | exact g_move (r := .own _ _) rfl | exact g_move (r := .ptr _ _) rfl | exact g_move (r := .agg _) rfl | exact g_move (r := .tup _) rfl | exact g_move (r := .clo _ _) rfl | exact g_move (r := .tight _ _ _) rfl | exact g_move (r := .und) rfl | exact g_move (r := .dead) rfl) rfl ?_
          refine AL.p (by first | exact g_extract (r := .d _) rfl rfl | exact g_extract (r := .own _ _) rfl rfl | exact g_extract (r := .agg _) rfl rfl) rfl ?_
          refine AL.p (by first | exact g_extract (r := .d _) rfl rfl | exact g_extract (r := .own _ _) rfl rfl | exact g_extract (r := .agg _) rfl rfl) rfl ?_
          refine AL.p (by first | exact g_assign (r := .d _) rfl | exact g_assign (r := .own _ _) rfl | exact g_assign (r := .ptr _ _) rfl | exact g_assign (r := .agg _) rfl | exact g_assign (r := .tup _) rfl | exact g_assign (r := .clo _ _) rfl | exact g_assign (r := .tight _ _ _) rfl | exact g_assign (r := .und) rfl | exact g_assign (r := .dead) rfl) rfl ?_
          refine AL.p (by first | exact g_assign (r := .d _) rfl | exact g_assign (r := .own _ _) rfl | exact g_assign (r := .ptr _ _) rfl | exact g_assign (r := .agg _) rfl | exact g_assign (r := .tup _) rfl | exact g_assign (r := .clo _ _) rfl | exact g_assign (r := .tight _ _ _) rfl | exact g_assign (r := .und) rfl | exact g_assign (r := .dead) rfl) rfl ?_
          refine AL.nil ?_
          refine th_n ?_
          refine AC.seq ?_
          refine AC.seq ?_
          refine AC.region ?_
          refine AL.p (by first | exact g_move (r := .d _) rfl | exact g_move (r := .own _ _) rfl | exact g_move (r := .ptr _ _) rfl | exact g_move (r := .agg _) rfl | exact g_move (r := .tup _) rfl | exact g_move (r := .clo _ _) rfl | exact g_move (r := .tight _ _ _) rfl | exact g_move (r := .und) rfl | exact g_move (r := .dead) rfl) rfl ?_
          refine AL.p (by first | exact g_not rfl | exact g_neg rfl (by first | exact wrap_i64 (by omega) | exact wrap_u8 (by omega) | exact wrap_u64 (by omega) | rfl)) rfl ?_
          refine AL.nil ?_
          refine th_n ?_
          first | refine AC.condD rfl (fun h3 => ?_) (fun h3 => ?_) | refine AC.condND rfl (fun h3 => ?_) (fun h3 => ?_) | refine AC.condB rfl (fun h3 => ?_) (fun h3 => ?_) | refine AC.condNB rfl (fun h3 => ?_) (fun h3 => ?_)
          · refine AC.seq ?_
            refine AC.region ?_
            refine AL.p (by first | exact g_move (r := .d _) rfl | exact g_move (r := .own _ _) rfl | exact g_move (r := .ptr _ _) rfl | exact g_move (r := .agg _) rfl | exact g_move (r := .tup _) rfl | exact g_move (r := .clo _ _) rfl | exact g_move (r := .tight _ _ _) rfl | exact g_move (r := .und) rfl | exact g_move (r := .dead) rfl) rfl ?_
            refine AL.p (by first | exact g_move (r := .d _) rfl | exact g_move (r := .own _ _) rfl | exact g_move (r := .ptr _ _) rfl | exact g_move (r := .agg _) rfl | exact g_move (r := .tup _) rfl | exact g_move (r := .clo _ _) rfl | exact g_move (r := .tight _ _ _) rfl | exact g_move (r := .und) rfl | exact g_move (r := .dead) rfl) rfl ?_
            refine AL.p (by first | exact g_assign (r := .d _) rfl | exact g_assign (r := .own _ _) rfl | exact g_assign (r := .ptr _ _) rfl | exact g_assign (r := .agg _) rfl | exact g_assign (r := .tup _) rfl | exact g_assign (r := .clo _ _) rfl | exact g_assign (r := .tight _ _ _) rfl | exact g_assign (r := .und) rfl | exact g_assign (r := .dead) rfl) rfl ?_
            refine AL.p (by first | exact g_assign (r := .d _) rfl | exact g_assign (r := .own _ _) rfl | exact g_assign (r := .ptr _ _) rfl | exact g_assign (r := .agg _) rfl | exact g_assign (r := .tup _) rfl | exact g_assign (r := .clo _ _) rfl | exact g_assign (r := .tight _ _ _) rfl | exact g_assign (r := .und) rfl | exact g_assign (r := .dead) rfl) rfl ?_
            refine AL.p (by first | exact g_assign (r := .d _) rfl | exact g_assign (r := .own _ _) rfl | exact g_assign (r := .ptr _ _) rfl | exact g_assign (r := .agg _) rfl | exact g_assign (r := .tup _) rfl | exact g_assign (r := .clo _ _) rfl | exact g_assign (r := .tight _ _ _) rfl | exact g_assign (r := .und) rfl | exact g_assign (r := .dead) rfl) rfl ?_
            refine AL.nil ?_
            refine th_n ?_
            refine AC.ret ?_
            refine th_r ?_
            refine ib_r ?_
            refine th_r ?_
            refine th_r ?_
            refine ib_r ?_
            refine th_r ?_
            refine bq_r ?_
            have he : fireSeq N m ts 0 = (mm, (k : Int), false) := by rw [← hseq, hd, fireSeq, if_neg (by simpa using h3)]
            have hs := (SeqI_yes hz).trans he
            exact ret3 rfl (by rw [hs]) (by rw [hs]) (by rw [hs])
          · refine AC.skip ?_
            refine th_n ?_
            refine AC.region ?_
            refine AL.p (by first | exact g_move (r := .d _) rfl | exact g_move (r := .own _ _) rfl | exact g_move (r := .ptr _ _) rfl | exact g_move (r := .agg _) rfl | exact g_move (r := .tup _) rfl | exact g_move (r := .clo _ _) rfl | exact g_move (r := .tight _ _ _) rfl | exact g_move (r := .und) rfl | exact g_move (r := .dead) rfl) rfl ?_
            refine AL.p (by first | exact g_assign (r := .d _) rfl | exact g_assign (r := .own _ _) rfl | exact g_assign (r := .ptr _ _) rfl | exact g_assign (r := .agg _) rfl | exact g_assign (r := .tup _) rfl | exact g_assign (r := .clo _ _) rfl | exact g_assign (r := .tight _ _ _) rfl | exact g_assign (r := .und) rfl | exact g_assign (r := .dead) rfl) rfl ?_
            refine AL.nil ?_
            refine ib_n ?_
            refine th_n ?_
            refine AC.region ?_
            refine AL.p (by first | exact g_arith rfl rfl rfl (by first | exact wrap_i64 (by omega) | exact wrap_u8 (by omega) | exact wrap_u64 (by omega) | rfl) | exact g_sadd rfl rfl (by first | assumption | omega | (simp only [ByteArray.size_append, bstr_size, List.length_take, List.length_drop, List.length_cons, List.length_nil]; omega))) rfl ?_
            refine AL.p (by first | exact g_move (r := .d _) rfl | exact g_move (r := .own _ _) rfl | exact g_move (r := .ptr _ _) rfl | exact g_move (r := .agg _) rfl | exact g_move (r := .tup _) rfl | exact g_move (r := .clo _ _) rfl | exact g_move (r := .tight _ _ _) rfl | exact g_move (r := .und) rfl | exact g_move (r := .dead) rfl) rfl ?_
            refine AL.nil ?_
            refine th_n ?_
            have hf : (fireI N mm ts[k]).2 = true := by simpa using h3
            have he : fireSeq N (fireI N mm ts[k]).1 (ts.drop (k + 1)) ((k : Int) + 1) = fireSeq N m ts 0 := by rw [← hseq, hd, fireSeq, if_pos hf]
            exact ⟨(k + 1, (fireI N mm ts[k]).1), ⟨by show k + 1 ≤ _; omega, fireI_bits hmb hf, he⟩, by show _ - (k + 1) < _; omega, Weak.ren _ [] hC rfl (by repeat (first | exact True.intro | refine And.intro ?_ ?_ | exact DLead.same | exact DLead.eqI (by omega) | exact DLead.nil | exact rfl)) (by repeat (first | exact True.intro | refine And.intro ?_ ?_ | exact DLead.same | exact DLead.eqI (by omega) | exact DLead.nil | exact rfl | refine ⟨_, _, rfl, rfl, ?_⟩ | refine ⟨_, rfl, ?_⟩ | refine ⟨_, _, rfl, ?_, ?_⟩)) rfl rfl rfl⟩
        · refine AC.exit ?_
          refine th_e ?_
          refine th_e ?_
          refine ib_y ?_
          refine th_n ?_
          refine AC.seq ?_
          refine AC.region ?_
          refine AL.p (by first | exact g_move (r := .d _) rfl | exact g_move (r := .own _ _) rfl | exact g_move (r := .ptr _ _) rfl | exact g_move (r := .agg _) rfl | exact g_move (r := .tup _) rfl | exact g_move (r := .clo _ _) rfl | exact g_move (r := .tight _ _ _) rfl | exact g_move (r := .und) rfl | exact g_move (r := .dead) rfl) rfl ?_
          refine AL.p (by first | exact g_move (r := .d _) rfl | exact g_move (r := .own _ _) rfl | exact g_move (r := .ptr _ _) rfl | exact g_move (r := .agg _) rfl | exact g_move (r := .tup _) rfl | exact g_move (r := .clo _ _) rfl | exact g_move (r := .tight _ _ _) rfl | exact g_move (r := .und) rfl | exact g_move (r := .dead) rfl) rfl ?_
          refine AL.p (by first | exact g_len_view rfl rfl (by first | exact List.length_map _ | rfl) | exact g_len_str rfl rfl rfl | exact g_len_nil rfl rfl | exact g_len_own (sz := 1) (els := []) (e' := 0) rfl rfl (by simp only [maxLen]; omega) | exact g_len_tight rfl rfl (by first | exact List.length_map _ | rfl)) rfl ?_
          refine AL.p (by first | exact g_assign (r := .d _) rfl | exact g_assign (r := .own _ _) rfl | exact g_assign (r := .ptr _ _) rfl | exact g_assign (r := .agg _) rfl | exact g_assign (r := .tup _) rfl | exact g_assign (r := .clo _ _) rfl | exact g_assign (r := .tight _ _ _) rfl | exact g_assign (r := .und) rfl | exact g_assign (r := .dead) rfl) rfl ?_
          refine AL.p (by first | exact g_assign (r := .d _) rfl | exact g_assign (r := .own _ _) rfl | exact g_assign (r := .ptr _ _) rfl | exact g_assign (r := .agg _) rfl | exact g_assign (r := .tup _) rfl | exact g_assign (r := .clo _ _) rfl | exact g_assign (r := .tight _ _ _) rfl | exact g_assign (r := .und) rfl | exact g_assign (r := .dead) rfl) rfl ?_
          refine AL.p (by first | exact g_assign (r := .d _) rfl | exact g_assign (r := .own _ _) rfl | exact g_assign (r := .ptr _ _) rfl | exact g_assign (r := .agg _) rfl | exact g_assign (r := .tup _) rfl | exact g_assign (r := .clo _ _) rfl | exact g_assign (r := .tight _ _ _) rfl | exact g_assign (r := .und) rfl | exact g_assign (r := .dead) rfl) rfl ?_
          refine AL.nil ?_
          refine th_n ?_
          refine AC.ret ?_
          refine bq_r ?_
          have hkk : k = ts.length := by omega
          have he : fireSeq N m ts 0 = (mm, (ts.length : Int), true) := by rw [← hseq, hkk, List.drop_length]; rfl
          have hs := (SeqI_yes hz).trans he
          exact ret3 rfl (by rw [hs]) (by rw [hs]) (by rw [hs])
theorem en_iFireSeq : Enters Try.prog 15 := enters_of Try.func15 rfl rfl
set_option maxHeartbeats 2000000 in
theorem sFireSeq_spec (N : Net) (m : List UInt8) (ts : List Int) (hB : NetB N) (hm : m.length ≤ 2000000) (hts : ts.length ≤ 1000000) : ASpec Try.prog 16 [netA N, aS (bstr m), .d (vI ts)] [] (Pure1 (.tup [aS (bstr (SeqI N m ts).1), aI (SeqI N m ts).2.1, aT (SeqI N m ts).2.2])) := by
  refine ASpec.of Try.func16 rfl rfl fun C hC => ?_
  refine AC.seq ?_
  refine AC.region ?_
  refine AL.q (by exact h_boxF rfl rfl) rfl ?_
  refine AL.p (by first | exact g_assign (r := .d _) rfl | exact g_assign (r := .own _ _) rfl | exact g_assign (r := .ptr _ _) rfl | exact g_assign (r := .agg _) rfl | exact g_assign (r := .tup _) rfl | exact g_assign (r := .clo _ _) rfl | exact g_assign (r := .tight _ _ _) rfl | exact g_assign (r := .und) rfl | exact g_assign (r := .dead) rfl) rfl ?_
  refine AL.p (by first | exact g_assign (r := .d _) rfl | exact g_assign (r := .own _ _) rfl | exact g_assign (r := .ptr _ _) rfl | exact g_assign (r := .agg _) rfl | exact g_assign (r := .tup _) rfl | exact g_assign (r := .clo _ _) rfl | exact g_assign (r := .tight _ _ _) rfl | exact g_assign (r := .und) rfl | exact g_assign (r := .dead) rfl) rfl ?_
  refine AL.p (by first | exact g_assign (r := .d _) rfl | exact g_assign (r := .own _ _) rfl | exact g_assign (r := .ptr _ _) rfl | exact g_assign (r := .agg _) rfl | exact g_assign (r := .tup _) rfl | exact g_assign (r := .clo _ _) rfl | exact g_assign (r := .tight _ _ _) rfl | exact g_assign (r := .und) rfl | exact g_assign (r := .dead) rfl) rfl ?_
  refine AL.nil ?_
  refine th_n ?_
  refine AC.seq ?_
  refine AC.seq ?_
  refine AC.region ?_
  refine AL.p (by first | exact g_load_ref rfl rfl rfl | exact g_load_ptr rfl rfl rfl rfl rfl | exact g_load_refN rfl rfl rfl rfl | exact g_load_ptrN rfl rfl rfl rfl rfl | exact g_load_arr1 rfl rfl rfl rfl (by assumption) | exact g_load_arr rfl rfl rfl rfl (by first | rfl | omega) (by first | assumption | rfl) (by first | assumption | rfl)) rfl ?_
  refine AL.q (by exact h_pure en_l1Good rfl rfl (by repeat (first | exact rfl | exact DLead.same | exact DLead.nil | refine ⟨_, _, rfl, ?_, ?_⟩ | refine ⟨_, rfl, ?_⟩ | exact ⟨_, rfl, rfl⟩)) (l1Good_spec _ (by assumption)) rfl) rfl ?_
  refine AL.p (by first | exact g_not rfl | exact g_neg rfl (by first | exact wrap_i64 (by omega) | exact wrap_u8 (by omega) | exact wrap_u64 (by omega) | rfl)) rfl ?_
  refine AL.p (by first | exact g_move (r := .d _) rfl | exact g_move (r := .own _ _) rfl | exact g_move (r := .ptr _ _) rfl | exact g_move (r := .agg _) rfl | exact g_move (r := .tup _) rfl | exact g_move (r := .clo _ _) rfl | exact g_move (r := .tight _ _ _) rfl | exact g_move (r := .und) rfl | exact g_move (r := .dead) rfl) rfl ?_
  first | refine AL.caseG rfl rfl (fun h0 => ?_) (fun h0 => ?_) | refine AL.caseGN rfl rfl (fun h0 => ?_) (fun h0 => ?_) | refine AL.caseGB rfl rfl (fun h0 => ?_) (fun h0 => ?_) | refine AL.caseGNB rfl rfl (fun h0 => ?_) (fun h0 => ?_)
  · refine AL.not rfl rfl rfl rfl rfl ?_
    refine AL.not rfl rfl rfl rfl rfl ?_
    refine AL.not rfl rfl rfl rfl rfl ?_
    refine AL.not rfl rfl rfl rfl rfl ?_
    refine AL.p (by first | exact g_pickT (r := .d _) rfl rfl | exact g_pickF (r := .d _) rfl rfl) rfl ?_
    refine AL.p (by first | exact g_move (r := .d _) rfl | exact g_move (r := .own _ _) rfl | exact g_move (r := .ptr _ _) rfl | exact g_move (r := .agg _) rfl | exact g_move (r := .tup _) rfl | exact g_move (r := .clo _ _) rfl | exact g_move (r := .tight _ _ _) rfl | exact g_move (r := .und) rfl | exact g_move (r := .dead) rfl) rfl ?_
    refine AL.not rfl rfl rfl rfl rfl ?_
    refine AL.not rfl rfl rfl rfl rfl ?_
    refine AL.not rfl rfl rfl rfl rfl ?_
    refine AL.p (by first | exact g_pickT (r := .d _) rfl rfl | exact g_pickF (r := .d _) rfl rfl) rfl ?_
    refine AL.nil ?_
    refine th_n ?_
    refine AC.condT rfl ?_
    refine AC.seq ?_
    refine AC.region ?_
    refine AL.p (by first | exact g_assign (r := .d _) rfl | exact g_assign (r := .own _ _) rfl | exact g_assign (r := .ptr _ _) rfl | exact g_assign (r := .agg _) rfl | exact g_assign (r := .tup _) rfl | exact g_assign (r := .clo _ _) rfl | exact g_assign (r := .tight _ _ _) rfl | exact g_assign (r := .und) rfl | exact g_assign (r := .dead) rfl) rfl ?_
    refine AL.p (by first | exact g_assign (r := .d _) rfl | exact g_assign (r := .own _ _) rfl | exact g_assign (r := .ptr _ _) rfl | exact g_assign (r := .agg _) rfl | exact g_assign (r := .tup _) rfl | exact g_assign (r := .clo _ _) rfl | exact g_assign (r := .tight _ _ _) rfl | exact g_assign (r := .und) rfl | exact g_assign (r := .dead) rfl) rfl ?_
    refine AL.p (by first | exact g_assign (r := .d _) rfl | exact g_assign (r := .own _ _) rfl | exact g_assign (r := .ptr _ _) rfl | exact g_assign (r := .agg _) rfl | exact g_assign (r := .tup _) rfl | exact g_assign (r := .clo _ _) rfl | exact g_assign (r := .tight _ _ _) rfl | exact g_assign (r := .und) rfl | exact g_assign (r := .dead) rfl) rfl ?_
    refine AL.nil ?_
    refine th_n ?_
    refine AC.ret ?_
    refine th_r ?_
    refine bq_r ?_
    have hz : ((goodN N && bitsB m N.places) && decide ((ts.length : Int) ≤ 200)) = false := by first | (have hz := h2; rw [Bool.and_eq_false_iff]; exact .inr (by simp; omega)) | (have hz := (Bool.not_eq_true' _).mp h1; rw [hz, Bool.and_false]; rfl) | (rw [(Bool.not_eq_true' _).mp h0]; rfl)
    have hs := SeqI_no hz
    exact ret3 rfl (by rw [hs]; rfl) (by rw [hs]) (by rw [hs])
  · refine AL.yes rfl rfl rfl ?_
    refine AL.p (by first | exact g_load_ref rfl rfl rfl | exact g_load_ptr rfl rfl rfl rfl rfl | exact g_load_refN rfl rfl rfl rfl | exact g_load_ptrN rfl rfl rfl rfl rfl | exact g_load_arr1 rfl rfl rfl rfl (by assumption) | exact g_load_arr rfl rfl rfl rfl (by first | rfl | omega) (by first | assumption | rfl) (by first | assumption | rfl)) rfl ?_
    refine AL.yes rfl rfl rfl ?_
    refine AL.p (by first | exact g_move (r := .d _) rfl | exact g_move (r := .own _ _) rfl | exact g_move (r := .ptr _ _) rfl | exact g_move (r := .agg _) rfl | exact g_move (r := .tup _) rfl | exact g_move (r := .clo _ _) rfl | exact g_move (r := .tight _ _ _) rfl | exact g_move (r := .und) rfl | exact g_move (r := .dead) rfl) rfl ?_
    refine AL.yes rfl rfl rfl ?_
    refine AL.q (by exact h_pure en_l1Mark rfl rfl (by repeat (first | exact rfl | exact DLead.same | exact DLead.nil | refine ⟨_, _, rfl, ?_, ?_⟩ | refine ⟨_, rfl, ?_⟩ | exact ⟨_, rfl, rfl⟩)) (l1Mark_spec _ _ (by first | assumption | omega)) rfl) rfl ?_
    refine AL.yes rfl rfl rfl ?_
    refine AL.p (by first | exact g_not rfl | exact g_neg rfl (by first | exact wrap_i64 (by omega) | exact wrap_u8 (by omega) | exact wrap_u64 (by omega) | rfl)) rfl ?_
    refine AL.p (by first | exact g_pickT (r := .d _) rfl rfl | exact g_pickF (r := .d _) rfl rfl) rfl ?_
    refine AL.p (by first | exact g_move (r := .d _) rfl | exact g_move (r := .own _ _) rfl | exact g_move (r := .ptr _ _) rfl | exact g_move (r := .agg _) rfl | exact g_move (r := .tup _) rfl | exact g_move (r := .clo _ _) rfl | exact g_move (r := .tight _ _ _) rfl | exact g_move (r := .und) rfl | exact g_move (r := .dead) rfl) rfl ?_
    first | refine AL.caseG rfl rfl (fun h1 => ?_) (fun h1 => ?_) | refine AL.caseGN rfl rfl (fun h1 => ?_) (fun h1 => ?_) | refine AL.caseGB rfl rfl (fun h1 => ?_) (fun h1 => ?_) | refine AL.caseGNB rfl rfl (fun h1 => ?_) (fun h1 => ?_)
    · refine AL.not rfl rfl rfl rfl rfl ?_
      refine AL.not rfl rfl rfl rfl rfl ?_
      refine AL.not rfl rfl rfl rfl rfl ?_
      refine AL.p (by first | exact g_pickT (r := .d _) rfl rfl | exact g_pickF (r := .d _) rfl rfl) rfl ?_
      refine AL.nil ?_
      refine th_n ?_
      refine AC.condT rfl ?_
      refine AC.seq ?_
      refine AC.region ?_
      refine AL.p (by first | exact g_assign (r := .d _) rfl | exact g_assign (r := .own _ _) rfl | exact g_assign (r := .ptr _ _) rfl | exact g_assign (r := .agg _) rfl | exact g_assign (r := .tup _) rfl | exact g_assign (r := .clo _ _) rfl | exact g_assign (r := .tight _ _ _) rfl | exact g_assign (r := .und) rfl | exact g_assign (r := .dead) rfl) rfl ?_
      refine AL.p (by first | exact g_assign (r := .d _) rfl | exact g_assign (r := .own _ _) rfl | exact g_assign (r := .ptr _ _) rfl | exact g_assign (r := .agg _) rfl | exact g_assign (r := .tup _) rfl | exact g_assign (r := .clo _ _) rfl | exact g_assign (r := .tight _ _ _) rfl | exact g_assign (r := .und) rfl | exact g_assign (r := .dead) rfl) rfl ?_
      refine AL.p (by first | exact g_assign (r := .d _) rfl | exact g_assign (r := .own _ _) rfl | exact g_assign (r := .ptr _ _) rfl | exact g_assign (r := .agg _) rfl | exact g_assign (r := .tup _) rfl | exact g_assign (r := .clo _ _) rfl | exact g_assign (r := .tight _ _ _) rfl | exact g_assign (r := .und) rfl | exact g_assign (r := .dead) rfl) rfl ?_
      refine AL.nil ?_
      refine th_n ?_
      refine AC.ret ?_
      refine th_r ?_
      refine bq_r ?_
      have hz : ((goodN N && bitsB m N.places) && decide ((ts.length : Int) ≤ 200)) = false := by first | (have hz := h2; rw [Bool.and_eq_false_iff]; exact .inr (by simp; omega)) | (have hz := (Bool.not_eq_true' _).mp h1; rw [hz, Bool.and_false]; rfl) | (rw [(Bool.not_eq_true' _).mp h0]; rfl)
      have hs := SeqI_no hz
      exact ret3 rfl (by rw [hs]; rfl) (by rw [hs]) (by rw [hs])
    · refine AL.yes rfl rfl rfl ?_
      have hg1 : goodN N = true := (Bool.not_eq_false' _).mp h0
      have hg2 : bitsB m N.places = true := (Bool.not_eq_false' _).mp h1
      have hg : (goodN N && bitsB m N.places) = true := by rw [hg1, hg2]; rfl
      refine AL.p (by first | exact g_move (r := .d _) rfl | exact g_move (r := .own _ _) rfl | exact g_move (r := .ptr _ _) rfl | exact g_move (r := .agg _) rfl | exact g_move (r := .tup _) rfl | exact g_move (r := .clo _ _) rfl | exact g_move (r := .tight _ _ _) rfl | exact g_move (r := .und) rfl | exact g_move (r := .dead) rfl) rfl ?_
      refine AL.yes rfl rfl rfl ?_
      refine AL.p (by first | exact g_len_view rfl rfl (by first | exact List.length_map _ | rfl) | exact g_len_str rfl rfl rfl | exact g_len_nil rfl rfl | exact g_len_own (sz := 1) (els := []) (e' := 0) rfl rfl (by simp only [maxLen]; omega) | exact g_len_tight rfl rfl (by first | exact List.length_map _ | rfl)) rfl ?_
      refine AL.yes rfl rfl rfl ?_
      refine AL.p (by first | exact g_cmp rfl rfl rfl | exact g_scmp rfl rfl rfl | exact g_eqB rfl rfl rfl | exact g_neB rfl rfl rfl) rfl ?_
      refine AL.p (by first | exact g_pickT (r := .d _) rfl rfl | exact g_pickF (r := .d _) rfl rfl) rfl ?_
      refine AL.nil ?_
      refine th_n ?_
      first | refine AC.condD rfl (fun h2 => ?_) (fun h2 => ?_) | refine AC.condND rfl (fun h2 => ?_) (fun h2 => ?_) | refine AC.condB rfl (fun h2 => ?_) (fun h2 => ?_) | refine AC.condNB rfl (fun h2 => ?_) (fun h2 => ?_)
      · refine AC.seq ?_
        refine AC.region ?_
        refine AL.p (by first | exact g_assign (r := .d _) rfl | exact g_assign (r := .own _ _) rfl | exact g_assign (r := .ptr _ _) rfl | exact g_assign (r := .agg _) rfl | exact g_assign (r := .tup _) rfl | exact g_assign (r := .clo _ _) rfl | exact g_assign (r := .tight _ _ _) rfl | exact g_assign (r := .und) rfl | exact g_assign (r := .dead) rfl) rfl ?_
        refine AL.p (by first | exact g_assign (r := .d _) rfl | exact g_assign (r := .own _ _) rfl | exact g_assign (r := .ptr _ _) rfl | exact g_assign (r := .agg _) rfl | exact g_assign (r := .tup _) rfl | exact g_assign (r := .clo _ _) rfl | exact g_assign (r := .tight _ _ _) rfl | exact g_assign (r := .und) rfl | exact g_assign (r := .dead) rfl) rfl ?_
        refine AL.p (by first | exact g_assign (r := .d _) rfl | exact g_assign (r := .own _ _) rfl | exact g_assign (r := .ptr _ _) rfl | exact g_assign (r := .agg _) rfl | exact g_assign (r := .tup _) rfl | exact g_assign (r := .clo _ _) rfl | exact g_assign (r := .tight _ _ _) rfl | exact g_assign (r := .und) rfl | exact g_assign (r := .dead) rfl) rfl ?_
        refine AL.nil ?_
        refine th_n ?_
        refine AC.ret ?_
        refine th_r ?_
        refine bq_r ?_
        have hz : ((goodN N && bitsB m N.places) && decide ((ts.length : Int) ≤ 200)) = false := by first | (have hz := h2; rw [Bool.and_eq_false_iff]; exact .inr (by simp; omega)) | (have hz := (Bool.not_eq_true' _).mp h1; rw [hz, Bool.and_false]; rfl) | (rw [(Bool.not_eq_true' _).mp h0]; rfl)
        have hs := SeqI_no hz
        exact ret3 rfl (by rw [hs]; rfl) (by rw [hs]) (by rw [hs])
      · refine AC.skip ?_
        refine th_n ?_
        refine AC.seq ?_
        refine AC.seq ?_
        have hpl := good_places hg1
        have hz : ((goodN N && bitsB m N.places) && decide ((ts.length : Int) ≤ 200)) = true := by rw [hg]; simp; omega
        refine AC.region ?_
        refine AL.p (by first | exact g_move (r := .d _) rfl | exact g_move (r := .own _ _) rfl | exact g_move (r := .ptr _ _) rfl | exact g_move (r := .agg _) rfl | exact g_move (r := .tup _) rfl | exact g_move (r := .clo _ _) rfl | exact g_move (r := .tight _ _ _) rfl | exact g_move (r := .und) rfl | exact g_move (r := .dead) rfl) rfl ?_
        refine AL.p (by first | exact g_len_view rfl rfl (by first | exact List.length_map _ | rfl) | exact g_len_str rfl rfl rfl | exact g_len_nil rfl rfl | exact g_len_own (sz := 1) (els := []) (e' := 0) rfl rfl (by simp only [maxLen]; omega) | exact g_len_tight rfl rfl (by first | exact List.length_map _ | rfl)) rfl ?_
        refine AL.p (by first | exact g_move (r := .d _) rfl | exact g_move (r := .own _ _) rfl | exact g_move (r := .ptr _ _) rfl | exact g_move (r := .agg _) rfl | exact g_move (r := .tup _) rfl | exact g_move (r := .clo _ _) rfl | exact g_move (r := .tight _ _ _) rfl | exact g_move (r := .und) rfl | exact g_move (r := .dead) rfl) rfl ?_
        refine AL.nil ?_
        refine th_n ?_
        refine AC.block ?_
        refine AC.loop (ι := Nat × List UInt8) (fun x => ⟨50, 0, [(1, aS (bstr x.2)), (2, .d (vI ts)), (3, .d (.ref (netD N))), (27, .d (vI ts)), (28, aI ts.length), (29, aI x.1)], []⟩) (fun x => x.1 ≤ ts.length ∧ bitsB x.2 N.places = true ∧ fireSeq N x.2 (ts.drop x.1) x.1 = fireSeq N m ts 0) (fun x => ts.length - x.1) ((0, m)) ?_ (⟨Nat.zero_le _, hg2, rfl⟩) ?_
        · refine Weak.ren _ [] hC rfl ?_ ?_ rfl rfl rfl <;> repeat (first | exact True.intro | refine And.intro ?_ ?_ | exact DLead.same | exact DLead.eqI (by omega) | exact DLead.nil | exact rfl)
        · rintro ⟨k, mm⟩ ⟨hk, hmb, hseq⟩
          dsimp only at hk hmb hseq ⊢
          have hmm := bits_len hmb
          refine AC.seq ?_
          refine AC.region ?_
          refine AL.p (by first | exact g_cmp rfl rfl rfl | exact g_scmp rfl rfl rfl | exact g_eqB rfl rfl rfl | exact g_neB rfl rfl rfl) rfl ?_
          refine AL.nil ?_
          refine th_n ?_
          refine AC.seq ?_
          first | refine AC.condD rfl (fun h3 => ?_) (fun h3 => ?_) | refine AC.condND rfl (fun h3 => ?_) (fun h3 => ?_) | refine AC.condB rfl (fun h3 => ?_) (fun h3 => ?_) | refine AC.condNB rfl (fun h3 => ?_) (fun h3 => ?_)
          · refine AC.skip ?_
            refine th_n ?_
            refine AC.seq ?_
            refine AC.block ?_
            refine AC.seq ?_
            have hk1 : k < ts.length := by omega
            have hget := ints_at hk1
            have hd : ts.drop k = ts[k] :: ts.drop (k + 1) := List.drop_eq_getElem_cons hk1
            have hfe : FireI N mm ts[k] = fireI N mm ts[k] := FireI_yes (by rw [hg1, hmb]; rfl)
            refine AC.region ?_
            refine AL.p (by first | exact g_move (r := .d _) rfl | exact g_move (r := .own _ _) rfl | exact g_move (r := .ptr _ _) rfl | exact g_move (r := .agg _) rfl | exact g_move (r := .tup _) rfl | exact g_move (r := .clo _ _) rfl | exact g_move (r := .tight _ _ _) rfl | exact g_move (r := .und) rfl | exact g_move (r := .dead) rfl) rfl ?_
            refine AL.p (by first | exact g_ia_view rfl rfl rfl rfl rfl (by first | rfl | assumption) (by first | assumption | rfl) | exact g_ia_own rfl rfl rfl rfl rfl (by first | rfl | assumption) (by omega) (by first | exact Nat.mul_one _ | rfl | omega)) rfl ?_
            refine AL.p (by first | exact g_load_ref rfl rfl rfl | exact g_load_ptr rfl rfl rfl rfl rfl | exact g_load_refN rfl rfl rfl rfl | exact g_load_ptrN rfl rfl rfl rfl rfl | exact g_load_arr1 rfl rfl rfl rfl (by assumption) | exact g_load_arr rfl rfl rfl rfl (by first | rfl | omega) (by first | assumption | rfl) (by first | assumption | rfl)) rfl ?_
            refine AL.p (by first | exact g_assign (r := .d _) rfl | exact g_assign (r := .own _ _) rfl | exact g_assign (r := .ptr _ _) rfl | exact g_assign (r := .agg _) rfl | exact g_assign (r := .tup _) rfl | exact g_assign (r := .clo _ _) rfl | exact g_assign (r := .tight _ _ _) rfl | exact g_assign (r := .und) rfl | exact g_assign (r := .dead) rfl) rfl ?_
            refine AL.p (by first | exact g_assign (r := .d _) rfl | exact g_assign (r := .own _ _) rfl | exact g_assign (r := .ptr _ _) rfl | exact g_assign (r := .agg _) rfl | exact g_assign (r := .tup _) rfl | exact g_assign (r := .clo _ _) rfl | exact g_assign (r := .tight _ _ _) rfl | exact g_assign (r := .und) rfl | exact g_assign (r := .dead) rfl) rfl ?_
            refine AL.nil ?_
            refine th_n ?_
            refine AC.seq ?_
            refine AC.region ?_
            refine AL.p (by first | exact g_load_ref rfl rfl rfl | exact g_load_ptr rfl rfl rfl rfl rfl | exact g_load_refN rfl rfl rfl rfl | exact g_load_ptrN rfl rfl rfl rfl rfl | exact g_load_arr1 rfl rfl rfl rfl (by assumption) | exact g_load_arr rfl rfl rfl rfl (by first | rfl | omega) (by first | assumption | rfl) (by first | assumption | rfl)) rfl ?_
            refine AL.p (by first | exact g_move (r := .d _) rfl | exact g_move (r := .own _ _) rfl | exact g_move (r := .ptr _ _) rfl | exact g_move (r := .agg _) rfl | exact g_move (r := .tup _) rfl | exact g_move (r := .clo _ _) rfl | exact g_move (r := .tight _ _ _) rfl | exact g_move (r := .und) rfl | exact g_move (r := .dead) rfl) rfl ?_
            refine AL.p (by first | exact g_move (r := .d _) rfl | exact g_move (r := .own _ _) rfl | exact g_move (r := .ptr _ _) rfl | exact g_move (r := .agg _) rfl | exact g_move (r := .tup _) rfl | exact g_move (r := .clo _ _) rfl | exact g_move (r := .tight _ _ _) rfl | exact g_move (r := .und) rfl | exact g_move (r := .dead) rfl) rfl ?_
            refine AL.q (by exact h_pure en_sFire rfl rfl (by repeat (first | exact rfl | exact DLead.same | exact DLead.nil | refine ⟨_, _, rfl, ?_, ?_⟩ | refine ⟨_, rfl, ?_⟩ | exact ⟨_, rfl, rfl⟩)) (sFire_spec _ _ _ (by assumption) (by first | assumption | omega)) rfl) rfl ?_
            refine AL.p (by first | exact g_move (r := .d _) rfl | exact g_move (r := .own _ _) rfl | exact g_move (r := .ptr _ _) rfl | exact g_move (r := .agg _) rfl | exact g_move (r := .tup _) rfl | exact g_move (r := .clo _ _) rfl | exact g_move (r := .tight _ _ _) rfl | exact g_move (r := .und) rfl | exact g_move (r := .dead) rfl) rfl ?_
            refine AL.p (by first | exact g_extract (r := .d _) rfl rfl | exact g_extract (r := .own _ _) rfl rfl | exact g_extract (r := .agg _) rfl rfl) rfl ?_
            refine AL.p (by first | exact g_extract (r := .d _) rfl rfl | exact g_extract (r := .own _ _) rfl rfl | exact g_extract (r := .agg _) rfl rfl) rfl ?_
            refine AL.p (by first | exact g_assign (r := .d _) rfl | exact g_assign (r := .own _ _) rfl | exact g_assign (r := .ptr _ _) rfl | exact g_assign (r := .agg _) rfl | exact g_assign (r := .tup _) rfl | exact g_assign (r := .clo _ _) rfl | exact g_assign (r := .tight _ _ _) rfl | exact g_assign (r := .und) rfl | exact g_assign (r := .dead) rfl) rfl ?_
            refine AL.p (by first | exact g_assign (r := .d _) rfl | exact g_assign (r := .own _ _) rfl | exact g_assign (r := .ptr _ _) rfl | exact g_assign (r := .agg _) rfl | exact g_assign (r := .tup _) rfl | exact g_assign (r := .clo _ _) rfl | exact g_assign (r := .tight _ _ _) rfl | exact g_assign (r := .und) rfl | exact g_assign (r := .dead) rfl) rfl ?_
            refine AL.nil ?_
            refine th_n ?_
            refine AC.seq ?_
            refine AC.seq ?_
            refine AC.region ?_
            refine AL.p (by first | exact g_move (r := .d _) rfl | exact g_move (r := .own _ _) rfl | exact g_move (r := .ptr _ _) rfl | exact g_move (r := .agg _) rfl | exact g_move (r := .tup _) rfl | exact g_move (r := .clo _ _) rfl | exact g_move (r := .tight _ _ _) rfl | exact g_move (r := .und) rfl | exact g_move (r := .dead) rfl) rfl ?_
            refine AL.p (by first | exact g_not rfl | exact g_neg rfl (by first | exact wrap_i64 (by omega) | exact wrap_u8 (by omega) | exact wrap_u64 (by omega) | rfl)) rfl ?_
            refine AL.nil ?_
            refine th_n ?_
            first | refine AC.condD rfl (fun h4 => ?_) (fun h4 => ?_) | refine AC.condND rfl (fun h4 => ?_) (fun h4 => ?_) | refine AC.condB rfl (fun h4 => ?_) (fun h4 => ?_) | refine AC.condNB rfl (fun h4 => ?_) (fun h4 => ?_)
            · refine AC.seq ?_
              refine AC.region ?_
              refine AL.p (by first | exact g_move (r := .d _) rfl | exact g_move (r := .own _ _) rfl | exact g_move (r := .ptr _ _) rfl | exact g_move (r := .agg _) rfl | exact g_move (r := .tup _) rfl | exact g_move (r := .clo _ _) rfl | exact g_move (r := .tight _ _ _) rfl | exact g_move (r := .und) rfl | exact g_move (r := .dead) rfl) rfl ?_
              refine AL.p (by first | exact g_move (r := .d _) rfl | exact g_move (r := .own _ _) rfl | exact g_move (r := .ptr _ _) rfl | exact g_move (r := .agg _) rfl | exact g_move (r := .tup _) rfl | exact g_move (r := .clo _ _) rfl | exact g_move (r := .tight _ _ _) rfl | exact g_move (r := .und) rfl | exact g_move (r := .dead) rfl) rfl ?_
              refine AL.p (by first | exact g_assign (r := .d _) rfl | exact g_assign (r := .own _ _) rfl | exact g_assign (r := .ptr _ _) rfl | exact g_assign (r := .agg _) rfl | exact g_assign (r := .tup _) rfl | exact g_assign (r := .clo _ _) rfl | exact g_assign (r := .tight _ _ _) rfl | exact g_assign (r := .und) rfl | exact g_assign (r := .dead) rfl) rfl ?_
              refine AL.p (by first | exact g_assign (r := .d _) rfl | exact g_assign (r := .own _ _) rfl | exact g_assign (r := .ptr _ _) rfl | exact g_assign (r := .agg _) rfl | exact g_assign (r := .tup _) rfl | exact g_assign (r := .clo _ _) rfl | exact g_assign (r := .tight _ _ _) rfl | exact g_assign (r := .und) rfl | exact g_assign (r := .dead) rfl) rfl ?_
              refine AL.p (by first | exact g_assign (r := .d _) rfl | exact g_assign (r := .own _ _) rfl | exact g_assign (r := .ptr _ _) rfl | exact g_assign (r := .agg _) rfl | exact g_assign (r := .tup _) rfl | exact g_assign (r := .clo _ _) rfl | exact g_assign (r := .tight _ _ _) rfl | exact g_assign (r := .und) rfl | exact g_assign (r := .dead) rfl) rfl ?_
              refine AL.nil ?_
              refine th_n ?_
              refine AC.ret ?_
              refine th_r ?_
              refine ib_r ?_
              refine th_r ?_
              refine th_r ?_
              refine ib_r ?_
              refine th_r ?_
              refine bq_r ?_
              have he : fireSeq N m ts 0 = (mm, (k : Int), false) := by rw [← hseq, hd, fireSeq, if_neg (by rw [← hfe]; simpa using h4)]
              have hs := (SeqI_yes hz).trans he
              exact ret3 rfl (by rw [hs]) (by rw [hs]) (by rw [hs])
            · refine AC.skip ?_
              refine th_n ?_
              refine AC.region ?_
              refine AL.p (by first | exact g_move (r := .d _) rfl | exact g_move (r := .own _ _) rfl | exact g_move (r := .ptr _ _) rfl | exact g_move (r := .agg _) rfl | exact g_move (r := .tup _) rfl | exact g_move (r := .clo _ _) rfl | exact g_move (r := .tight _ _ _) rfl | exact g_move (r := .und) rfl | exact g_move (r := .dead) rfl) rfl ?_
              refine AL.p (by first | exact g_assign (r := .d _) rfl | exact g_assign (r := .own _ _) rfl | exact g_assign (r := .ptr _ _) rfl | exact g_assign (r := .agg _) rfl | exact g_assign (r := .tup _) rfl | exact g_assign (r := .clo _ _) rfl | exact g_assign (r := .tight _ _ _) rfl | exact g_assign (r := .und) rfl | exact g_assign (r := .dead) rfl) rfl ?_
              refine AL.nil ?_
              refine ib_n ?_
              refine th_n ?_
              refine AC.region ?_
              refine AL.p (by first | exact g_arith rfl rfl rfl (by first | exact wrap_i64 (by omega) | exact wrap_u8 (by omega) | exact wrap_u64 (by omega) | rfl) | exact g_sadd rfl rfl (by first | assumption | omega | (simp only [ByteArray.size_append, bstr_size, List.length_take, List.length_drop, List.length_cons, List.length_nil]; omega))) rfl ?_
              refine AL.p (by first | exact g_move (r := .d _) rfl | exact g_move (r := .own _ _) rfl | exact g_move (r := .ptr _ _) rfl | exact g_move (r := .agg _) rfl | exact g_move (r := .tup _) rfl | exact g_move (r := .clo _ _) rfl | exact g_move (r := .tight _ _ _) rfl | exact g_move (r := .und) rfl | exact g_move (r := .dead) rfl) rfl ?_
              refine AL.nil ?_
              refine th_n ?_
              have hf : (FireI N mm ts[k]).2 = true := by simpa using h4
              have hf' : (fireI N mm ts[k]).2 = true := by rw [← hfe]; exact hf
              have he : fireSeq N (fireI N mm ts[k]).1 (ts.drop (k + 1)) ((k : Int) + 1) = fireSeq N m ts 0 := by rw [← hseq, hd, fireSeq, if_pos hf']
              exact ⟨(k + 1, (FireI N mm ts[k]).1), ⟨by show k + 1 ≤ _; omega, by show bitsB (FireI N mm ts[k]).1 _ = true; rw [hfe]; exact fireI_bits hmb hf', by show fireSeq N (FireI N mm ts[k]).1 _ _ = _; rw [hfe]; exact he⟩, by show _ - (k + 1) < _; omega, Weak.ren _ [] hC rfl (by repeat (first | exact True.intro | refine And.intro ?_ ?_ | exact DLead.same | exact DLead.eqI (by omega) | exact DLead.nil | exact rfl)) (by repeat (first | exact True.intro | refine And.intro ?_ ?_ | exact DLead.same | exact DLead.eqI (by omega) | exact DLead.nil | exact rfl | refine ⟨_, _, rfl, rfl, ?_⟩ | refine ⟨_, rfl, ?_⟩ | refine ⟨_, _, rfl, ?_, ?_⟩)) rfl rfl rfl⟩
          · refine AC.exit ?_
            refine th_e ?_
            refine th_e ?_
            refine ib_y ?_
            refine th_n ?_
            refine AC.seq ?_
            refine AC.region ?_
            refine AL.p (by first | exact g_move (r := .d _) rfl | exact g_move (r := .own _ _) rfl | exact g_move (r := .ptr _ _) rfl | exact g_move (r := .agg _) rfl | exact g_move (r := .tup _) rfl | exact g_move (r := .clo _ _) rfl | exact g_move (r := .tight _ _ _) rfl | exact g_move (r := .und) rfl | exact g_move (r := .dead) rfl) rfl ?_
            refine AL.p (by first | exact g_move (r := .d _) rfl | exact g_move (r := .own _ _) rfl | exact g_move (r := .ptr _ _) rfl | exact g_move (r := .agg _) rfl | exact g_move (r := .tup _) rfl | exact g_move (r := .clo _ _) rfl | exact g_move (r := .tight _ _ _) rfl | exact g_move (r := .und) rfl | exact g_move (r := .dead) rfl) rfl ?_
            refine AL.p (by first | exact g_len_view rfl rfl (by first | exact List.length_map _ | rfl) | exact g_len_str rfl rfl rfl | exact g_len_nil rfl rfl | exact g_len_own (sz := 1) (els := []) (e' := 0) rfl rfl (by simp only [maxLen]; omega) | exact g_len_tight rfl rfl (by first | exact List.length_map _ | rfl)) rfl ?_
            refine AL.p (by first | exact g_assign (r := .d _) rfl | exact g_assign (r := .own _ _) rfl | exact g_assign (r := .ptr _ _) rfl | exact g_assign (r := .agg _) rfl | exact g_assign (r := .tup _) rfl | exact g_assign (r := .clo _ _) rfl | exact g_assign (r := .tight _ _ _) rfl | exact g_assign (r := .und) rfl | exact g_assign (r := .dead) rfl) rfl ?_
            refine AL.p (by first | exact g_assign (r := .d _) rfl | exact g_assign (r := .own _ _) rfl | exact g_assign (r := .ptr _ _) rfl | exact g_assign (r := .agg _) rfl | exact g_assign (r := .tup _) rfl | exact g_assign (r := .clo _ _) rfl | exact g_assign (r := .tight _ _ _) rfl | exact g_assign (r := .und) rfl | exact g_assign (r := .dead) rfl) rfl ?_
            refine AL.p (by first | exact g_assign (r := .d _) rfl | exact g_assign (r := .own _ _) rfl | exact g_assign (r := .ptr _ _) rfl | exact g_assign (r := .agg _) rfl | exact g_assign (r := .tup _) rfl | exact g_assign (r := .clo _ _) rfl | exact g_assign (r := .tight _ _ _) rfl | exact g_assign (r := .und) rfl | exact g_assign (r := .dead) rfl) rfl ?_
            refine AL.nil ?_
            refine th_n ?_
            refine AC.ret ?_
            refine bq_r ?_
            have hkk : k = ts.length := by omega
            have he : fireSeq N m ts 0 = (mm, (ts.length : Int), true) := by rw [← hseq, hkk, List.drop_length]; rfl
            have hs := (SeqI_yes hz).trans he
            exact ret3 rfl (by rw [hs]) (by rw [hs]) (by rw [hs])
theorem en_sFireSeq : Enters Try.prog 16 := enters_of Try.func16 rfl rfl

def hasI (l : List Int) (n : Int) : Bool := l.any (fun x => decide (x = n))
set_option maxHeartbeats 1000000 in
theorem lhas_spec (l : List Int) (n : Int) (hl : l.length ≤ 1000000) : ASpec Try.prog 12 [.d (vI l), aI n] [] (Pure1 (aT (hasI l n))) := by
  refine ASpec.of Try.func12 rfl rfl fun C hC => ?_
  refine AC.seq ?_
  refine AC.region ?_
  refine AL.p (by first | exact g_assign (r := .d _) rfl | exact g_assign (r := .own _ _) rfl | exact g_assign (r := .ptr _ _) rfl | exact g_assign (r := .agg _) rfl | exact g_assign (r := .tup _) rfl | exact g_assign (r := .clo _ _) rfl | exact g_assign (r := .tight _ _ _) rfl | exact g_assign (r := .und) rfl | exact g_assign (r := .dead) rfl) rfl ?_
  refine AL.nil ?_
  refine th_n ?_
  refine AC.seq ?_
  refine AC.seq ?_
  refine AC.region ?_
  refine AL.p (by first | exact g_move (r := .d _) rfl | exact g_move (r := .own _ _) rfl | exact g_move (r := .ptr _ _) rfl | exact g_move (r := .agg _) rfl | exact g_move (r := .tup _) rfl | exact g_move (r := .clo _ _) rfl | exact g_move (r := .tight _ _ _) rfl | exact g_move (r := .und) rfl | exact g_move (r := .dead) rfl) rfl ?_
  refine AL.p (by first | exact g_len_view rfl rfl (by first | exact List.length_map _ | rfl) | exact g_len_str rfl rfl rfl | exact g_len_nil rfl rfl | exact g_len_own (sz := 1) (els := []) (e' := 0) rfl rfl (by simp only [maxLen]; omega) | exact g_len_tight rfl rfl (by first | exact List.length_map _ | rfl)) rfl ?_
  refine AL.p (by first | exact g_move (r := .d _) rfl | exact g_move (r := .own _ _) rfl | exact g_move (r := .ptr _ _) rfl | exact g_move (r := .agg _) rfl | exact g_move (r := .tup _) rfl | exact g_move (r := .clo _ _) rfl | exact g_move (r := .tight _ _ _) rfl | exact g_move (r := .und) rfl | exact g_move (r := .dead) rfl) rfl ?_
  refine AL.nil ?_
  refine th_n ?_
  refine AC.block ?_
  refine AC.loop (ι := Nat) (fun k => ⟨17, 0, [(1, aI n), (7, .d (vI l)), (8, aI l.length), (9, aI k)], []⟩) (fun k => k ≤ l.length ∧ ∀ j (hj : j < l.length), j < k → decide (l[j] = n) = false) (fun k => l.length - k) (0) ?_ (⟨Nat.zero_le _, fun j _ hj => by omega⟩) ?_
  · refine Weak.ren _ [] hC rfl ?_ ?_ rfl rfl rfl <;> repeat (first | exact True.intro | refine And.intro ?_ ?_ | exact DLead.same | exact DLead.eqI (by omega) | exact DLead.nil | exact rfl)
  · intro k ⟨hk, hall⟩
    refine AC.seq ?_
    refine AC.region ?_
    refine AL.p (by first | exact g_cmp rfl rfl rfl | exact g_scmp rfl rfl rfl | exact g_eqB rfl rfl rfl | exact g_neB rfl rfl rfl) rfl ?_
    refine AL.nil ?_
    refine th_n ?_
    refine AC.seq ?_
    first | refine AC.condD rfl (fun h0 => ?_) (fun h0 => ?_) | refine AC.condND rfl (fun h0 => ?_) (fun h0 => ?_) | refine AC.condB rfl (fun h0 => ?_) (fun h0 => ?_) | refine AC.condNB rfl (fun h0 => ?_) (fun h0 => ?_)
    · refine AC.skip ?_
      refine th_n ?_
      refine AC.seq ?_
      refine AC.block ?_
      refine AC.seq ?_
      have hk1 : k < l.length := by omega
      have hget := ints_at hk1
      refine AC.region ?_
      refine AL.p (by first | exact g_ia_view rfl rfl rfl rfl rfl (by first | rfl | assumption) (by first | assumption | rfl) | exact g_ia_own rfl rfl rfl rfl rfl (by first | rfl | assumption) (by omega) (by first | exact Nat.mul_one _ | rfl | omega)) rfl ?_
      refine AL.p (by first | exact g_load_ref rfl rfl rfl | exact g_load_ptr rfl rfl rfl rfl rfl | exact g_load_refN rfl rfl rfl rfl | exact g_load_ptrN rfl rfl rfl rfl rfl | exact g_load_arr1 rfl rfl rfl rfl (by assumption) | exact g_load_arr rfl rfl rfl rfl (by first | rfl | omega) (by first | assumption | rfl) (by first | assumption | rfl)) rfl ?_
      refine AL.p (by first | exact g_assign (r := .d _) rfl | exact g_assign (r := .own _ _) rfl | exact g_assign (r := .ptr _ _) rfl | exact g_assign (r := .agg _) rfl | exact g_assign (r := .tup _) rfl | exact g_assign (r := .clo _ _) rfl | exact g_assign (r := .tight _ _ _) rfl | exact g_assign (r := .und) rfl | exact g_assign (r := .dead) rfl) rfl ?_
      refine AL.nil ?_
      refine th_n ?_
      refine AC.seq ?_
      refine AC.region ?_
      refine AL.p (by first | exact g_move (r := .d _) rfl | exact g_move (r := .own _ _) rfl | exact g_move (r := .ptr _ _) rfl | exact g_move (r := .agg _) rfl | exact g_move (r := .tup _) rfl | exact g_move (r := .clo _ _) rfl | exact g_move (r := .tight _ _ _) rfl | exact g_move (r := .und) rfl | exact g_move (r := .dead) rfl) rfl ?_
      refine AL.p (by first | exact g_move (r := .d _) rfl | exact g_move (r := .own _ _) rfl | exact g_move (r := .ptr _ _) rfl | exact g_move (r := .agg _) rfl | exact g_move (r := .tup _) rfl | exact g_move (r := .clo _ _) rfl | exact g_move (r := .tight _ _ _) rfl | exact g_move (r := .und) rfl | exact g_move (r := .dead) rfl) rfl ?_
      refine AL.p (by first | exact g_cmp rfl rfl rfl | exact g_scmp rfl rfl rfl | exact g_eqB rfl rfl rfl | exact g_neB rfl rfl rfl) rfl ?_
      refine AL.nil ?_
      refine th_n ?_
      first | refine AC.condD rfl (fun h1 => ?_) (fun h1 => ?_) | refine AC.condND rfl (fun h1 => ?_) (fun h1 => ?_) | refine AC.condB rfl (fun h1 => ?_) (fun h1 => ?_) | refine AC.condNB rfl (fun h1 => ?_) (fun h1 => ?_)
      · refine AC.seq ?_
        refine AC.region ?_
        refine AL.p (by first | exact g_assign (r := .d _) rfl | exact g_assign (r := .own _ _) rfl | exact g_assign (r := .ptr _ _) rfl | exact g_assign (r := .agg _) rfl | exact g_assign (r := .tup _) rfl | exact g_assign (r := .clo _ _) rfl | exact g_assign (r := .tight _ _ _) rfl | exact g_assign (r := .und) rfl | exact g_assign (r := .dead) rfl) rfl ?_
        refine AL.nil ?_
        refine th_n ?_
        refine AC.ret ?_
        refine ib_r ?_
        refine th_r ?_
        refine th_r ?_
        refine ib_r ?_
        refine th_r ?_
        refine bq_r ?_
        exact ret1 rfl (by rw [hasI, List.any_eq_true.2 ⟨_, List.getElem_mem hk1, by simpa using h1⟩])
      · refine AC.skip ?_
        refine ib_n ?_
        refine th_n ?_
        refine AC.region ?_
        refine AL.p (by first | exact g_arith rfl rfl rfl (by first | exact wrap_i64 (by omega) | exact wrap_u8 (by omega) | exact wrap_u64 (by omega) | rfl) | exact g_sadd rfl rfl (by first | assumption | omega | (simp only [ByteArray.size_append, bstr_size, List.length_take, List.length_drop, List.length_cons, List.length_nil]; omega))) rfl ?_
        refine AL.p (by first | exact g_move (r := .d _) rfl | exact g_move (r := .own _ _) rfl | exact g_move (r := .ptr _ _) rfl | exact g_move (r := .agg _) rfl | exact g_move (r := .tup _) rfl | exact g_move (r := .clo _ _) rfl | exact g_move (r := .tight _ _ _) rfl | exact g_move (r := .und) rfl | exact g_move (r := .dead) rfl) rfl ?_
        refine AL.nil ?_
        refine th_n ?_
        exact ⟨k + 1, ⟨by omega, fun j hj hj2 => by rcases Nat.lt_succ_iff_lt_or_eq.1 hj2 with h | rfl; exact hall j hj h; simpa using h1⟩, by omega, Weak.ren _ [] hC rfl (by repeat (first | exact True.intro | refine And.intro ?_ ?_ | exact DLead.same | exact DLead.eqI (by omega) | exact DLead.nil | exact rfl)) (by repeat (first | exact True.intro | refine And.intro ?_ ?_ | exact DLead.same | exact DLead.eqI (by omega) | exact DLead.nil | exact rfl | refine ⟨_, _, rfl, rfl, ?_⟩ | refine ⟨_, rfl, ?_⟩ | refine ⟨_, _, rfl, ?_, ?_⟩)) rfl rfl rfl⟩
    · refine AC.exit ?_
      refine th_e ?_
      refine th_e ?_
      refine ib_y ?_
      refine th_n ?_
      refine AC.seq ?_
      refine AC.region ?_
      refine AL.p (by first | exact g_assign (r := .d _) rfl | exact g_assign (r := .own _ _) rfl | exact g_assign (r := .ptr _ _) rfl | exact g_assign (r := .agg _) rfl | exact g_assign (r := .tup _) rfl | exact g_assign (r := .clo _ _) rfl | exact g_assign (r := .tight _ _ _) rfl | exact g_assign (r := .und) rfl | exact g_assign (r := .dead) rfl) rfl ?_
      refine AL.nil ?_
      refine th_n ?_
      refine AC.ret ?_
      refine bq_r ?_
      exact ret1 rfl (by rw [hasI, List.any_eq_false.2 (fun x hx => by obtain ⟨j, hj, rfl⟩ := List.getElem_of_mem hx; have := hall j hj (by omega); rw [this]; decide)])
theorem en_lhas : Enters Try.prog 12 := enters_of Try.func12 rfl rfl
set_option maxHeartbeats 1000000 in
theorem big_spec (a b : List UInt8) (ha : a.length ≤ 9223372036854775807) (hb : b.length ≤ 9223372036854775807) : ASpec Try.prog 5 [.d (vB a), .d (vB b)] [] (Pure1 (aT (decide ((a.length : Int) > 1048576) || decide ((b.length : Int) > 1048576 - a.length)))) := by
  refine ASpec.of Try.func5 rfl rfl fun C hC => ?_
  refine AC.seq ?_
  refine AC.region ?_
  refine AL.p (by first | exact g_assign (r := .d _) rfl | exact g_assign (r := .own _ _) rfl | exact g_assign (r := .ptr _ _) rfl | exact g_assign (r := .agg _) rfl | exact g_assign (r := .tup _) rfl | exact g_assign (r := .clo _ _) rfl | exact g_assign (r := .tight _ _ _) rfl | exact g_assign (r := .und) rfl | exact g_assign (r := .dead) rfl) rfl ?_
  refine AL.nil ?_
  refine th_n ?_
  refine AC.seq ?_
  refine AC.region ?_
  refine AL.p (by first | exact g_move (r := .d _) rfl | exact g_move (r := .own _ _) rfl | exact g_move (r := .ptr _ _) rfl | exact g_move (r := .agg _) rfl | exact g_move (r := .tup _) rfl | exact g_move (r := .clo _ _) rfl | exact g_move (r := .tight _ _ _) rfl | exact g_move (r := .und) rfl | exact g_move (r := .dead) rfl) rfl ?_
  refine AL.p (by first | exact g_len_view rfl rfl (by first | exact List.length_map _ | rfl) | exact g_len_str rfl rfl rfl | exact g_len_nil rfl rfl | exact g_len_own (sz := 1) (els := []) (e' := 0) rfl rfl (by simp only [maxLen]; omega) | exact g_len_tight rfl rfl (by first | exact List.length_map _ | rfl)) rfl ?_
  refine AL.p (by first | exact g_cmp rfl rfl rfl | exact g_scmp rfl rfl rfl | exact g_eqB rfl rfl rfl | exact g_neB rfl rfl rfl) rfl ?_
  refine AL.p (by first | exact g_move (r := .d _) rfl | exact g_move (r := .own _ _) rfl | exact g_move (r := .ptr _ _) rfl | exact g_move (r := .agg _) rfl | exact g_move (r := .tup _) rfl | exact g_move (r := .clo _ _) rfl | exact g_move (r := .tight _ _ _) rfl | exact g_move (r := .und) rfl | exact g_move (r := .dead) rfl) rfl ?_
  first | refine AL.caseG rfl rfl (fun h0 => ?_) (fun h0 => ?_) | refine AL.caseGN rfl rfl (fun h0 => ?_) (fun h0 => ?_) | refine AL.caseGB rfl rfl (fun h0 => ?_) (fun h0 => ?_) | refine AL.caseGNB rfl rfl (fun h0 => ?_) (fun h0 => ?_)
  · refine AL.not rfl rfl rfl rfl rfl ?_
    refine AL.not rfl rfl rfl rfl rfl ?_
    refine AL.not rfl rfl rfl rfl rfl ?_
    refine AL.not rfl rfl rfl rfl rfl ?_
    refine AL.not rfl rfl rfl rfl rfl ?_
    refine AL.not rfl rfl rfl rfl rfl ?_
    refine AL.p (by first | exact g_pickT (r := .d _) rfl rfl | exact g_pickF (r := .d _) rfl rfl) rfl ?_
    refine AL.p (by first | exact g_assign (r := .d _) rfl | exact g_assign (r := .own _ _) rfl | exact g_assign (r := .ptr _ _) rfl | exact g_assign (r := .agg _) rfl | exact g_assign (r := .tup _) rfl | exact g_assign (r := .clo _ _) rfl | exact g_assign (r := .tight _ _ _) rfl | exact g_assign (r := .und) rfl | exact g_assign (r := .dead) rfl) rfl ?_
    refine AL.nil ?_
    refine th_n ?_
    refine AC.ret ?_
    refine bq_r ?_
    exact ret1 rfl (by simp [h0])
  · refine AL.yes rfl rfl rfl ?_
    refine AL.p (by first | exact g_move (r := .d _) rfl | exact g_move (r := .own _ _) rfl | exact g_move (r := .ptr _ _) rfl | exact g_move (r := .agg _) rfl | exact g_move (r := .tup _) rfl | exact g_move (r := .clo _ _) rfl | exact g_move (r := .tight _ _ _) rfl | exact g_move (r := .und) rfl | exact g_move (r := .dead) rfl) rfl ?_
    refine AL.yes rfl rfl rfl ?_
    refine AL.p (by first | exact g_len_view rfl rfl (by first | exact List.length_map _ | rfl) | exact g_len_str rfl rfl rfl | exact g_len_nil rfl rfl | exact g_len_own (sz := 1) (els := []) (e' := 0) rfl rfl (by simp only [maxLen]; omega) | exact g_len_tight rfl rfl (by first | exact List.length_map _ | rfl)) rfl ?_
    refine AL.yes rfl rfl rfl ?_
    refine AL.p (by first | exact g_move (r := .d _) rfl | exact g_move (r := .own _ _) rfl | exact g_move (r := .ptr _ _) rfl | exact g_move (r := .agg _) rfl | exact g_move (r := .tup _) rfl | exact g_move (r := .clo _ _) rfl | exact g_move (r := .tight _ _ _) rfl | exact g_move (r := .und) rfl | exact g_move (r := .dead) rfl) rfl ?_
    refine AL.yes rfl rfl rfl ?_
    refine AL.p (by first | exact g_len_view rfl rfl (by first | exact List.length_map _ | rfl) | exact g_len_str rfl rfl rfl | exact g_len_nil rfl rfl | exact g_len_own (sz := 1) (els := []) (e' := 0) rfl rfl (by simp only [maxLen]; omega) | exact g_len_tight rfl rfl (by first | exact List.length_map _ | rfl)) rfl ?_
    refine AL.yes rfl rfl rfl ?_
    refine AL.p (by exact g_arith rfl rfl rfl (by first | exact wrap_i64 (by omega) | exact wrap_u8 (by omega) | exact wrap_u64 (by omega) | rfl)) rfl ?_
    refine AL.yes rfl rfl rfl ?_
    refine AL.p (by first | exact g_cmp rfl rfl rfl | exact g_scmp rfl rfl rfl | exact g_eqB rfl rfl rfl | exact g_neB rfl rfl rfl) rfl ?_
    refine AL.p (by first | exact g_pickT (r := .d _) rfl rfl | exact g_pickF (r := .d _) rfl rfl) rfl ?_
    refine AL.p (by first | exact g_assign (r := .d _) rfl | exact g_assign (r := .own _ _) rfl | exact g_assign (r := .ptr _ _) rfl | exact g_assign (r := .agg _) rfl | exact g_assign (r := .tup _) rfl | exact g_assign (r := .clo _ _) rfl | exact g_assign (r := .tight _ _ _) rfl | exact g_assign (r := .und) rfl | exact g_assign (r := .dead) rfl) rfl ?_
    refine AL.nil ?_
    refine th_n ?_
    refine AC.ret ?_
    refine bq_r ?_
    exact ret1 rfl (by simp [h0])
theorem en_big : Enters Try.prog 5 := enters_of Try.func5 rfl rfl
end Go.Proofs.Ythhfhpeeinohiaa
