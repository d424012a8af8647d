/- Walks: sequences of firings; small laws. -/
import Derived.Test.YtochebmkfdfbhaaW8
import Derived.Test.YtochebmkfdfbhaaW2
set_option linter.all false
namespace Go.Proofs.Ytochebmkfdfbhaa
open Go.RowKit

theorem all_set {m : List UInt8} {p : Nat} {b : UInt8} (h : m.all bit = true) (hb : bit b = true) : (m.set p b).all bit = true := by
  rw [List.all_eq_true] at h ⊢
  intro x hx
  rcases List.mem_or_eq_of_mem_set hx with h' | rfl
  · exact h x h'
  · exact hb
theorem clear_bits (ps : List Int) : ∀ {m : List UInt8}, m.all bit = true → (clearAll ps m).all bit = true := by
  induction ps with
  | nil => intro m h; exact h
  | cons p ps ih => intro m h; exact ih (all_set h (by decide))
theorem put_bits : ∀ (ps : List Int) {m m' : List UInt8}, m.all bit = true → putAll ps m = some m' → m'.all bit = true ∧ m'.length = m.length
  | [], m, m', h, e => by simp only [putAll, Option.some.injEq] at e; subst e; exact ⟨h, rfl⟩
  | p :: ps, m, m', h, e => by
    simp only [putAll] at e
    split at e
    · cases e
    · have := put_bits ps (all_set (p := p.toNat) h (by decide : bit 49 = true)) e
      exact ⟨this.1, by rw [this.2, List.length_set]⟩
theorem fireT_bits {t : Tn} {m : List UInt8} {n : Int} (h : bitsB m n = true) (ho : (fireT t m).2 = true) : bitsB (fireT t m).1 n = true := by
  simp only [bitsB, Bool.and_eq_true, decide_eq_true_eq] at h ⊢
  unfold fireT at ho ⊢
  split at ho
  · rename_i m' e
    have := put_bits _ (clear_bits t.pre h.1) e
    exact ⟨this.1, by rw [this.2, clear_len]; exact h.2⟩
  · cases ho
theorem fireI_bits {N : Net} {m : List UInt8} {t n : Int} (h : bitsB m n = true) (ho : (fireI N m t).2 = true) : bitsB (fireI N m t).1 n = true := by
  unfold fireI at ho ⊢
  split at ho
  · rename_i x e
    split at ho
    · rename_i hc
      rw [if_pos hc]; exact fireT_bits h ho
    · cases ho
  · cases ho

def fireSeq (N : Net) : List UInt8 → List Int → Int → List UInt8 × Int × Bool
  | m, [], k => (m, k, true)
  | m, t :: ts, k => if (fireI N m t).2 then fireSeq N (fireI N m t).1 ts (k + 1) else (m, k, false)
def SeqI (N : Net) (m : List UInt8) (ts : List Int) : List UInt8 × Int × Bool := if (goodN N && bitsB m N.places) && decide ((ts.length : Int) ≤ 200) then fireSeq N m ts 0 else ([], 0, false)

theorem SeqI_yes {N : Net} {m : List UInt8} {ts : List Int} (h : ((goodN N && bitsB m N.places) && decide ((ts.length : Int) ≤ 200)) = true) : SeqI N m ts = fireSeq N m ts 0 := by rw [SeqI, h]; rfl
theorem SeqI_no {N : Net} {m : List UInt8} {ts : List Int} (h : ((goodN N && bitsB m N.places) && decide ((ts.length : Int) ≤ 200)) = false) : SeqI N m ts = ([], 0, false) := by rw [SeqI, h]; rfl

def hasI (l : List Int) (n : Int) : Bool := l.any (fun x => decide (x = n))
set_option maxHeartbeats 1000000 in
theorem big_spec (a b : List UInt8) (ha : a.length ≤ 9223372036854775807) (hb : b.length ≤ 9223372036854775807) : ASpec Try.prog 4 [.d (vB a), .d (vB b)] [] (Pure1 (aT (decide ((a.length : Int) > 1048576) || decide ((b.length : Int) > 1048576 - a.length)))) := by
  refine ASpec.of Try.func4 rfl rfl fun C hC => ?_
  refine AC.seq ?_
  refine AC.region ?_
  refine AL.p (by first | exact as1 rfl | exact as2 rfl | exact as3 rfl | exact as4 rfl | exact as5 rfl | exact as6 rfl | exact as7 rfl | exact as8 rfl | exact as9 rfl) rfl ?_
  refine AL.nil ?_
  refine th_n ?_
  refine AC.seq ?_
  refine AC.region ?_
  refine AL.p (by first | exact mv1 rfl | exact mv2 rfl | exact mv3 rfl | exact mv4 rfl | exact mv5 rfl | exact mv6 rfl | exact mv7 rfl | exact mv8 rfl | exact mv9 rfl) rfl ?_
  refine AL.p (by first | exact g_len_view rfl rfl (by first | exact List.length_map _ | rfl) | exact g_len_str rfl rfl rfl | exact g_len_nil rfl rfl | exact g_len_own (sz := 1) (els := []) (e' := 0) rfl rfl (by simp only [maxLen]; omega) | exact g_len_tight rfl rfl (by first | exact List.length_map _ | rfl)) rfl ?_
  refine AL.p (by first | exact g_cmp rfl rfl rfl | exact g_scmp rfl rfl rfl | exact g_eqB rfl rfl rfl | exact g_neB rfl rfl rfl) rfl ?_
  refine AL.p (by first | exact mv1 rfl | exact mv2 rfl | exact mv3 rfl | exact mv4 rfl | exact mv5 rfl | exact mv6 rfl | exact mv7 rfl | exact mv8 rfl | exact mv9 rfl) rfl ?_
  first | refine AL.caseG rfl rfl (fun h0 => ?_) (fun h0 => ?_) | refine AL.caseGN rfl rfl (fun h0 => ?_) (fun h0 => ?_) | refine AL.caseGB rfl rfl (fun h0 => ?_) (fun h0 => ?_) | refine AL.caseGNB rfl rfl (fun h0 => ?_) (fun h0 => ?_)
  · refine AL.not rfl rfl rfl rfl rfl ?_
    refine AL.not rfl rfl rfl rfl rfl ?_
    refine AL.not rfl rfl rfl rfl rfl ?_
    refine AL.not rfl rfl rfl rfl rfl ?_
    refine AL.not rfl rfl rfl rfl rfl ?_
    refine AL.not rfl rfl rfl rfl rfl ?_
    refine AL.p (by first | exact g_pickT (r := .d _) rfl rfl | exact g_pickF (r := .d _) rfl rfl) rfl ?_
    refine AL.p (by first | exact as1 rfl | exact as2 rfl | exact as3 rfl | exact as4 rfl | exact as5 rfl | exact as6 rfl | exact as7 rfl | exact as8 rfl | exact as9 rfl) rfl ?_
    refine AL.nil ?_
    refine th_n ?_
    refine AC.ret ?_
    refine bq_r ?_
    exact ret1 rfl (by simp [h0])
  · refine AL.yes rfl rfl rfl ?_
    refine AL.p (by first | exact mv1 rfl | exact mv2 rfl | exact mv3 rfl | exact mv4 rfl | exact mv5 rfl | exact mv6 rfl | exact mv7 rfl | exact mv8 rfl | exact mv9 rfl) rfl ?_
    refine AL.yes rfl rfl rfl ?_
    refine AL.p (by first | exact g_len_view rfl rfl (by first | exact List.length_map _ | rfl) | exact g_len_str rfl rfl rfl | exact g_len_nil rfl rfl | exact g_len_own (sz := 1) (els := []) (e' := 0) rfl rfl (by simp only [maxLen]; omega) | exact g_len_tight rfl rfl (by first | exact List.length_map _ | rfl)) rfl ?_
    refine AL.yes rfl rfl rfl ?_
    refine AL.p (by first | exact mv1 rfl | exact mv2 rfl | exact mv3 rfl | exact mv4 rfl | exact mv5 rfl | exact mv6 rfl | exact mv7 rfl | exact mv8 rfl | exact mv9 rfl) rfl ?_
    refine AL.yes rfl rfl rfl ?_
    refine AL.p (by first | exact g_len_view rfl rfl (by first | exact List.length_map _ | rfl) | exact g_len_str rfl rfl rfl | exact g_len_nil rfl rfl | exact g_len_own (sz := 1) (els := []) (e' := 0) rfl rfl (by simp only [maxLen]; omega) | exact g_len_tight rfl rfl (by first | exact List.length_map _ | rfl)) rfl ?_
    refine AL.yes rfl rfl rfl ?_
    refine AL.p (by exact g_arith rfl rfl rfl (by first | exact wrap_i64 (by omega) | exact wrap_u8 (by omega) | exact wrap_u64 (by omega) | rfl)) rfl ?_
    refine AL.yes rfl rfl rfl ?_
    refine AL.p (by first | exact g_cmp rfl rfl rfl | exact g_scmp rfl rfl rfl | exact g_eqB rfl rfl rfl | exact g_neB rfl rfl rfl) rfl ?_
    refine AL.p (by first | exact g_pickT (r := .d _) rfl rfl | exact g_pickF (r := .d _) rfl rfl) rfl ?_
    refine AL.p (by first | exact as1 rfl | exact as2 rfl | exact as3 rfl | exact as4 rfl | exact as5 rfl | exact as6 rfl | exact as7 rfl | exact as8 rfl | exact as9 rfl) rfl ?_
    refine AL.nil ?_
    refine th_n ?_
    refine AC.ret ?_
    refine bq_r ?_
    exact ret1 rfl (by simp [h0])
theorem en_big : Enters Try.prog 4 := enters_of Try.func4 rfl rfl
end Go.Proofs.Ytochebmkfdfbhaa
