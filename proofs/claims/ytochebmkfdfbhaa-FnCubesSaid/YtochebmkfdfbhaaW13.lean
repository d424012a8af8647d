/- Walks: subsets, markings, spoilt texts. -/
import Derived.Test.YtochebmkfdfbhaaW12
set_option linter.all false
namespace Go.Proofs.Ytochebmkfdfbhaa
open Go.RowKit

def subN (n : Int) : Nat → Cur → List Int → List Int × Cur
  | 0, c, s => (s, c)
  | j + 1, c, s => subN n j (c.pick n).2 (putI s (c.pick n).1)
theorem subN_len (n : Int) : ∀ (j : Nat) (c : Cur) (s : List Int), (subN n j c s).1.length ≤ s.length + j ∧ (subN n j c s).2.pos ≤ c.pos + 2 * j ∧ (subN n j c s).2.code = c.code
  | 0, c, s => ⟨Nat.le_refl _, Nat.le_refl _, rfl⟩
  | j + 1, c, s => by
    have h := subN_len n j (c.pick n).2 (putI s (c.pick n).1)
    have h1 := putI_len s (c.pick n).1
    have h2 := c.pick_pos n
    have h3 := c.pick_code n
    refine ⟨?_, ?_, ?_⟩
    · simp only [subN]; omega
    · simp only [subN]; omega
    · simp only [subN]; rw [h.2.2, h3]
def Cur.subset (c : Cur) (n k : Int) : List Int × Cur := subN n (1 + (c.pick k).1).toNat (c.pick k).2 []
theorem Cur.subset_in (c : Cur) (n k : Int) (hk : 1 ≤ k) : ((c.subset n k).1.length : Int) ≤ k ∧ ((c.subset n k).2.pos : Int) ≤ c.pos + 2 * k + 2 ∧ (c.subset n k).2.code = c.code := by
  have h := subN_len n (1 + (c.pick k).1).toNat (c.pick k).2 []
  have h1 := c.pick_in k hk
  have h2 := c.pick_pos k
  have h3 := c.pick_code k
  simp only [List.length_nil] at h
  refine ⟨?_, ?_, ?_⟩
  · show ((subN _ _ _ _).1.length : Int) ≤ _; omega
  · show ((subN _ _ _ _).2.pos : Int) ≤ _; omega
  · show (subN _ _ _ _).2.code = _; rw [h.2.2, h3]
theorem of_spec (c : Cur) (els : List (List DV)) (st : ByteArray) (h0 : 0 < els.length) (hl : els.length ≤ 65536) (hp : c.pos ≤ 100000000000000) (hget : els[(c.pick els.length).1.toNat]? = some [dS st]) : ASpec Try.prog 39 [.ptr 0 0, .d (.view 9 1 els)] [(0, curC c)] (Fun1 (aS st) [(0, curC (c.pick els.length).2)]) := by
  have hi := c.pick_in els.length (by omega)
  have hI : (c.pick els.length).1 = (((c.pick els.length).1.toNat : Nat) : Int) := by omega
  refine ASpec.of Try.func39 rfl rfl fun C hC => ?_
  refine AC.seq ?_
  refine AC.region ?_
  refine AL.p (by first | exact as1 rfl | exact as2 rfl | exact as3 rfl | exact as4 rfl | exact as5 rfl | exact as6 rfl | exact as7 rfl | exact as8 rfl | exact as9 rfl) rfl ?_
  refine AL.nil ?_
  refine th_n ?_
  refine AC.seq ?_
  refine AC.region ?_
  refine AL.p (by first | exact mv1 rfl | exact mv2 rfl | exact mv3 rfl | exact mv4 rfl | exact mv5 rfl | exact mv6 rfl | exact mv7 rfl | exact mv8 rfl | exact mv9 rfl) rfl ?_
  refine AL.p (by first | exact mv1 rfl | exact mv2 rfl | exact mv3 rfl | exact mv4 rfl | exact mv5 rfl | exact mv6 rfl | exact mv7 rfl | exact mv8 rfl | exact mv9 rfl) rfl ?_
  refine AL.p (by first | exact mv1 rfl | exact mv2 rfl | exact mv3 rfl | exact mv4 rfl | exact mv5 rfl | exact mv6 rfl | exact mv7 rfl | exact mv8 rfl | exact mv9 rfl) rfl ?_
  refine AL.p (by first | exact g_len_view rfl rfl (by first | exact List.length_map _ | rfl) | exact g_len_str rfl rfl rfl | exact g_len_nil rfl rfl | exact g_len_own (sz := 1) (els := []) (e' := 0) rfl rfl (by simp only [maxLen]; omega) | exact g_len_tight rfl rfl (by first | exact List.length_map _ | rfl)) rfl ?_
  refine AL.q (by exact h_fun (cs := [0]) en_pick rfl rfl (by repeat (first | exact rfl | exact DLead.same | exact DLead.nil | refine ⟨_, _, rfl, ?_, ?_⟩ | refine ⟨_, rfl, ?_⟩ | exact ⟨_, rfl, rfl⟩)) (by repeat (first | exact True.intro | refine And.intro ?_ ?_ | exact DLead.same | exact DLead.eqI (by omega) | exact DLead.nil | exact rfl | refine ⟨_, _, rfl, rfl, ?_⟩ | refine ⟨_, rfl, ?_⟩ | refine ⟨_, _, rfl, ?_, ?_⟩)) (pick_spec _ _ (by first | assumption | omega) (by first | assumption | omega)) rfl rfl rfl rfl) rfl ?_
  refine AL.p (by first | exact g_ia_view rfl rfl rfl rfl rfl (by first | rfl | assumption) (by first | assumption | rfl) | exact g_ia_own rfl rfl rfl rfl rfl (by first | rfl | assumption) (by omega) (by first | exact Nat.mul_one _ | rfl | omega)) rfl ?_
  refine AL.p (by first | exact g_load_ref rfl rfl rfl | exact g_load_ptr rfl rfl rfl rfl rfl | exact g_load_refN rfl rfl rfl rfl | exact g_load_ptrN rfl rfl rfl rfl rfl | exact g_load_arr1 rfl rfl rfl rfl (by assumption) | exact g_load_arr rfl rfl rfl rfl (by first | rfl | omega) (by first | assumption | rfl) (by first | assumption | rfl)) rfl ?_
  refine AL.p (by first | exact as1 rfl | exact as2 rfl | exact as3 rfl | exact as4 rfl | exact as5 rfl | exact as6 rfl | exact as7 rfl | exact as8 rfl | exact as9 rfl) rfl ?_
  refine AL.nil ?_
  refine th_n ?_
  refine AC.ret ?_
  refine bq_r ?_
  exact retF rfl (by repeat (first | exact True.intro | refine And.intro ?_ ?_ | exact DLead.same | exact DLead.eqI (by omega) | exact DLead.nil | exact rfl | refine ⟨_, _, rfl, rfl, ?_⟩ | refine ⟨_, rfl, ?_⟩ | refine ⟨_, _, rfl, ?_, ?_⟩)) (by repeat (first | exact True.intro | refine And.intro ?_ ?_ | exact DLead.same | exact DLead.eqI (by omega) | exact DLead.nil | exact rfl | refine ⟨_, _, rfl, rfl, ?_⟩ | refine ⟨_, rfl, ?_⟩ | refine ⟨_, _, rfl, ?_, ?_⟩)) rfl
theorem en_of : Enters Try.prog 39 := enters_of Try.func39 rfl rfl
def bitOf (c : Cur) : UInt8 := if (c.pick 3).1 = 0 then 48 else 49
theorem bit_get (c : Cur) (hc : 0 ≤ (c.pick 3).1 ∧ (c.pick 3).1 < 3) : ([[dS (bstr [48])], [dS (bstr [49])], [dS (bstr [49])]] : List (List DV))[(c.pick 3).1.toNat]? = some [dS (bstr [bitOf c])] := by
  unfold bitOf
  have h : (c.pick 3).1 = 0 ∨ (c.pick 3).1 = 1 ∨ (c.pick 3).1 = 2 := by omega
  rcases h with h | h | h <;> rw [h] <;> rfl
def markN : Nat → Cur → List UInt8 → List UInt8 × Cur
  | 0, c, m => (m, c)
  | j + 1, c, m => markN j (c.pick 3).2 (m ++ [bitOf c])
theorem markN_len : ∀ (j : Nat) (c : Cur) (m : List UInt8), (markN j c m).1.length = m.length + j ∧ (markN j c m).2.pos ≤ c.pos + 2 * j ∧ (markN j c m).2.code = c.code
  | 0, c, m => ⟨rfl, Nat.le_refl _, rfl⟩
  | j + 1, c, m => by
    have h := markN_len j (c.pick 3).2 (m ++ [bitOf c])
    have h2 := c.pick_pos 3
    have h3 := c.pick_code 3
    simp only [List.length_append, List.length_cons, List.length_nil] at h
    refine ⟨?_, ?_, ?_⟩
    · simp only [markN]; omega
    · simp only [markN]; omega
    · simp only [markN]; rw [h.2.2, h3]
def Cur.markOf (c : Cur) (n : Int) : List UInt8 × Cur := markN n.toNat c []
end Go.Proofs.Ytochebmkfdfbhaa
